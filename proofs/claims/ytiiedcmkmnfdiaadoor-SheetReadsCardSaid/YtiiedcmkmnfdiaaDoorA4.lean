/-
  The point at a text's front: the program's function.
-/
import Derived.Test.YtiiedcmkmnfdiaaDoorA3
namespace Go.Ab
set_option linter.unusedVariables false
set_option linter.unusedSimpArgs false
variable {A : AP} {st s : St} {e : Env}

/-- What is asked within a scope that has one label. -/
def scopeQ (A : AP) (b rest : ACode) (Q : Ex → Env → St → Prop) : Ex → Env → St → Prop
  | .goto l, e, s => if l = 0 then W A (.scopeAt b rest) e s Q else False
  | x, e, s => Q x e s
theorem W_scope1 {b rest : ACode} {Q : Ex → Env → St → Prop} (hl : findLabelA b 0 = some rest) (h : W A b e st (scopeQ A b rest Q)) : W A (.scope b) e st Q := by
  rw [W_scope]
  refine W_scopeAt (W_mono h ?_)
  intro x e s hq
  cases x with
  | goto l =>
    simp only [scopeQ] at hq
    split at hq
    · rename_i h0; subst h0
      simp only [hl]; exact hq
    · cases hq
  | normal => exact hq
  | ret => exact hq
  | exit i => exact hq

theorem mid_getD {l : List UInt8} {n k : Nat} (h : k + 1 < n) : ((l.take n).drop 1).getD k 0 = l.getD (k + 1) 0 := by
  simp only [List.getD, List.getElem?_drop, List.getElem?_take]
  rw [if_pos (by omega), Nat.add_comm]

set_option maxHeartbeats 1000000 in
theorem uNext_spec {x : PV} {l : List UInt8} (hx : x.by = some l) (hl : l.length ≤ 100000000) : call prog (.fn 77 []) [x] st = some (nextV l, st) := by
  refine call_of_W prog_77 ?_
  unfold F_utf_Next; dsimp only
  refine W_cut (fun E S => Kept st S ∧ E 0 = x) ?_ ?_
  · simp (maxSteps := 1000000) (disch := omega) only [qaaz, qabz, qacz, qadz, qaez, qafz, qagz, qahz, qaiz, qajz, qakz, qalz, qamz, qanz, evOp, qaoz, qapz, qaqz, qarz, qasz, qatz, qauz, qavz,
 ↓reduceIte, Nat.reduceEqDiff, List.nil_append, List.cons_append, List.append_nil, List.map_cons, List.map_nil, qawz, qaxz, qayz, Option.map_some, Option.map_none, qazz, qbaz, qbbz, qbcz, qbdz, qbez, qbfz, qbgz, qbhz, qbiz, qbjz, qbkz, qblz, qbmz, qbnz, qboz,
 qbpz, qbqz, qbrz, qbsz, qbtz, qbuz, qbvz, qbwz, qbxz, qbyz, qbzz, qcaz, qcbz, qccz, qcdz, qcez, qcfz, qcgz, qchz, qciz, beq_true, beq_false, Bool.not_eq_true', decide_eq_true_eq, decide_eq_false_iff_not, decide_true, decide_false,
 Int.toNat_natCast, Int.ofNat_lt, Int.ofNat_le, Int.natCast_inj, Bool.false_eq_true, Bool.true_eq_false, qcjz, List.getElem?_cons_zero, List.getElem?_cons_succ, qckz, Int.reduceToNat, Int.reduceLE, true_and, and_true, reduceCtorEq, or_false, false_or, or_true, Option.some.injEq, exists_eq_left', Bool.not_true, Bool.not_false, ne_eq, Int.reduceEq, not_true_eq_false, not_false_eq_true, Int.reduceLT, UInt8.reduceLT, UInt8.reduceLE, UInt8.reduceToNat]
    exact Kept.start
  rintro e S ⟨hk, h0⟩
  refine W_scope1 rfl ?_
  generalize hR : scopeQ prog _ _ _ = R
  have fin : ∀ (E : Env) (S : St) (p n c : Int), Kept st S → nextV l = .tup [.int .i32 p, .int .i64 n, .int .i64 c] → E 2 = .int .i32 p → E 3 = .int .i64 n → E 4 = .int .i64 c → R .ret E S := by
    intro E S p n c k1 hv k2 k3 k4
    rw [← hR]
    show endQ _ _ _ .ret E S
    rw [qblz]
    exact ⟨.tup [.int .i32 p, .int .i64 n, .int .i64 c], by simp [resOf, rvAll, rv1, k2, k3, k4, notTup, packRes], by rw [hv]; exact k1.leave rfl (fun _ _ => rfl)⟩
  have wrong : ∀ (E : Env) (S : St), Kept st S → nextOf l = none → l ≠ [] → R (.goto 0) E S := by
    intro E S k1 hv hne
    rw [← hR]
    simp only [scopeQ, if_true]
    refine W_scopeAt ?_
    simp (maxSteps := 1000000) (disch := omega) only [qaaz, qabz, qacz, qadz, qaez, qafz, qagz, qahz, qaiz, qajz, qakz, qalz, qamz, qanz, evOp, qaoz, qapz, qaqz, qarz, qasz, qatz, qauz, qavz,
 ↓reduceIte, Nat.reduceEqDiff, List.nil_append, List.cons_append, List.append_nil, List.map_cons, List.map_nil, qawz, qaxz, qayz, Option.map_some, Option.map_none, qazz, qbaz, qbbz, qbcz, qbdz, qbez, qbfz, qbgz, qbhz, qbiz, qbjz, qbkz, qblz, qbmz, qbnz, qboz,
 qbpz, qbqz, qbrz, qbsz, qbtz, qbuz, qbvz, qbwz, qbxz, qbyz, qbzz, qcaz, qcbz, qccz, qcdz, qcez, qcfz, qcgz, qchz, qciz, beq_true, beq_false, Bool.not_eq_true', decide_eq_true_eq, decide_eq_false_iff_not, decide_true, decide_false,
 Int.toNat_natCast, Int.ofNat_lt, Int.ofNat_le, Int.natCast_inj, Bool.false_eq_true, Bool.true_eq_false, qcjz, List.getElem?_cons_zero, List.getElem?_cons_succ, qckz, Int.reduceToNat, Int.reduceLE, true_and, and_true, reduceCtorEq, or_false, false_or, or_true, Option.some.injEq, exists_eq_left', Bool.not_true, Bool.not_false, ne_eq, Int.reduceEq, not_true_eq_false, not_false_eq_true, Int.reduceLT, UInt8.reduceLT, UInt8.reduceLE, UInt8.reduceToNat]
    exact ⟨.tup [.int .i32 0, .int .i64 0, .int .i64 20], rfl, by rw [nextV_none hv hne]; exact k1.leave rfl (fun _ _ => rfl)⟩
  clear hR
  by_cases hne : l = []
  · have e1 : decide ((l.length : Int) = 0) = true := by simp [hne]
    simp (maxSteps := 1000000) (disch := omega) only [h0, len_by hx, e1, qaaz, qabz, qacz, qadz, qaez, qafz, qagz, qahz, qaiz, qajz, qakz, qalz, qamz, qanz, evOp, qaoz, qapz, qaqz, qarz, qasz, qatz, qauz, qavz,
 ↓reduceIte, Nat.reduceEqDiff, List.nil_append, List.cons_append, List.append_nil, List.map_cons, List.map_nil, qawz, qaxz, qayz, Option.map_some, Option.map_none, qazz, qbaz, qbbz, qbcz, qbdz, qbez, qbfz, qbgz, qbhz, qbiz, qbjz, qbkz, qblz, qbmz, qbnz, qboz,
 qbpz, qbqz, qbrz, qbsz, qbtz, qbuz, qbvz, qbwz, qbxz, qbyz, qbzz, qcaz, qcbz, qccz, qcdz, qcez, qcfz, qcgz, qchz, qciz, beq_true, beq_false, Bool.not_eq_true', decide_eq_true_eq, decide_eq_false_iff_not, decide_true, decide_false,
 Int.toNat_natCast, Int.ofNat_lt, Int.ofNat_le, Int.natCast_inj, Bool.false_eq_true, Bool.true_eq_false, qcjz, List.getElem?_cons_zero, List.getElem?_cons_succ, qckz, Int.reduceToNat, Int.reduceLE, true_and, and_true, reduceCtorEq, or_false, false_or, or_true, Option.some.injEq, exists_eq_left', Bool.not_true, Bool.not_false, ne_eq, Int.reduceEq, not_true_eq_false, not_false_eq_true, Int.reduceLT, UInt8.reduceLT, UInt8.reduceLE, UInt8.reduceToNat]
    exact fin _ _ 0 0 42 hk (by simp [nextV, nextOf, hne]) rfl rfl rfl
  have hlen : 0 < l.length := List.length_pos_iff.2 hne
  have e1 : ¬ ((l.length : Int) = 0) := by omega
  obtain ⟨c, hc⟩ : ∃ c, c = l.getD 0 0 := ⟨_, rfl⟩
  have hi0 : iaddrPV 1 x (.int .i64 0) = some (.cp [.b8 c]) := by rw [hc]; exact iaddr_by hx (by omega) (by simpa using hlen)
  by_cases h128 : c < 128
  · have h128' : c.toNat < 128 := by rw [UInt8.lt_iff_toNat_lt] at h128; simpa using h128
    simp (maxSteps := 1000000) (disch := omega) only [h0, len_by hx, e1, hi0, qciz, h128, cI32, qaaz, qabz, qacz, qadz, qaez, qafz, qagz, qahz, qaiz, qajz, qakz, qalz, qamz, qanz, evOp, qaoz, qapz, qaqz, qarz, qasz, qatz, qauz, qavz,
 ↓reduceIte, Nat.reduceEqDiff, List.nil_append, List.cons_append, List.append_nil, List.map_cons, List.map_nil, qawz, qaxz, qayz, Option.map_some, Option.map_none, qazz, qbaz, qbbz, qbcz, qbdz, qbez, qbfz, qbgz, qbhz, qbiz, qbjz, qbkz, qblz, qbmz, qbnz, qboz,
 qbpz, qbqz, qbrz, qbsz, qbtz, qbuz, qbvz, qbwz, qbxz, qbyz, qbzz, qcaz, qcbz, qccz, qcdz, qcez, qcfz, qcgz, qchz, qciz, beq_true, beq_false, Bool.not_eq_true', decide_eq_true_eq, decide_eq_false_iff_not, decide_true, decide_false,
 Int.toNat_natCast, Int.ofNat_lt, Int.ofNat_le, Int.natCast_inj, Bool.false_eq_true, Bool.true_eq_false, qcjz, List.getElem?_cons_zero, List.getElem?_cons_succ, qckz, Int.reduceToNat, Int.reduceLE, true_and, and_true, reduceCtorEq, or_false, false_or, or_true, Option.some.injEq, exists_eq_left', Bool.not_true, Bool.not_false, ne_eq, Int.reduceEq, not_true_eq_false, not_false_eq_true, Int.reduceLT, UInt8.reduceLT, UInt8.reduceLE, UInt8.reduceToNat]
    exact fin _ _ (c.toNat : Int) 1 0 hk (nextV_some (p := c.toNat) (n := 1) (by unfold nextOf; rw [if_neg hne, ← hc, if_pos h128'])) rfl rfl rfl
  have h128' : ¬ c.toNat < 128 := by rw [UInt8.lt_iff_toNat_lt] at h128; simpa using h128
  obtain ⟨p, n, hpn⟩ : ∃ p n, lead c.toNat = (p, n) := ⟨_, _, rfl⟩
  have hnx : nextOf l = if n = 0 ∨ l.length < n ∨ ¬ contB l (n - 1) ∨ ¬ pointN (accP l p (n - 1)) ∨ accP l p (n - 1) < lowN n then none else some (accP l p (n - 1), n) := by
    unfold nextOf
    rw [if_neg hne, ← hc, if_neg h128', hpn]
  refine W_cut (fun E S => Kept st S ∧ E 0 = x ∧ E 5 = .int .i32 0) ?_ ?_
  · simp (maxSteps := 1000000) (disch := omega) only [h0, qaaz, qabz, qacz, qadz, qaez, qafz, qagz, qahz, qaiz, qajz, qakz, qalz, qamz, qanz, evOp, qaoz, qapz, qaqz, qarz, qasz, qatz, qauz, qavz,
 ↓reduceIte, Nat.reduceEqDiff, List.nil_append, List.cons_append, List.append_nil, List.map_cons, List.map_nil, qawz, qaxz, qayz, Option.map_some, Option.map_none, qazz, qbaz, qbbz, qbcz, qbdz, qbez, qbfz, qbgz, qbhz, qbiz, qbjz, qbkz, qblz, qbmz, qbnz, qboz,
 qbpz, qbqz, qbrz, qbsz, qbtz, qbuz, qbvz, qbwz, qbxz, qbyz, qbzz, qcaz, qcbz, qccz, qcdz, qcez, qcfz, qcgz, qchz, qciz, beq_true, beq_false, Bool.not_eq_true', decide_eq_true_eq, decide_eq_false_iff_not, decide_true, decide_false,
 Int.toNat_natCast, Int.ofNat_lt, Int.ofNat_le, Int.natCast_inj, Bool.false_eq_true, Bool.true_eq_false, qcjz, List.getElem?_cons_zero, List.getElem?_cons_succ, qckz, Int.reduceToNat, Int.reduceLE, true_and, and_true, reduceCtorEq, or_false, false_or, or_true, Option.some.injEq, exists_eq_left', Bool.not_true, Bool.not_false, ne_eq, Int.reduceEq, not_true_eq_false, not_false_eq_true, Int.reduceLT, UInt8.reduceLT, UInt8.reduceLE, UInt8.reduceToNat]
    exact hk
  clear hk h0
  rintro e S ⟨hk, h0, h5⟩
  refine W_cut (fun E S => Kept st S ∧ E 0 = x ∧ E 5 = .int .i32 0 ∧ E 6 = .int .i64 0) ?_ ?_
  · simp (maxSteps := 1000000) (disch := omega) only [h0, h5, qaaz, qabz, qacz, qadz, qaez, qafz, qagz, qahz, qaiz, qajz, qakz, qalz, qamz, qanz, evOp, qaoz, qapz, qaqz, qarz, qasz, qatz, qauz, qavz,
 ↓reduceIte, Nat.reduceEqDiff, List.nil_append, List.cons_append, List.append_nil, List.map_cons, List.map_nil, qawz, qaxz, qayz, Option.map_some, Option.map_none, qazz, qbaz, qbbz, qbcz, qbdz, qbez, qbfz, qbgz, qbhz, qbiz, qbjz, qbkz, qblz, qbmz, qbnz, qboz,
 qbpz, qbqz, qbrz, qbsz, qbtz, qbuz, qbvz, qbwz, qbxz, qbyz, qbzz, qcaz, qcbz, qccz, qcdz, qcez, qcfz, qcgz, qchz, qciz, beq_true, beq_false, Bool.not_eq_true', decide_eq_true_eq, decide_eq_false_iff_not, decide_true, decide_false,
 Int.toNat_natCast, Int.ofNat_lt, Int.ofNat_le, Int.natCast_inj, Bool.false_eq_true, Bool.true_eq_false, qcjz, List.getElem?_cons_zero, List.getElem?_cons_succ, qckz, Int.reduceToNat, Int.reduceLE, true_and, and_true, reduceCtorEq, or_false, false_or, or_true, Option.some.injEq, exists_eq_left', Bool.not_true, Bool.not_false, ne_eq, Int.reduceEq, not_true_eq_false, not_false_eq_true, Int.reduceLT, UInt8.reduceLT, UInt8.reduceLE, UInt8.reduceToNat]
    exact hk
  clear hk h0 h5
  rintro e S ⟨hk, h0, h5, h6⟩
  refine W_cut (fun E S => Kept st S ∧ E 0 = x ∧ E 5 = .int .i32 0 ∧ E 6 = .int .i64 0) ?_ ?_
  · simp (maxSteps := 1000000) (disch := omega) only [h0, h5, h6, len_by hx, e1, qaaz, qabz, qacz, qadz, qaez, qafz, qagz, qahz, qaiz, qajz, qakz, qalz, qamz, qanz, evOp, qaoz, qapz, qaqz, qarz, qasz, qatz, qauz, qavz,
 ↓reduceIte, Nat.reduceEqDiff, List.nil_append, List.cons_append, List.append_nil, List.map_cons, List.map_nil, qawz, qaxz, qayz, Option.map_some, Option.map_none, qazz, qbaz, qbbz, qbcz, qbdz, qbez, qbfz, qbgz, qbhz, qbiz, qbjz, qbkz, qblz, qbmz, qbnz, qboz,
 qbpz, qbqz, qbrz, qbsz, qbtz, qbuz, qbvz, qbwz, qbxz, qbyz, qbzz, qcaz, qcbz, qccz, qcdz, qcez, qcfz, qcgz, qchz, qciz, beq_true, beq_false, Bool.not_eq_true', decide_eq_true_eq, decide_eq_false_iff_not, decide_true, decide_false,
 Int.toNat_natCast, Int.ofNat_lt, Int.ofNat_le, Int.natCast_inj, Bool.false_eq_true, Bool.true_eq_false, qcjz, List.getElem?_cons_zero, List.getElem?_cons_succ, qckz, Int.reduceToNat, Int.reduceLE, true_and, and_true, reduceCtorEq, or_false, false_or, or_true, Option.some.injEq, exists_eq_left', Bool.not_true, Bool.not_false, ne_eq, Int.reduceEq, not_true_eq_false, not_false_eq_true, Int.reduceLT, UInt8.reduceLT, UInt8.reduceLE, UInt8.reduceToNat]
    exact hk
  clear hk h0 h5 h6
  rintro e S ⟨hk, h0, h5, h6⟩
  refine W_cut (fun E S => Kept st S ∧ E 0 = x ∧ E 5 = .int .i32 (p : Int) ∧ E 6 = .int .i64 (n : Int)) ?_ ?_
  · by_cases q2 : UInt8.ofNat (c.toNat / 32) = 6
    · have := (is2 c).1 q2
      obtain ⟨rfl, rfl⟩ : p = c.toNat % 32 ∧ n = 2 := by
        unfold lead at hpn; rw [if_pos this] at hpn; cases hpn; exact ⟨rfl, rfl⟩
      simp (maxSteps := 1000000) (disch := omega) only [h0, h5, h6, hi0, qciz, h128, shr5, eq_true q2, and_8, cI32, and31, qaaz, qabz, qacz, qadz, qaez, qafz, qagz, qahz, qaiz, qajz, qakz, qalz, qamz, qanz, evOp, qaoz, qapz, qaqz, qarz, qasz, qatz, qauz, qavz,
 ↓reduceIte, Nat.reduceEqDiff, List.nil_append, List.cons_append, List.append_nil, List.map_cons, List.map_nil, qawz, qaxz, qayz, Option.map_some, Option.map_none, qazz, qbaz, qbbz, qbcz, qbdz, qbez, qbfz, qbgz, qbhz, qbiz, qbjz, qbkz, qblz, qbmz, qbnz, qboz,
 qbpz, qbqz, qbrz, qbsz, qbtz, qbuz, qbvz, qbwz, qbxz, qbyz, qbzz, qcaz, qcbz, qccz, qcdz, qcez, qcfz, qcgz, qchz, qciz, beq_true, beq_false, Bool.not_eq_true', decide_eq_true_eq, decide_eq_false_iff_not, decide_true, decide_false,
 Int.toNat_natCast, Int.ofNat_lt, Int.ofNat_le, Int.natCast_inj, Bool.false_eq_true, Bool.true_eq_false, qcjz, List.getElem?_cons_zero, List.getElem?_cons_succ, qckz, Int.reduceToNat, Int.reduceLE, true_and, and_true, reduceCtorEq, or_false, false_or, or_true, Option.some.injEq, exists_eq_left', Bool.not_true, Bool.not_false, ne_eq, Int.reduceEq, not_true_eq_false, not_false_eq_true, Int.reduceLT, UInt8.reduceLT, UInt8.reduceLE, UInt8.reduceToNat]
      exact ⟨hk, rfl⟩
    have n2 : ¬ (192 ≤ c.toNat ∧ c.toNat < 224) := fun h => q2 ((is2 c).2 h)
    by_cases q3 : UInt8.ofNat (c.toNat / 16) = 14
    · have := (is3 c).1 q3
      obtain ⟨rfl, rfl⟩ : p = c.toNat % 16 ∧ n = 3 := by
        unfold lead at hpn; rw [if_neg n2, if_pos this] at hpn; cases hpn; exact ⟨rfl, rfl⟩
      simp (maxSteps := 1000000) (disch := omega) only [h0, h5, h6, hi0, qciz, h128, shr5, shr4, q2, eq_true q3, and_8, cI32, and15, qaaz, qabz, qacz, qadz, qaez, qafz, qagz, qahz, qaiz, qajz, qakz, qalz, qamz, qanz, evOp, qaoz, qapz, qaqz, qarz, qasz, qatz, qauz, qavz,
 ↓reduceIte, Nat.reduceEqDiff, List.nil_append, List.cons_append, List.append_nil, List.map_cons, List.map_nil, qawz, qaxz, qayz, Option.map_some, Option.map_none, qazz, qbaz, qbbz, qbcz, qbdz, qbez, qbfz, qbgz, qbhz, qbiz, qbjz, qbkz, qblz, qbmz, qbnz, qboz,
 qbpz, qbqz, qbrz, qbsz, qbtz, qbuz, qbvz, qbwz, qbxz, qbyz, qbzz, qcaz, qcbz, qccz, qcdz, qcez, qcfz, qcgz, qchz, qciz, beq_true, beq_false, Bool.not_eq_true', decide_eq_true_eq, decide_eq_false_iff_not, decide_true, decide_false,
 Int.toNat_natCast, Int.ofNat_lt, Int.ofNat_le, Int.natCast_inj, Bool.false_eq_true, Bool.true_eq_false, qcjz, List.getElem?_cons_zero, List.getElem?_cons_succ, qckz, Int.reduceToNat, Int.reduceLE, true_and, and_true, reduceCtorEq, or_false, false_or, or_true, Option.some.injEq, exists_eq_left', Bool.not_true, Bool.not_false, ne_eq, Int.reduceEq, not_true_eq_false, not_false_eq_true, Int.reduceLT, UInt8.reduceLT, UInt8.reduceLE, UInt8.reduceToNat]
      exact ⟨hk, rfl⟩
    have n3 : ¬ (224 ≤ c.toNat ∧ c.toNat < 240) := fun h => q3 ((is3 c).2 h)
    by_cases q4 : UInt8.ofNat (c.toNat / 8) = 30
    · have := (is4 c).1 q4
      obtain ⟨rfl, rfl⟩ : p = c.toNat % 8 ∧ n = 4 := by
        unfold lead at hpn; rw [if_neg n2, if_neg n3, if_pos this] at hpn; cases hpn; exact ⟨rfl, rfl⟩
      simp (maxSteps := 1000000) (disch := omega) only [h0, h5, h6, hi0, qciz, h128, shr5, shr4, shr3, q2, q3, eq_true q4, and_8, cI32, and7, qaaz, qabz, qacz, qadz, qaez, qafz, qagz, qahz, qaiz, qajz, qakz, qalz, qamz, qanz, evOp, qaoz, qapz, qaqz, qarz, qasz, qatz, qauz, qavz,
 ↓reduceIte, Nat.reduceEqDiff, List.nil_append, List.cons_append, List.append_nil, List.map_cons, List.map_nil, qawz, qaxz, qayz, Option.map_some, Option.map_none, qazz, qbaz, qbbz, qbcz, qbdz, qbez, qbfz, qbgz, qbhz, qbiz, qbjz, qbkz, qblz, qbmz, qbnz, qboz,
 qbpz, qbqz, qbrz, qbsz, qbtz, qbuz, qbvz, qbwz, qbxz, qbyz, qbzz, qcaz, qcbz, qccz, qcdz, qcez, qcfz, qcgz, qchz, qciz, beq_true, beq_false, Bool.not_eq_true', decide_eq_true_eq, decide_eq_false_iff_not, decide_true, decide_false,
 Int.toNat_natCast, Int.ofNat_lt, Int.ofNat_le, Int.natCast_inj, Bool.false_eq_true, Bool.true_eq_false, qcjz, List.getElem?_cons_zero, List.getElem?_cons_succ, qckz, Int.reduceToNat, Int.reduceLE, true_and, and_true, reduceCtorEq, or_false, false_or, or_true, Option.some.injEq, exists_eq_left', Bool.not_true, Bool.not_false, ne_eq, Int.reduceEq, not_true_eq_false, not_false_eq_true, Int.reduceLT, UInt8.reduceLT, UInt8.reduceLE, UInt8.reduceToNat]
      exact ⟨hk, rfl⟩
    have n4 : ¬ (240 ≤ c.toNat ∧ c.toNat < 248) := fun h => q4 ((is4 c).2 h)
    obtain ⟨rfl, rfl⟩ : p = 0 ∧ n = 0 := by
      unfold lead at hpn; rw [if_neg n2, if_neg n3, if_neg n4] at hpn; cases hpn; exact ⟨rfl, rfl⟩
    simp (maxSteps := 1000000) (disch := omega) only [h0, h5, h6, hi0, qciz, h128, shr5, shr4, shr3, q2, q3, q4, qaaz, qabz, qacz, qadz, qaez, qafz, qagz, qahz, qaiz, qajz, qakz, qalz, qamz, qanz, evOp, qaoz, qapz, qaqz, qarz, qasz, qatz, qauz, qavz,
 ↓reduceIte, Nat.reduceEqDiff, List.nil_append, List.cons_append, List.append_nil, List.map_cons, List.map_nil, qawz, qaxz, qayz, Option.map_some, Option.map_none, qazz, qbaz, qbbz, qbcz, qbdz, qbez, qbfz, qbgz, qbhz, qbiz, qbjz, qbkz, qblz, qbmz, qbnz, qboz,
 qbpz, qbqz, qbrz, qbsz, qbtz, qbuz, qbvz, qbwz, qbxz, qbyz, qbzz, qcaz, qcbz, qccz, qcdz, qcez, qcfz, qcgz, qchz, qciz, beq_true, beq_false, Bool.not_eq_true', decide_eq_true_eq, decide_eq_false_iff_not, decide_true, decide_false,
 Int.toNat_natCast, Int.ofNat_lt, Int.ofNat_le, Int.natCast_inj, Bool.false_eq_true, Bool.true_eq_false, qcjz, List.getElem?_cons_zero, List.getElem?_cons_succ, qckz, Int.reduceToNat, Int.reduceLE, true_and, and_true, reduceCtorEq, or_false, false_or, or_true, Option.some.injEq, exists_eq_left', Bool.not_true, Bool.not_false, ne_eq, Int.reduceEq, not_true_eq_false, not_false_eq_true, Int.reduceLT, UInt8.reduceLT, UInt8.reduceLE, UInt8.reduceToNat]
    exact ⟨hk, rfl, rfl⟩
  clear hk h0 h5 h6
  rintro e S ⟨hk, h0, h5, h6⟩
  by_cases hn0 : n = 0
  · have e2 : decide ((n : Int) = 0) = true := by simp [hn0]
    simp (maxSteps := 1000000) (disch := omega) only [h0, h5, h6, len_by hx, e2, qaaz, qabz, qacz, qadz, qaez, qafz, qagz, qahz, qaiz, qajz, qakz, qalz, qamz, qanz, evOp, qaoz, qapz, qaqz, qarz, qasz, qatz, qauz, qavz,
 ↓reduceIte, Nat.reduceEqDiff, List.nil_append, List.cons_append, List.append_nil, List.map_cons, List.map_nil, qawz, qaxz, qayz, Option.map_some, Option.map_none, qazz, qbaz, qbbz, qbcz, qbdz, qbez, qbfz, qbgz, qbhz, qbiz, qbjz, qbkz, qblz, qbmz, qbnz, qboz,
 qbpz, qbqz, qbrz, qbsz, qbtz, qbuz, qbvz, qbwz, qbxz, qbyz, qbzz, qcaz, qcbz, qccz, qcdz, qcez, qcfz, qcgz, qchz, qciz, beq_true, beq_false, Bool.not_eq_true', decide_eq_true_eq, decide_eq_false_iff_not, decide_true, decide_false,
 Int.toNat_natCast, Int.ofNat_lt, Int.ofNat_le, Int.natCast_inj, Bool.false_eq_true, Bool.true_eq_false, qcjz, List.getElem?_cons_zero, List.getElem?_cons_succ, qckz, Int.reduceToNat, Int.reduceLE, true_and, and_true, reduceCtorEq, or_false, false_or, or_true, Option.some.injEq, exists_eq_left', Bool.not_true, Bool.not_false, ne_eq, Int.reduceEq, not_true_eq_false, not_false_eq_true, Int.reduceLT, UInt8.reduceLT, UInt8.reduceLE, UInt8.reduceToNat]
    exact wrong _ _ hk (by rw [hnx, if_pos (.inl hn0)]) hne
  have e2 : ¬ (n : Int) = 0 := by omega
  by_cases hln : l.length < n
  · have e3 : (l.length : Int) < (n : Int) := by omega
    simp (maxSteps := 1000000) (disch := omega) only [h0, h5, h6, len_by hx, e2, e3, qaaz, qabz, qacz, qadz, qaez, qafz, qagz, qahz, qaiz, qajz, qakz, qalz, qamz, qanz, evOp, qaoz, qapz, qaqz, qarz, qasz, qatz, qauz, qavz,
 ↓reduceIte, Nat.reduceEqDiff, List.nil_append, List.cons_append, List.append_nil, List.map_cons, List.map_nil, qawz, qaxz, qayz, Option.map_some, Option.map_none, qazz, qbaz, qbbz, qbcz, qbdz, qbez, qbfz, qbgz, qbhz, qbiz, qbjz, qbkz, qblz, qbmz, qbnz, qboz,
 qbpz, qbqz, qbrz, qbsz, qbtz, qbuz, qbvz, qbwz, qbxz, qbyz, qbzz, qcaz, qcbz, qccz, qcdz, qcez, qcfz, qcgz, qchz, qciz, beq_true, beq_false, Bool.not_eq_true', decide_eq_true_eq, decide_eq_false_iff_not, decide_true, decide_false,
 Int.toNat_natCast, Int.ofNat_lt, Int.ofNat_le, Int.natCast_inj, Bool.false_eq_true, Bool.true_eq_false, qcjz, List.getElem?_cons_zero, List.getElem?_cons_succ, qckz, Int.reduceToNat, Int.reduceLE, true_and, and_true, reduceCtorEq, or_false, false_or, or_true, Option.some.injEq, exists_eq_left', Bool.not_true, Bool.not_false, ne_eq, Int.reduceEq, not_true_eq_false, not_false_eq_true, Int.reduceLT, UInt8.reduceLT, UInt8.reduceLE, UInt8.reduceToNat]
    exact wrong _ _ hk (by rw [hnx, if_pos (.inr (.inl hln))]) hne
  have e3 : ¬ (l.length : Int) < (n : Int) := by omega
  have hn24 : (n = 2 ∧ p < 32) ∨ (n = 3 ∧ p < 16) ∨ (n = 4 ∧ p < 8) := by
    rcases lead_cases c.toNat with h | h | h | h
    · rw [hpn] at h; cases h; exact absurd rfl hn0
    · rw [hpn] at h; cases h; exact .inl ⟨rfl, by omega⟩
    · rw [hpn] at h; cases h; exact .inr (.inl ⟨rfl, by omega⟩)
    · rw [hpn] at h; cases h; exact .inr (.inr ⟨rfl, by omega⟩)
  have hacc : ∀ k, k ≤ 3 → accP l p k < 33554432 := by
    intro k hk
    have := accP_lt (l := l) (p := p) k
    have h64 : (p + 1) * 64 ^ k ≤ 32 * 64 ^ 3 := Nat.mul_le_mul (by omega) (Nat.pow_le_pow_right (by omega) hk)
    have : 32 * 64 ^ 3 = 8388608 := by decide
    omega
  refine W_cut (fun E S => Kept st S ∧ E 0 = x ∧ E 5 = .int .i32 (p : Int) ∧ E 6 = .int .i64 (n : Int)) ?_ ?_
  · simp (maxSteps := 1000000) (disch := omega) only [h0, h5, h6, len_by hx, e2, e3, qaaz, qabz, qacz, qadz, qaez, qafz, qagz, qahz, qaiz, qajz, qakz, qalz, qamz, qanz, evOp, qaoz, qapz, qaqz, qarz, qasz, qatz, qauz, qavz,
 ↓reduceIte, Nat.reduceEqDiff, List.nil_append, List.cons_append, List.append_nil, List.map_cons, List.map_nil, qawz, qaxz, qayz, Option.map_some, Option.map_none, qazz, qbaz, qbbz, qbcz, qbdz, qbez, qbfz, qbgz, qbhz, qbiz, qbjz, qbkz, qblz, qbmz, qbnz, qboz,
 qbpz, qbqz, qbrz, qbsz, qbtz, qbuz, qbvz, qbwz, qbxz, qbyz, qbzz, qcaz, qcbz, qccz, qcdz, qcez, qcfz, qcgz, qchz, qciz, beq_true, beq_false, Bool.not_eq_true', decide_eq_true_eq, decide_eq_false_iff_not, decide_true, decide_false,
 Int.toNat_natCast, Int.ofNat_lt, Int.ofNat_le, Int.natCast_inj, Bool.false_eq_true, Bool.true_eq_false, qcjz, List.getElem?_cons_zero, List.getElem?_cons_succ, qckz, Int.reduceToNat, Int.reduceLE, true_and, and_true, reduceCtorEq, or_false, false_or, or_true, Option.some.injEq, exists_eq_left', Bool.not_true, Bool.not_false, ne_eq, Int.reduceEq, not_true_eq_false, not_false_eq_true, Int.reduceLT, UInt8.reduceLT, UInt8.reduceLE, UInt8.reduceToNat]
    exact hk
  clear hk h0 h5 h6
  rintro e S ⟨hk, h0, h5, h6⟩
  have hml : ((l.take n).drop 1).length = n - 1 := by simp; omega
  have hslc : slcPV 1 x (some (.int .i64 1)) (some (.int .i64 (n : Int))) none = some (x.midB 1 n) := by
    have := slc_lohi (k := .i64) (k' := .i64) (c := 1) (d := (n : Int)) hx (by omega) (by omega) (by simpa using (by omega : n ≤ l.length))
    simpa using this
  have hmb : (x.midB 1 n).by = some ((l.take n).drop 1) := midB_by hx
  have hlm := len_by hmb
  rw [hml] at hlm
  obtain ⟨I, hI⟩ : ∃ I : Nat → Env → St → Prop, I = fun m E S => ∃ k, m = n - 1 - k ∧ k ≤ n - 1 ∧ contB l k ∧ Kept st S ∧ E 0 = x ∧ E 5 = .int .i32 ((accP l p k : Nat) : Int) ∧ E 6 = .int .i64 (n : Int) ∧ E 52 = x.midB 1 n ∧ E 53 = .int .i64 ((n - 1 : Nat) : Int) ∧ E 54 = .int .i64 (k : Int) := ⟨_, rfl⟩
  -- one round of the loop
  have start : I (n - 1) (upd (upd (upd (upd (upd e 50 x) 51 (.int .i64 (n : Int))) 52 (x.midB 1 n)) 53 (.int .i64 ((n - 1 : Nat) : Int))) 54 (.int .i64 0)) S := by
    rw [hI]
    exact ⟨0, rfl, by omega, fun j h => by omega, hk, h0, h5, h6, rfl, rfl, rfl⟩
  have nxt : ∀ (k : Nat) (E : Env) (S : St), contB l (k + 1) → k + 1 ≤ n - 1 → Kept st S → E 0 = x → E 5 = .int .i32 ((accP l p (k + 1) : Nat) : Int) → E 6 = .int .i64 (n : Int) → E 52 = x.midB 1 n → E 53 = .int .i64 ((n - 1 : Nat) : Int) → E 54 = .int .i64 ((k + 1 : Nat) : Int) → I (n - 1 - (k + 1)) E S := by
    intro k E S q1 q2 q3 q4 q5 q6 q7 q8 q9
    rw [hI]; exact ⟨k + 1, rfl, q2, q1, q3, q4, q5, q6, q7, q8, q9⟩
  by_cases hcb : contB l (n - 1)
  · refine W_cut (fun E S => Kept st S ∧ E 0 = x ∧ E 5 = .int .i32 ((accP l p (n - 1) : Nat) : Int) ∧ E 6 = .int .i64 (n : Int)) ?_ ?_
    · simp (maxSteps := 1000000) (disch := omega) only [h0, h5, h6, hslc, hlm, qaaz, qabz, qacz, qadz, qaez, qafz, qagz, qahz, qaiz, qajz, qakz, qalz, qamz, qanz, evOp, qaoz, qapz, qaqz, qarz, qasz, qatz, qauz, qavz,
 ↓reduceIte, Nat.reduceEqDiff, List.nil_append, List.cons_append, List.append_nil, List.map_cons, List.map_nil, qawz, qaxz, qayz, Option.map_some, Option.map_none, qazz, qbaz, qbbz, qbcz, qbdz, qbez, qbfz, qbgz, qbhz, qbiz, qbjz, qbkz, qblz, qbmz, qbnz, qboz,
 qbpz, qbqz, qbrz, qbsz, qbtz, qbuz, qbvz, qbwz, qbxz, qbyz, qbzz, qcaz, qcbz, qccz, qcdz, qcez, qcfz, qcgz, qchz, qciz, beq_true, beq_false, Bool.not_eq_true', decide_eq_true_eq, decide_eq_false_iff_not, decide_true, decide_false,
 Int.toNat_natCast, Int.ofNat_lt, Int.ofNat_le, Int.natCast_inj, Bool.false_eq_true, Bool.true_eq_false, qcjz, List.getElem?_cons_zero, List.getElem?_cons_succ, qckz, Int.reduceToNat, Int.reduceLE, true_and, and_true, reduceCtorEq, or_false, false_or, or_true, Option.some.injEq, exists_eq_left', Bool.not_true, Bool.not_false, ne_eq, Int.reduceEq, not_true_eq_false, not_false_eq_true, Int.reduceLT, UInt8.reduceLT, UInt8.reduceLE, UInt8.reduceToNat]
      refine W_loop I ?_ start
      clear hk h0 h5 h6 start
      intro m E S hh
      rw [hI] at hh
      obtain ⟨k, rfl, hk1, hck, hk, h0, h5, h6, h52, h53, h54⟩ := hh
      by_cases hlt : k < n - 1
      · obtain ⟨d, hd⟩ : ∃ d, d = l.getD (k + 1) 0 := ⟨_, rfl⟩
        have hid : iaddrPV 1 (x.midB 1 n) (.int .i64 (k : Int)) = some (.cp [.b8 d]) := by
          rw [iaddr_by hmb (by omega) (by rw [hml]; simpa using hlt), Int.toNat_natCast, mid_getD (by omega), ← hd]
        have hdc := hcb k hlt
        rw [← hd] at hdc
        have q6 : UInt8.ofNat (d.toNat / 64) = 2 := (isC d).2 hdc
        have ha := hacc k (by omega)
        have hstep : accP l p (k + 1) = 64 * accP l p k + d.toNat % 64 := by rw [hd]; rfl
        simp (maxSteps := 1000000) (disch := omega) only [h0, h5, h6, h52, h53, h54, hlt, hid, qciz, shr6, eq_true q6, shl6 ha, and_8, cI32, and63, or_i32 (q := d.toNat % 64) ha (by omega), add_n, qaaz, qabz, qacz, qadz, qaez, qafz, qagz, qahz, qaiz, qajz, qakz, qalz, qamz, qanz, evOp, qaoz, qapz, qaqz, qarz, qasz, qatz, qauz, qavz,
 ↓reduceIte, Nat.reduceEqDiff, List.nil_append, List.cons_append, List.append_nil, List.map_cons, List.map_nil, qawz, qaxz, qayz, Option.map_some, Option.map_none, qazz, qbaz, qbbz, qbcz, qbdz, qbez, qbfz, qbgz, qbhz, qbiz, qbjz, qbkz, qblz, qbmz, qbnz, qboz,
 qbpz, qbqz, qbrz, qbsz, qbtz, qbuz, qbvz, qbwz, qbxz, qbyz, qbzz, qcaz, qcbz, qccz, qcdz, qcez, qcfz, qcgz, qchz, qciz, beq_true, beq_false, Bool.not_eq_true', decide_eq_true_eq, decide_eq_false_iff_not, decide_true, decide_false,
 Int.toNat_natCast, Int.ofNat_lt, Int.ofNat_le, Int.natCast_inj, Bool.false_eq_true, Bool.true_eq_false, qcjz, List.getElem?_cons_zero, List.getElem?_cons_succ, qckz, Int.reduceToNat, Int.reduceLE, true_and, and_true, reduceCtorEq, or_false, false_or, or_true, Option.some.injEq, exists_eq_left', Bool.not_true, Bool.not_false, ne_eq, Int.reduceEq, not_true_eq_false, not_false_eq_true, Int.reduceLT, UInt8.reduceLT, UInt8.reduceLE, UInt8.reduceToNat]
        exact loopQ_intro (m := n - 1 - (k + 1)) (by omega) (nxt k _ _ (fun j hj => by
          by_cases hjk : j = k
          · subst hjk; rw [← hd]; exact hdc
          · exact hck j (by omega)) (by omega) hk h0 (by rw [hstep]; rfl) h6 h52 h53 rfl)
      · obtain rfl : k = n - 1 := by omega
        simp (maxSteps := 1000000) (disch := omega) only [h0, h5, h6, h52, h53, h54, hlt, qaaz, qabz, qacz, qadz, qaez, qafz, qagz, qahz, qaiz, qajz, qakz, qalz, qamz, qanz, evOp, qaoz, qapz, qaqz, qarz, qasz, qatz, qauz, qavz,
 ↓reduceIte, Nat.reduceEqDiff, List.nil_append, List.cons_append, List.append_nil, List.map_cons, List.map_nil, qawz, qaxz, qayz, Option.map_some, Option.map_none, qazz, qbaz, qbbz, qbcz, qbdz, qbez, qbfz, qbgz, qbhz, qbiz, qbjz, qbkz, qblz, qbmz, qbnz, qboz,
 qbpz, qbqz, qbrz, qbsz, qbtz, qbuz, qbvz, qbwz, qbxz, qbyz, qbzz, qcaz, qcbz, qccz, qcdz, qcez, qcfz, qcgz, qchz, qciz, beq_true, beq_false, Bool.not_eq_true', decide_eq_true_eq, decide_eq_false_iff_not, decide_true, decide_false,
 Int.toNat_natCast, Int.ofNat_lt, Int.ofNat_le, Int.natCast_inj, Bool.false_eq_true, Bool.true_eq_false, qcjz, List.getElem?_cons_zero, List.getElem?_cons_succ, qckz, Int.reduceToNat, Int.reduceLE, true_and, and_true, reduceCtorEq, or_false, false_or, or_true, Option.some.injEq, exists_eq_left', Bool.not_true, Bool.not_false, ne_eq, Int.reduceEq, not_true_eq_false, not_false_eq_true, Int.reduceLT, UInt8.reduceLT, UInt8.reduceLE, UInt8.reduceToNat]
        exact hk
    clear hk h0 h5 h6 start
    rintro e S ⟨hk, h0, h5, h6⟩
    obtain ⟨v, hv⟩ : ∃ v, v = accP l p (n - 1) := ⟨_, rfl⟩
    rw [← hv] at h5 hnx
    have hip := fun S : St => isPoint_spec (st := S) (p := v)
    by_cases hpt : pointN v
    · simp only [decide_eq_true hpt] at hip
      by_cases hlow : v < lowN n
      · have hno : nextOf l = none := by rw [hnx, if_pos (.inr (.inr (.inr (.inr hlow))))]
        rcases hn24 with ⟨rfl, -⟩ | ⟨rfl, -⟩ | ⟨rfl, -⟩
        · have h6' : e 6 = .int .i64 2 := h6
          have f1 : (v : Int) < 128 := by simp [lowN] at hlow; omega
          simp (maxSteps := 1000000) (disch := omega) only [h0, h5, h6', hip, f1, qaaz, qabz, qacz, qadz, qaez, qafz, qagz, qahz, qaiz, qajz, qakz, qalz, qamz, qanz, evOp, qaoz, qapz, qaqz, qarz, qasz, qatz, qauz, qavz,
 ↓reduceIte, Nat.reduceEqDiff, List.nil_append, List.cons_append, List.append_nil, List.map_cons, List.map_nil, qawz, qaxz, qayz, Option.map_some, Option.map_none, qazz, qbaz, qbbz, qbcz, qbdz, qbez, qbfz, qbgz, qbhz, qbiz, qbjz, qbkz, qblz, qbmz, qbnz, qboz,
 qbpz, qbqz, qbrz, qbsz, qbtz, qbuz, qbvz, qbwz, qbxz, qbyz, qbzz, qcaz, qcbz, qccz, qcdz, qcez, qcfz, qcgz, qchz, qciz, beq_true, beq_false, Bool.not_eq_true', decide_eq_true_eq, decide_eq_false_iff_not, decide_true, decide_false,
 Int.toNat_natCast, Int.ofNat_lt, Int.ofNat_le, Int.natCast_inj, Bool.false_eq_true, Bool.true_eq_false, qcjz, List.getElem?_cons_zero, List.getElem?_cons_succ, qckz, Int.reduceToNat, Int.reduceLE, true_and, and_true, reduceCtorEq, or_false, false_or, or_true, Option.some.injEq, exists_eq_left', Bool.not_true, Bool.not_false, ne_eq, Int.reduceEq, not_true_eq_false, not_false_eq_true, Int.reduceLT, UInt8.reduceLT, UInt8.reduceLE, UInt8.reduceToNat]
          exact wrong _ _ hk hno hne
        · have h6' : e 6 = .int .i64 3 := h6
          have f1 : (v : Int) < 2048 := by simp [lowN] at hlow; omega
          simp (maxSteps := 1000000) (disch := omega) only [h0, h5, h6', hip, f1, qaaz, qabz, qacz, qadz, qaez, qafz, qagz, qahz, qaiz, qajz, qakz, qalz, qamz, qanz, evOp, qaoz, qapz, qaqz, qarz, qasz, qatz, qauz, qavz,
 ↓reduceIte, Nat.reduceEqDiff, List.nil_append, List.cons_append, List.append_nil, List.map_cons, List.map_nil, qawz, qaxz, qayz, Option.map_some, Option.map_none, qazz, qbaz, qbbz, qbcz, qbdz, qbez, qbfz, qbgz, qbhz, qbiz, qbjz, qbkz, qblz, qbmz, qbnz, qboz,
 qbpz, qbqz, qbrz, qbsz, qbtz, qbuz, qbvz, qbwz, qbxz, qbyz, qbzz, qcaz, qcbz, qccz, qcdz, qcez, qcfz, qcgz, qchz, qciz, beq_true, beq_false, Bool.not_eq_true', decide_eq_true_eq, decide_eq_false_iff_not, decide_true, decide_false,
 Int.toNat_natCast, Int.ofNat_lt, Int.ofNat_le, Int.natCast_inj, Bool.false_eq_true, Bool.true_eq_false, qcjz, List.getElem?_cons_zero, List.getElem?_cons_succ, qckz, Int.reduceToNat, Int.reduceLE, true_and, and_true, reduceCtorEq, or_false, false_or, or_true, Option.some.injEq, exists_eq_left', Bool.not_true, Bool.not_false, ne_eq, Int.reduceEq, not_true_eq_false, not_false_eq_true, Int.reduceLT, UInt8.reduceLT, UInt8.reduceLE, UInt8.reduceToNat]
          exact wrong _ _ hk hno hne
        · have h6' : e 6 = .int .i64 4 := h6
          have f1 : (v : Int) < 65536 := by simp [lowN] at hlow; omega
          simp (maxSteps := 1000000) (disch := omega) only [h0, h5, h6', hip, f1, qaaz, qabz, qacz, qadz, qaez, qafz, qagz, qahz, qaiz, qajz, qakz, qalz, qamz, qanz, evOp, qaoz, qapz, qaqz, qarz, qasz, qatz, qauz, qavz,
 ↓reduceIte, Nat.reduceEqDiff, List.nil_append, List.cons_append, List.append_nil, List.map_cons, List.map_nil, qawz, qaxz, qayz, Option.map_some, Option.map_none, qazz, qbaz, qbbz, qbcz, qbdz, qbez, qbfz, qbgz, qbhz, qbiz, qbjz, qbkz, qblz, qbmz, qbnz, qboz,
 qbpz, qbqz, qbrz, qbsz, qbtz, qbuz, qbvz, qbwz, qbxz, qbyz, qbzz, qcaz, qcbz, qccz, qcdz, qcez, qcfz, qcgz, qchz, qciz, beq_true, beq_false, Bool.not_eq_true', decide_eq_true_eq, decide_eq_false_iff_not, decide_true, decide_false,
 Int.toNat_natCast, Int.ofNat_lt, Int.ofNat_le, Int.natCast_inj, Bool.false_eq_true, Bool.true_eq_false, qcjz, List.getElem?_cons_zero, List.getElem?_cons_succ, qckz, Int.reduceToNat, Int.reduceLE, true_and, and_true, reduceCtorEq, or_false, false_or, or_true, Option.some.injEq, exists_eq_left', Bool.not_true, Bool.not_false, ne_eq, Int.reduceEq, not_true_eq_false, not_false_eq_true, Int.reduceLT, UInt8.reduceLT, UInt8.reduceLE, UInt8.reduceToNat]
          exact wrong _ _ hk hno hne
      · have hyes : nextOf l = some (v, n) := by
          rw [hnx, if_neg]
          simp only [not_or, Classical.not_not]
          exact ⟨hn0, hln, hcb, hpt, hlow⟩
        rcases hn24 with ⟨rfl, -⟩ | ⟨rfl, -⟩ | ⟨rfl, -⟩
        · have h6' : e 6 = .int .i64 2 := h6
          have f1 : ¬ (v : Int) < 128 := by simp [lowN] at hlow; omega
          simp (maxSteps := 1000000) (disch := omega) only [h0, h5, h6', hip, f1, qaaz, qabz, qacz, qadz, qaez, qafz, qagz, qahz, qaiz, qajz, qakz, qalz, qamz, qanz, evOp, qaoz, qapz, qaqz, qarz, qasz, qatz, qauz, qavz,
 ↓reduceIte, Nat.reduceEqDiff, List.nil_append, List.cons_append, List.append_nil, List.map_cons, List.map_nil, qawz, qaxz, qayz, Option.map_some, Option.map_none, qazz, qbaz, qbbz, qbcz, qbdz, qbez, qbfz, qbgz, qbhz, qbiz, qbjz, qbkz, qblz, qbmz, qbnz, qboz,
 qbpz, qbqz, qbrz, qbsz, qbtz, qbuz, qbvz, qbwz, qbxz, qbyz, qbzz, qcaz, qcbz, qccz, qcdz, qcez, qcfz, qcgz, qchz, qciz, beq_true, beq_false, Bool.not_eq_true', decide_eq_true_eq, decide_eq_false_iff_not, decide_true, decide_false,
 Int.toNat_natCast, Int.ofNat_lt, Int.ofNat_le, Int.natCast_inj, Bool.false_eq_true, Bool.true_eq_false, qcjz, List.getElem?_cons_zero, List.getElem?_cons_succ, qckz, Int.reduceToNat, Int.reduceLE, true_and, and_true, reduceCtorEq, or_false, false_or, or_true, Option.some.injEq, exists_eq_left', Bool.not_true, Bool.not_false, ne_eq, Int.reduceEq, not_true_eq_false, not_false_eq_true, Int.reduceLT, UInt8.reduceLT, UInt8.reduceLE, UInt8.reduceToNat]
          exact fin _ _ _ _ _ hk (nextV_some hyes) rfl rfl rfl
        · have h6' : e 6 = .int .i64 3 := h6
          have f1 : ¬ (v : Int) < 2048 := by simp [lowN] at hlow; omega
          simp (maxSteps := 1000000) (disch := omega) only [h0, h5, h6', hip, f1, qaaz, qabz, qacz, qadz, qaez, qafz, qagz, qahz, qaiz, qajz, qakz, qalz, qamz, qanz, evOp, qaoz, qapz, qaqz, qarz, qasz, qatz, qauz, qavz,
 ↓reduceIte, Nat.reduceEqDiff, List.nil_append, List.cons_append, List.append_nil, List.map_cons, List.map_nil, qawz, qaxz, qayz, Option.map_some, Option.map_none, qazz, qbaz, qbbz, qbcz, qbdz, qbez, qbfz, qbgz, qbhz, qbiz, qbjz, qbkz, qblz, qbmz, qbnz, qboz,
 qbpz, qbqz, qbrz, qbsz, qbtz, qbuz, qbvz, qbwz, qbxz, qbyz, qbzz, qcaz, qcbz, qccz, qcdz, qcez, qcfz, qcgz, qchz, qciz, beq_true, beq_false, Bool.not_eq_true', decide_eq_true_eq, decide_eq_false_iff_not, decide_true, decide_false,
 Int.toNat_natCast, Int.ofNat_lt, Int.ofNat_le, Int.natCast_inj, Bool.false_eq_true, Bool.true_eq_false, qcjz, List.getElem?_cons_zero, List.getElem?_cons_succ, qckz, Int.reduceToNat, Int.reduceLE, true_and, and_true, reduceCtorEq, or_false, false_or, or_true, Option.some.injEq, exists_eq_left', Bool.not_true, Bool.not_false, ne_eq, Int.reduceEq, not_true_eq_false, not_false_eq_true, Int.reduceLT, UInt8.reduceLT, UInt8.reduceLE, UInt8.reduceToNat]
          exact fin _ _ _ _ _ hk (nextV_some hyes) rfl rfl rfl
        · have h6' : e 6 = .int .i64 4 := h6
          have f1 : ¬ (v : Int) < 65536 := by simp [lowN] at hlow; omega
          simp (maxSteps := 1000000) (disch := omega) only [h0, h5, h6', hip, f1, qaaz, qabz, qacz, qadz, qaez, qafz, qagz, qahz, qaiz, qajz, qakz, qalz, qamz, qanz, evOp, qaoz, qapz, qaqz, qarz, qasz, qatz, qauz, qavz,
 ↓reduceIte, Nat.reduceEqDiff, List.nil_append, List.cons_append, List.append_nil, List.map_cons, List.map_nil, qawz, qaxz, qayz, Option.map_some, Option.map_none, qazz, qbaz, qbbz, qbcz, qbdz, qbez, qbfz, qbgz, qbhz, qbiz, qbjz, qbkz, qblz, qbmz, qbnz, qboz,
 qbpz, qbqz, qbrz, qbsz, qbtz, qbuz, qbvz, qbwz, qbxz, qbyz, qbzz, qcaz, qcbz, qccz, qcdz, qcez, qcfz, qcgz, qchz, qciz, beq_true, beq_false, Bool.not_eq_true', decide_eq_true_eq, decide_eq_false_iff_not, decide_true, decide_false,
 Int.toNat_natCast, Int.ofNat_lt, Int.ofNat_le, Int.natCast_inj, Bool.false_eq_true, Bool.true_eq_false, qcjz, List.getElem?_cons_zero, List.getElem?_cons_succ, qckz, Int.reduceToNat, Int.reduceLE, true_and, and_true, reduceCtorEq, or_false, false_or, or_true, Option.some.injEq, exists_eq_left', Bool.not_true, Bool.not_false, ne_eq, Int.reduceEq, not_true_eq_false, not_false_eq_true, Int.reduceLT, UInt8.reduceLT, UInt8.reduceLE, UInt8.reduceToNat]
          exact fin _ _ _ _ _ hk (nextV_some hyes) rfl rfl rfl
    · simp only [decide_eq_false hpt] at hip
      simp (maxSteps := 1000000) (disch := omega) only [h0, h5, h6, hip, qaaz, qabz, qacz, qadz, qaez, qafz, qagz, qahz, qaiz, qajz, qakz, qalz, qamz, qanz, evOp, qaoz, qapz, qaqz, qarz, qasz, qatz, qauz, qavz,
 ↓reduceIte, Nat.reduceEqDiff, List.nil_append, List.cons_append, List.append_nil, List.map_cons, List.map_nil, qawz, qaxz, qayz, Option.map_some, Option.map_none, qazz, qbaz, qbbz, qbcz, qbdz, qbez, qbfz, qbgz, qbhz, qbiz, qbjz, qbkz, qblz, qbmz, qbnz, qboz,
 qbpz, qbqz, qbrz, qbsz, qbtz, qbuz, qbvz, qbwz, qbxz, qbyz, qbzz, qcaz, qcbz, qccz, qcdz, qcez, qcfz, qcgz, qchz, qciz, beq_true, beq_false, Bool.not_eq_true', decide_eq_true_eq, decide_eq_false_iff_not, decide_true, decide_false,
 Int.toNat_natCast, Int.ofNat_lt, Int.ofNat_le, Int.natCast_inj, Bool.false_eq_true, Bool.true_eq_false, qcjz, List.getElem?_cons_zero, List.getElem?_cons_succ, qckz, Int.reduceToNat, Int.reduceLE, true_and, and_true, reduceCtorEq, or_false, false_or, or_true, Option.some.injEq, exists_eq_left', Bool.not_true, Bool.not_false, ne_eq, Int.reduceEq, not_true_eq_false, not_false_eq_true, Int.reduceLT, UInt8.reduceLT, UInt8.reduceLE, UInt8.reduceToNat]
      exact wrong _ _ hk (by rw [hnx, if_pos (.inr (.inr (.inr (.inl hpt))))]) hne
  · have hno : nextOf l = none := by rw [hnx, if_pos (.inr (.inr (.inl hcb)))]
    simp (maxSteps := 1000000) (disch := omega) only [h0, h5, h6, hslc, hlm, qaaz, qabz, qacz, qadz, qaez, qafz, qagz, qahz, qaiz, qajz, qakz, qalz, qamz, qanz, evOp, qaoz, qapz, qaqz, qarz, qasz, qatz, qauz, qavz,
 ↓reduceIte, Nat.reduceEqDiff, List.nil_append, List.cons_append, List.append_nil, List.map_cons, List.map_nil, qawz, qaxz, qayz, Option.map_some, Option.map_none, qazz, qbaz, qbbz, qbcz, qbdz, qbez, qbfz, qbgz, qbhz, qbiz, qbjz, qbkz, qblz, qbmz, qbnz, qboz,
 qbpz, qbqz, qbrz, qbsz, qbtz, qbuz, qbvz, qbwz, qbxz, qbyz, qbzz, qcaz, qcbz, qccz, qcdz, qcez, qcfz, qcgz, qchz, qciz, beq_true, beq_false, Bool.not_eq_true', decide_eq_true_eq, decide_eq_false_iff_not, decide_true, decide_false,
 Int.toNat_natCast, Int.ofNat_lt, Int.ofNat_le, Int.natCast_inj, Bool.false_eq_true, Bool.true_eq_false, qcjz, List.getElem?_cons_zero, List.getElem?_cons_succ, qckz, Int.reduceToNat, Int.reduceLE, true_and, and_true, reduceCtorEq, or_false, false_or, or_true, Option.some.injEq, exists_eq_left', Bool.not_true, Bool.not_false, ne_eq, Int.reduceEq, not_true_eq_false, not_false_eq_true, Int.reduceLT, UInt8.reduceLT, UInt8.reduceLE, UInt8.reduceToNat]
    refine W_loop I ?_ start
    clear hk h0 h5 h6 start
    intro m E S hh
    rw [hI] at hh
    obtain ⟨k, rfl, hk1, hck, hk, h0, h5, h6, h52, h53, h54⟩ := hh
    by_cases hlt : k < n - 1
    · obtain ⟨d, hd⟩ : ∃ d, d = l.getD (k + 1) 0 := ⟨_, rfl⟩
      have hid : iaddrPV 1 (x.midB 1 n) (.int .i64 (k : Int)) = some (.cp [.b8 d]) := by
        rw [iaddr_by hmb (by omega) (by rw [hml]; simpa using hlt), Int.toNat_natCast, mid_getD (by omega), ← hd]
      by_cases q6 : UInt8.ofNat (d.toNat / 64) = 2
      · have hdc := (isC d).1 q6
        have ha := hacc k (by omega)
        have hstep : accP l p (k + 1) = 64 * accP l p k + d.toNat % 64 := by rw [hd]; rfl
        simp (maxSteps := 1000000) (disch := omega) only [h0, h5, h6, h52, h53, h54, hlt, hid, qciz, shr6, eq_true q6, shl6 ha, and_8, cI32, and63, or_i32 (q := d.toNat % 64) ha (by omega), add_n, qaaz, qabz, qacz, qadz, qaez, qafz, qagz, qahz, qaiz, qajz, qakz, qalz, qamz, qanz, evOp, qaoz, qapz, qaqz, qarz, qasz, qatz, qauz, qavz,
 ↓reduceIte, Nat.reduceEqDiff, List.nil_append, List.cons_append, List.append_nil, List.map_cons, List.map_nil, qawz, qaxz, qayz, Option.map_some, Option.map_none, qazz, qbaz, qbbz, qbcz, qbdz, qbez, qbfz, qbgz, qbhz, qbiz, qbjz, qbkz, qblz, qbmz, qbnz, qboz,
 qbpz, qbqz, qbrz, qbsz, qbtz, qbuz, qbvz, qbwz, qbxz, qbyz, qbzz, qcaz, qcbz, qccz, qcdz, qcez, qcfz, qcgz, qchz, qciz, beq_true, beq_false, Bool.not_eq_true', decide_eq_true_eq, decide_eq_false_iff_not, decide_true, decide_false,
 Int.toNat_natCast, Int.ofNat_lt, Int.ofNat_le, Int.natCast_inj, Bool.false_eq_true, Bool.true_eq_false, qcjz, List.getElem?_cons_zero, List.getElem?_cons_succ, qckz, Int.reduceToNat, Int.reduceLE, true_and, and_true, reduceCtorEq, or_false, false_or, or_true, Option.some.injEq, exists_eq_left', Bool.not_true, Bool.not_false, ne_eq, Int.reduceEq, not_true_eq_false, not_false_eq_true, Int.reduceLT, UInt8.reduceLT, UInt8.reduceLE, UInt8.reduceToNat]
        exact loopQ_intro (m := n - 1 - (k + 1)) (by omega) (nxt k _ _ (fun j hj => by
          by_cases hjk : j = k
          · subst hjk; rw [← hd]; exact hdc
          · exact hck j (by omega)) (by omega) hk h0 (by rw [hstep]; rfl) h6 h52 h53 rfl)
      · simp (maxSteps := 1000000) (disch := omega) only [h0, h5, h6, h52, h53, h54, hlt, hid, qciz, shr6, q6, qaaz, qabz, qacz, qadz, qaez, qafz, qagz, qahz, qaiz, qajz, qakz, qalz, qamz, qanz, evOp, qaoz, qapz, qaqz, qarz, qasz, qatz, qauz, qavz,
 ↓reduceIte, Nat.reduceEqDiff, List.nil_append, List.cons_append, List.append_nil, List.map_cons, List.map_nil, qawz, qaxz, qayz, Option.map_some, Option.map_none, qazz, qbaz, qbbz, qbcz, qbdz, qbez, qbfz, qbgz, qbhz, qbiz, qbjz, qbkz, qblz, qbmz, qbnz, qboz,
 qbpz, qbqz, qbrz, qbsz, qbtz, qbuz, qbvz, qbwz, qbxz, qbyz, qbzz, qcaz, qcbz, qccz, qcdz, qcez, qcfz, qcgz, qchz, qciz, beq_true, beq_false, Bool.not_eq_true', decide_eq_true_eq, decide_eq_false_iff_not, decide_true, decide_false,
 Int.toNat_natCast, Int.ofNat_lt, Int.ofNat_le, Int.natCast_inj, Bool.false_eq_true, Bool.true_eq_false, qcjz, List.getElem?_cons_zero, List.getElem?_cons_succ, qckz, Int.reduceToNat, Int.reduceLE, true_and, and_true, reduceCtorEq, or_false, false_or, or_true, Option.some.injEq, exists_eq_left', Bool.not_true, Bool.not_false, ne_eq, Int.reduceEq, not_true_eq_false, not_false_eq_true, Int.reduceLT, UInt8.reduceLT, UInt8.reduceLE, UInt8.reduceToNat]
        exact wrong _ _ hk hno hne
    · obtain rfl : k = n - 1 := by omega
      exact absurd hck hcb
end Go.Ab

/-
  A point's bytes, by the document; the point at a text's front is the one whose bytes stand there.
-/
namespace Go.Ab
set_option linter.unusedVariables false
set_option linter.unusedSimpArgs false
variable {st s : St} {e : Env}

theorem rPoint_spec {p : Nat} : call prog (.fn 85 []) [.int .i32 (p : Int)] st = some (.bool (decide (pointN p)), st) := by
  refine call_of_W prog_85 ?_
  unfold F_posthornref02_Point; dsimp only
  have e0 : (0 : Int) ≤ (p : Int) := by omega
  by_cases h2 : p < 55296
  · have e2 : (p : Int) < 55296 := by omega
    simp (maxSteps := 1000000) (disch := omega) only [e0, e2, qaaz, qabz, qacz, qadz, qaez, qafz, qagz, qahz, qaiz, qajz, qakz, qalz, qamz, qanz, evOp, qaoz, qapz, qaqz, qarz, qasz, qatz, qauz, qavz,
 ↓reduceIte, Nat.reduceEqDiff, List.nil_append, List.cons_append, List.append_nil, List.map_cons, List.map_nil, qawz, qaxz, qayz, Option.map_some, Option.map_none, qazz, qbaz, qbbz, qbcz, qbdz, qbez, qbfz, qbgz, qbhz, qbiz, qbjz, qbkz, qblz, qbmz, qbnz, qboz,
 qbpz, qbqz, qbrz, qbsz, qbtz, qbuz, qbvz, qbwz, qbxz, qbyz, qbzz, qcaz, qcbz, qccz, qcdz, qcez, qcfz, qcgz, qchz, qciz, beq_true, beq_false, Bool.not_eq_true', decide_eq_true_eq, decide_eq_false_iff_not, decide_true, decide_false,
 Int.toNat_natCast, Int.ofNat_lt, Int.ofNat_le, Int.natCast_inj, Bool.false_eq_true, Bool.true_eq_false, qcjz, List.getElem?_cons_zero, List.getElem?_cons_succ, qckz, Int.reduceToNat, Int.reduceLE, true_and, and_true, reduceCtorEq, or_false, false_or, or_true, Option.some.injEq, exists_eq_left', Bool.not_true, Bool.not_false, ne_eq, Int.reduceEq, not_true_eq_false, not_false_eq_true, Int.reduceLT, UInt8.reduceLT, UInt8.reduceLE, UInt8.reduceToNat]
    rw [show decide (pointN p) = true by simp [pointN, h2]]
    exact end1 rfl Kp_bool
  have e2 : ¬ (p : Int) < 55296 := by omega
  by_cases h3 : 57343 < p
  · have e3 : (57343 : Int) < (p : Int) := by omega
    by_cases h1 : p ≤ 1114111
    · have e1 : (p : Int) ≤ 1114111 := by omega
      simp (maxSteps := 1000000) (disch := omega) only [e0, e1, e2, e3, qaaz, qabz, qacz, qadz, qaez, qafz, qagz, qahz, qaiz, qajz, qakz, qalz, qamz, qanz, evOp, qaoz, qapz, qaqz, qarz, qasz, qatz, qauz, qavz,
 ↓reduceIte, Nat.reduceEqDiff, List.nil_append, List.cons_append, List.append_nil, List.map_cons, List.map_nil, qawz, qaxz, qayz, Option.map_some, Option.map_none, qazz, qbaz, qbbz, qbcz, qbdz, qbez, qbfz, qbgz, qbhz, qbiz, qbjz, qbkz, qblz, qbmz, qbnz, qboz,
 qbpz, qbqz, qbrz, qbsz, qbtz, qbuz, qbvz, qbwz, qbxz, qbyz, qbzz, qcaz, qcbz, qccz, qcdz, qcez, qcfz, qcgz, qchz, qciz, beq_true, beq_false, Bool.not_eq_true', decide_eq_true_eq, decide_eq_false_iff_not, decide_true, decide_false,
 Int.toNat_natCast, Int.ofNat_lt, Int.ofNat_le, Int.natCast_inj, Bool.false_eq_true, Bool.true_eq_false, qcjz, List.getElem?_cons_zero, List.getElem?_cons_succ, qckz, Int.reduceToNat, Int.reduceLE, true_and, and_true, reduceCtorEq, or_false, false_or, or_true, Option.some.injEq, exists_eq_left', Bool.not_true, Bool.not_false, ne_eq, Int.reduceEq, not_true_eq_false, not_false_eq_true, Int.reduceLT, UInt8.reduceLT, UInt8.reduceLE, UInt8.reduceToNat]
      rw [show decide (pointN p) = true by simp [pointN, h3, h1]]
      exact end1 rfl Kp_bool
    · have e1 : ¬ (p : Int) ≤ 1114111 := by omega
      simp (maxSteps := 1000000) (disch := omega) only [e0, e1, e2, e3, qaaz, qabz, qacz, qadz, qaez, qafz, qagz, qahz, qaiz, qajz, qakz, qalz, qamz, qanz, evOp, qaoz, qapz, qaqz, qarz, qasz, qatz, qauz, qavz,
 ↓reduceIte, Nat.reduceEqDiff, List.nil_append, List.cons_append, List.append_nil, List.map_cons, List.map_nil, qawz, qaxz, qayz, Option.map_some, Option.map_none, qazz, qbaz, qbbz, qbcz, qbdz, qbez, qbfz, qbgz, qbhz, qbiz, qbjz, qbkz, qblz, qbmz, qbnz, qboz,
 qbpz, qbqz, qbrz, qbsz, qbtz, qbuz, qbvz, qbwz, qbxz, qbyz, qbzz, qcaz, qcbz, qccz, qcdz, qcez, qcfz, qcgz, qchz, qciz, beq_true, beq_false, Bool.not_eq_true', decide_eq_true_eq, decide_eq_false_iff_not, decide_true, decide_false,
 Int.toNat_natCast, Int.ofNat_lt, Int.ofNat_le, Int.natCast_inj, Bool.false_eq_true, Bool.true_eq_false, qcjz, List.getElem?_cons_zero, List.getElem?_cons_succ, qckz, Int.reduceToNat, Int.reduceLE, true_and, and_true, reduceCtorEq, or_false, false_or, or_true, Option.some.injEq, exists_eq_left', Bool.not_true, Bool.not_false, ne_eq, Int.reduceEq, not_true_eq_false, not_false_eq_true, Int.reduceLT, UInt8.reduceLT, UInt8.reduceLE, UInt8.reduceToNat]
      rw [show decide (pointN p) = false from decide_eq_false (by unfold pointN; omega)]
      exact end1 rfl Kp_bool
  · have e3 : ¬ (57343 : Int) < (p : Int) := by omega
    simp (maxSteps := 1000000) (disch := omega) only [e0, e2, e3, qaaz, qabz, qacz, qadz, qaez, qafz, qagz, qahz, qaiz, qajz, qakz, qalz, qamz, qanz, evOp, qaoz, qapz, qaqz, qarz, qasz, qatz, qauz, qavz,
 ↓reduceIte, Nat.reduceEqDiff, List.nil_append, List.cons_append, List.append_nil, List.map_cons, List.map_nil, qawz, qaxz, qayz, Option.map_some, Option.map_none, qazz, qbaz, qbbz, qbcz, qbdz, qbez, qbfz, qbgz, qbhz, qbiz, qbjz, qbkz, qblz, qbmz, qbnz, qboz,
 qbpz, qbqz, qbrz, qbsz, qbtz, qbuz, qbvz, qbwz, qbxz, qbyz, qbzz, qcaz, qcbz, qccz, qcdz, qcez, qcfz, qcgz, qchz, qciz, beq_true, beq_false, Bool.not_eq_true', decide_eq_true_eq, decide_eq_false_iff_not, decide_true, decide_false,
 Int.toNat_natCast, Int.ofNat_lt, Int.ofNat_le, Int.natCast_inj, Bool.false_eq_true, Bool.true_eq_false, qcjz, List.getElem?_cons_zero, List.getElem?_cons_succ, qckz, Int.reduceToNat, Int.reduceLE, true_and, and_true, reduceCtorEq, or_false, false_or, or_true, Option.some.injEq, exists_eq_left', Bool.not_true, Bool.not_false, ne_eq, Int.reduceEq, not_true_eq_false, not_false_eq_true, Int.reduceLT, UInt8.reduceLT, UInt8.reduceLE, UInt8.reduceToNat]
    rw [show decide (pointN p) = false from decide_eq_false (by unfold pointN; omega)]
    exact end1 rfl Kp_bool

def putOf (p : Nat) : List UInt8 :=
  if p < 128 then [UInt8.ofNat p] else if p < 2048 then [UInt8.ofNat (192 + p / 64), UInt8.ofNat (128 + p % 64)]
  else if p < 65536 then [UInt8.ofNat (224 + p / 4096), UInt8.ofNat (128 + p / 64 % 64), UInt8.ofNat (128 + p % 64)]
  else [UInt8.ofNat (240 + p / 262144), UInt8.ofNat (128 + p / 4096 % 64), UInt8.ofNat (128 + p / 64 % 64), UInt8.ofNat (128 + p % 64)]

theorem quo32 {ek : EK} {p : Nat} {c : Int} (h1 : 0 < c) (h : p < 2147483648) : binPV .quo ek (.int .i32 (p : Int)) (.int .i32 c) = some (.int .i32 ((p / c.toNat : Nat) : Int)) := by
  obtain ⟨d, rfl⟩ : ∃ d : Nat, c = (d : Int) := ⟨c.toNat, by omega⟩
  simp only [binPV, binI, if_true]
  rw [if_neg (by omega), Int.toNat_natCast]
  have : (p : Int).tdiv (d : Int) = ((p / d : Nat) : Int) := (Int.ofNat_tdiv p d).symm
  have h3 := Nat.div_le_self p d
  have h4 : (0 : Int) ≤ ((p / d : Nat) : Int) := Int.natCast_nonneg _
  rw [this, wrap32 (by omega) (by omega)]
theorem rem32 {ek : EK} {p : Nat} {c : Int} (h1 : 0 < c) : binPV .rem ek (.int .i32 (p : Int)) (.int .i32 c) = some (.int .i32 ((p % c.toNat : Nat) : Int)) := by
  obtain ⟨d, rfl⟩ : ∃ d : Nat, c = (d : Int) := ⟨c.toNat, by omega⟩
  simp only [binPV, binI, if_true]
  rw [if_neg (by omega), Int.toNat_natCast]
  have : (p : Int).tmod (d : Int) = ((p % d : Nat) : Int) := (Int.ofNat_tmod p d).symm
  rw [this]
theorem addc32 {ek : EK} {a : Nat} {c : Int} (h1 : 0 ≤ c) (h2 : c.toNat + a < 2147483648) : binPV .add ek (.int .i32 c) (.int .i32 (a : Int)) = some (.int .i32 ((c.toNat + a : Nat) : Int)) := by
  simp only [binPV, binI, reduceIte, Option.some.injEq]
  rw [wrap32 (by omega) (by omega)]
  congr 1; omega
theorem cI8 {n : Nat} (h : n < 256) : cIntPV .u8 (.int .i32 (n : Int)) = some (.b8 (UInt8.ofNat n)) := by
  simp only [cIntPV]
  have : IntKind.u8.wrap (n : Int) = (n : Int) := by
    unfold IntKind.wrap
    simp only [IntKind.signed, IntKind.bits]
    simp
    omega
  rw [this, Int.toNat_natCast]
theorem leave_mine2 {v : PV} {l : List UInt8} {n : Int} (hk : Kept st s) (hm : Mine st s v l) (hne : l ≠ []) : leave st s (.tup [v, .int .i64 n]) = (.tup [.bys (.own st.toks.length) l, .int .i64 n], st.tok1) := by
  have e1 := hk.bx; have e2 := hk.lp; have e3 := hk.tk
  rcases hm.1 with ⟨rfl, rfl⟩ | ⟨i, rfl, hi⟩
  · exact absurd rfl hne
  · have h2 := hm.2 i rfl
    simp [leave, PV.inB, PV.inB.inBAll, hk.lw, keepRes, keepVals, keepVal, keepLeaf, keepTok, hi, show ¬ i < st.toks.length by omega, e1, e2, e3, St.tok1]
theorem lit8_3 {a b c : UInt8} : lit8Fill (List.replicate 3 0) [(0, .b8 a), (1, .b8 b), (2, .b8 c)] = some [a, b, c] := rfl
theorem lit8_4 {a b c d : UInt8} : lit8Fill (List.replicate 4 0) [(0, .b8 a), (1, .b8 b), (2, .b8 c), (3, .b8 d)] = some [a, b, c, d] := rfl

def putV (st : St) (p : Nat) : PV × St := if pointN p then (.tup [.bys (.own st.toks.length) (putOf p), .int .i64 0], st.tok1) else (.tup [.nils, .int .i64 20], st)

theorem Put_spec {p : Nat} (hp : p < 2147483648) : call prog (.fn 81 []) [.int .i32 (p : Int)] st = some (putV st p) := by
  refine call_of_W prog_81 ?_
  unfold F_posthornref02_Put; dsimp only
  have hk : Kept st { boxes := st.boxes, toks := st.toks, loops := st.loops, low := st.boxes.length } := Kept.start
  have hip := fun S : St => rPoint_spec (st := S) (p := p)
  by_cases hpt : pointN p
  · simp only [decide_eq_true hpt] at hip
    have hpt2 : p ≤ 1114111 := by unfold pointN at hpt; omega
    have hv : putV st p = (.tup [.bys (.own st.toks.length) (putOf p), .int .i64 0], st.tok1) := by simp [putV, hpt]
    have fin : ∀ (v : PV) (S : St), Kept st S → Mine st S v (putOf p) → ∀ E : Env, E 2 = v → E 3 = .int .i64 0 → ∃ rv, resOf E S [.tmp 2, .tmp 3] = some rv ∧ leave st S rv = putV st p := by
      intro v S k1 m1 E k2 k3
      refine ⟨.tup [v, .int .i64 0], ?_, ?_⟩
      · have hnt : notTup v = true := by rcases m1.1 with ⟨rfl, _⟩ | ⟨i, rfl, _⟩ <;> rfl
        simp [resOf, rvAll, rv1, k2, k3, hnt, packRes]
        rfl
      · rw [hv]
        refine leave_mine2 k1 m1 ?_
        unfold putOf
        split
        · simp
        · split
          · simp
          · split <;> simp
    have app : ∀ m : List UInt8, m.length ≤ 4 → ∃ v S, app8 (St.tok1 { boxes := st.boxes, toks := st.toks, loops := st.loops, low := st.boxes.length }) .nils (.bys (.own st.toks.length) m) = some (v, S) ∧ Kept st S ∧ Mine st S v m := by
      intro m hm
      obtain ⟨v, S, a1, k1, m1⟩ := hk.tok1.app8 (v := .nils) (l := []) (y := .bys (.own st.toks.length) m) (m := m) Mine.nil rfl (by simp [room]; omega)
      exact ⟨v, S, a1, k1, by simpa using m1⟩
    by_cases h1 : p < 128
    · have e1 : (p : Int) < 128 := by omega
      obtain ⟨v, S, a1, k1, m1⟩ := app [UInt8.ofNat p] (by simp)
      simp (maxSteps := 1000000) (disch := omega) only [hip, e1, cI8, lit8_1, freshT_eq, a1, qaaz, qabz, qacz, qadz, qaez, qafz, qagz, qahz, qaiz, qajz, qakz, qalz, qamz, qanz, evOp, qaoz, qapz, qaqz, qarz, qasz, qatz, qauz, qavz,
 ↓reduceIte, Nat.reduceEqDiff, List.nil_append, List.cons_append, List.append_nil, List.map_cons, List.map_nil, qawz, qaxz, qayz, Option.map_some, Option.map_none, qazz, qbaz, qbbz, qbcz, qbdz, qbez, qbfz, qbgz, qbhz, qbiz, qbjz, qbkz, qblz, qbmz, qbnz, qboz,
 qbpz, qbqz, qbrz, qbsz, qbtz, qbuz, qbvz, qbwz, qbxz, qbyz, qbzz, qcaz, qcbz, qccz, qcdz, qcez, qcfz, qcgz, qchz, qciz, beq_true, beq_false, Bool.not_eq_true', decide_eq_true_eq, decide_eq_false_iff_not, decide_true, decide_false,
 Int.toNat_natCast, Int.ofNat_lt, Int.ofNat_le, Int.natCast_inj, Bool.false_eq_true, Bool.true_eq_false, qcjz, List.getElem?_cons_zero, List.getElem?_cons_succ, qckz, Int.reduceToNat, Int.reduceLE, true_and, and_true, reduceCtorEq, or_false, false_or, or_true, Option.some.injEq, exists_eq_left', Bool.not_true, Bool.not_false, ne_eq, Int.reduceEq, not_true_eq_false, not_false_eq_true, Int.reduceLT, UInt8.reduceLT, UInt8.reduceLE, UInt8.reduceToNat]
      exact fin v S k1 (by simpa [putOf, h1] using m1) _ rfl rfl
    have e1 : ¬ (p : Int) < 128 := by omega
    by_cases h2 : p < 2048
    · have e2 : (p : Int) < 2048 := by omega
      obtain ⟨v, S, a1, k1, m1⟩ := app [UInt8.ofNat (192 + p / 64), UInt8.ofNat (128 + p % 64)] (by simp)
      simp (maxSteps := 1000000) (disch := omega) only [hip, e1, e2, quo32, rem32, addc32, cI8, lit8_2, freshT_eq, a1, qaaz, qabz, qacz, qadz, qaez, qafz, qagz, qahz, qaiz, qajz, qakz, qalz, qamz, qanz, evOp, qaoz, qapz, qaqz, qarz, qasz, qatz, qauz, qavz,
 ↓reduceIte, Nat.reduceEqDiff, List.nil_append, List.cons_append, List.append_nil, List.map_cons, List.map_nil, qawz, qaxz, qayz, Option.map_some, Option.map_none, qazz, qbaz, qbbz, qbcz, qbdz, qbez, qbfz, qbgz, qbhz, qbiz, qbjz, qbkz, qblz, qbmz, qbnz, qboz,
 qbpz, qbqz, qbrz, qbsz, qbtz, qbuz, qbvz, qbwz, qbxz, qbyz, qbzz, qcaz, qcbz, qccz, qcdz, qcez, qcfz, qcgz, qchz, qciz, beq_true, beq_false, Bool.not_eq_true', decide_eq_true_eq, decide_eq_false_iff_not, decide_true, decide_false,
 Int.toNat_natCast, Int.ofNat_lt, Int.ofNat_le, Int.natCast_inj, Bool.false_eq_true, Bool.true_eq_false, qcjz, List.getElem?_cons_zero, List.getElem?_cons_succ, qckz, Int.reduceToNat, Int.reduceLE, true_and, and_true, reduceCtorEq, or_false, false_or, or_true, Option.some.injEq, exists_eq_left', Bool.not_true, Bool.not_false, ne_eq, Int.reduceEq, not_true_eq_false, not_false_eq_true, Int.reduceLT, UInt8.reduceLT, UInt8.reduceLE, UInt8.reduceToNat]
      exact fin v S k1 (by simpa [putOf, h1, h2] using m1) _ rfl rfl
    have e2 : ¬ (p : Int) < 2048 := by omega
    by_cases h3 : p < 65536
    · have e3 : (p : Int) < 65536 := by omega
      obtain ⟨v, S, a1, k1, m1⟩ := app [UInt8.ofNat (224 + p / 4096), UInt8.ofNat (128 + p / 64 % 64), UInt8.ofNat (128 + p % 64)] (by simp)
      simp (maxSteps := 1000000) (disch := omega) only [hip, e1, e2, e3, quo32, rem32, addc32, cI8, lit8_3, freshT_eq, a1, qaaz, qabz, qacz, qadz, qaez, qafz, qagz, qahz, qaiz, qajz, qakz, qalz, qamz, qanz, evOp, qaoz, qapz, qaqz, qarz, qasz, qatz, qauz, qavz,
 ↓reduceIte, Nat.reduceEqDiff, List.nil_append, List.cons_append, List.append_nil, List.map_cons, List.map_nil, qawz, qaxz, qayz, Option.map_some, Option.map_none, qazz, qbaz, qbbz, qbcz, qbdz, qbez, qbfz, qbgz, qbhz, qbiz, qbjz, qbkz, qblz, qbmz, qbnz, qboz,
 qbpz, qbqz, qbrz, qbsz, qbtz, qbuz, qbvz, qbwz, qbxz, qbyz, qbzz, qcaz, qcbz, qccz, qcdz, qcez, qcfz, qcgz, qchz, qciz, beq_true, beq_false, Bool.not_eq_true', decide_eq_true_eq, decide_eq_false_iff_not, decide_true, decide_false,
 Int.toNat_natCast, Int.ofNat_lt, Int.ofNat_le, Int.natCast_inj, Bool.false_eq_true, Bool.true_eq_false, qcjz, List.getElem?_cons_zero, List.getElem?_cons_succ, qckz, Int.reduceToNat, Int.reduceLE, true_and, and_true, reduceCtorEq, or_false, false_or, or_true, Option.some.injEq, exists_eq_left', Bool.not_true, Bool.not_false, ne_eq, Int.reduceEq, not_true_eq_false, not_false_eq_true, Int.reduceLT, UInt8.reduceLT, UInt8.reduceLE, UInt8.reduceToNat]
      exact fin v S k1 (by simpa [putOf, h1, h2, h3] using m1) _ rfl rfl
    · have e3 : ¬ (p : Int) < 65536 := by omega
      obtain ⟨v, S, a1, k1, m1⟩ := app [UInt8.ofNat (240 + p / 262144), UInt8.ofNat (128 + p / 4096 % 64), UInt8.ofNat (128 + p / 64 % 64), UInt8.ofNat (128 + p % 64)] (by simp)
      simp (maxSteps := 1000000) (disch := omega) only [hip, e1, e2, e3, quo32, rem32, addc32, cI8, lit8_4, freshT_eq, a1, qaaz, qabz, qacz, qadz, qaez, qafz, qagz, qahz, qaiz, qajz, qakz, qalz, qamz, qanz, evOp, qaoz, qapz, qaqz, qarz, qasz, qatz, qauz, qavz,
 ↓reduceIte, Nat.reduceEqDiff, List.nil_append, List.cons_append, List.append_nil, List.map_cons, List.map_nil, qawz, qaxz, qayz, Option.map_some, Option.map_none, qazz, qbaz, qbbz, qbcz, qbdz, qbez, qbfz, qbgz, qbhz, qbiz, qbjz, qbkz, qblz, qbmz, qbnz, qboz,
 qbpz, qbqz, qbrz, qbsz, qbtz, qbuz, qbvz, qbwz, qbxz, qbyz, qbzz, qcaz, qcbz, qccz, qcdz, qcez, qcfz, qcgz, qchz, qciz, beq_true, beq_false, Bool.not_eq_true', decide_eq_true_eq, decide_eq_false_iff_not, decide_true, decide_false,
 Int.toNat_natCast, Int.ofNat_lt, Int.ofNat_le, Int.natCast_inj, Bool.false_eq_true, Bool.true_eq_false, qcjz, List.getElem?_cons_zero, List.getElem?_cons_succ, qckz, Int.reduceToNat, Int.reduceLE, true_and, and_true, reduceCtorEq, or_false, false_or, or_true, Option.some.injEq, exists_eq_left', Bool.not_true, Bool.not_false, ne_eq, Int.reduceEq, not_true_eq_false, not_false_eq_true, Int.reduceLT, UInt8.reduceLT, UInt8.reduceLE, UInt8.reduceToNat]
      exact fin v S k1 (by simpa [putOf, h1, h2, h3] using m1) _ rfl rfl
  · simp only [decide_eq_false hpt] at hip
    have hv : putV st p = (.tup [.nils, .int .i64 20], st) := by simp [putV, hpt]
    have fin : ∀ E : Env, E 2 = .nils → E 3 = .int .i64 20 → ∃ rv, resOf E { boxes := st.boxes, toks := st.toks, loops := st.loops, low := st.boxes.length } [.tmp 2, .tmp 3] = some rv ∧ leave st { boxes := st.boxes, toks := st.toks, loops := st.loops, low := st.boxes.length } rv = putV st p := by
      intro E k2 k3
      exact ⟨.tup [.nils, .int .i64 20], by simp [resOf, rvAll, rv1, k2, k3, notTup, packRes], by rw [hv]; exact hk.leave rfl (fun _ _ => rfl)⟩
    simp (maxSteps := 1000000) (disch := omega) only [hip, qaaz, qabz, qacz, qadz, qaez, qafz, qagz, qahz, qaiz, qajz, qakz, qalz, qamz, qanz, evOp, qaoz, qapz, qaqz, qarz, qasz, qatz, qauz, qavz,
 ↓reduceIte, Nat.reduceEqDiff, List.nil_append, List.cons_append, List.append_nil, List.map_cons, List.map_nil, qawz, qaxz, qayz, Option.map_some, Option.map_none, qazz, qbaz, qbbz, qbcz, qbdz, qbez, qbfz, qbgz, qbhz, qbiz, qbjz, qbkz, qblz, qbmz, qbnz, qboz,
 qbpz, qbqz, qbrz, qbsz, qbtz, qbuz, qbvz, qbwz, qbxz, qbyz, qbzz, qcaz, qcbz, qccz, qcdz, qcez, qcfz, qcgz, qchz, qciz, beq_true, beq_false, Bool.not_eq_true', decide_eq_true_eq, decide_eq_false_iff_not, decide_true, decide_false,
 Int.toNat_natCast, Int.ofNat_lt, Int.ofNat_le, Int.natCast_inj, Bool.false_eq_true, Bool.true_eq_false, qcjz, List.getElem?_cons_zero, List.getElem?_cons_succ, qckz, Int.reduceToNat, Int.reduceLE, true_and, and_true, reduceCtorEq, or_false, false_or, or_true, Option.some.injEq, exists_eq_left', Bool.not_true, Bool.not_false, ne_eq, Int.reduceEq, not_true_eq_false, not_false_eq_true, Int.reduceLT, UInt8.reduceLT, UInt8.reduceLE, UInt8.reduceToNat]
    exact fin _ rfl rfl
end Go.Ab

/-
  The point at the front is the one whose bytes stand there.
-/
namespace Go.Ab
set_option linter.unusedVariables false
set_option linter.unusedSimpArgs false
variable {st s : St} {e : Env}

def mdN (n : Nat) : Nat := if n = 2 then 32 else if n = 3 then 16 else 8
def qN (l : List UInt8) (n : Nat) : Nat := accP l ((l.getD 0 0).toNat % mdN n) (n - 1)
def succN (l : List UInt8) (n : Nat) : Prop := pointN (qN l n) ∧ putOf (qN l n) = l.take n

theorem u8_of {a : UInt8} {k : Nat} (h : k = a.toNat) : UInt8.ofNat k = a := by rw [h]; simp
theorem of_u8 {a : UInt8} {k : Nat} (h : UInt8.ofNat k = a) (hk : k < 256) : k = a.toNat := by
  rw [← h]; simp; omega

theorem lead2 {c : Nat} (h : 192 ≤ c ∧ c < 224) : lead c = (c % 32, 2) := by unfold lead; rw [if_pos h]
theorem lead3 {c : Nat} (h : 224 ≤ c ∧ c < 240) : lead c = (c % 16, 3) := by unfold lead; rw [if_neg (by omega), if_pos h]
theorem lead4 {c : Nat} (h : 240 ≤ c ∧ c < 248) : lead c = (c % 8, 4) := by unfold lead; rw [if_neg (by omega), if_neg (by omega), if_pos h]

theorem next_of {l : List UInt8} {p n : Nat} (hne : l ≠ []) (hc : ¬ (l.getD 0 0).toNat < 128) (hl : lead (l.getD 0 0).toNat = (p, n)) (hn : n ≠ 0) (hlen : n ≤ l.length) (hcb : contB l (n - 1)) (hp : pointN (accP l p (n - 1))) (hlow : lowN n ≤ accP l p (n - 1)) :
    nextOf l = some (accP l p (n - 1), n) := by
  unfold nextOf
  rw [if_neg hne, if_neg hc, hl, if_neg]
  simp only [not_or, Classical.not_not]
  exact ⟨hn, by omega, hcb, hp, by omega⟩

theorem succ_next {l : List UInt8} {n : Nat} (hn : n = 2 ∨ n = 3 ∨ n = 4) (hlen : n ≤ l.length) (hc : ¬ (l.getD 0 0).toNat < 128) (h : succN l n) : nextOf l = some (qN l n, n) := by
  have hne : l ≠ [] := by rintro rfl; simp at hlen; omega
  obtain ⟨h1, h2⟩ := h
  rcases hn with rfl | rfl | rfl
  · match l, hlen with
    | a :: b :: r, _ =>
      simp only [qN, mdN, accP, if_true, List.getD_cons_zero, List.getD_cons_succ, Nat.reduceSub, List.take_succ_cons, List.take_zero] at h1 h2 hc ⊢
      have ha := a.toNat_lt; have hb := b.toNat_lt
      obtain ⟨q, hq⟩ : ∃ q, q = 64 * (a.toNat % 32) + b.toNat % 64 := ⟨_, rfl⟩
      rw [← hq] at h1 h2 ⊢
      unfold putOf at h2
      split at h2
      · simp at h2
      · split at h2
        · simp only [List.cons.injEq, and_true] at h2
          have e1 := of_u8 h2.1 (by omega)
          have e2 := of_u8 h2.2 (by omega)
          have := next_of (l := a :: b :: r) (p := a.toNat % 32) (n := 2) hne (by simpa using hc) (lead2 (by simp only [List.getD_cons_zero]; omega)) (by omega) (by simp) (by
            intro j hj
            match j, hj with
            | 0, _ => simp only [List.getD_cons_succ, List.getD_cons_zero]; omega) (by simpa [accP, ← hq] using h1) (by simp [accP, lowN, ← hq]; omega)
          simpa [accP, ← hq] using this
        · split at h2 <;> simp at h2
  · match l, hlen with
    | a :: b :: c :: r, _ =>
      simp only [qN, mdN, accP, if_true, List.getD_cons_zero, List.getD_cons_succ, Nat.reduceSub, Nat.reduceEqDiff, if_false, List.take_succ_cons, List.take_zero] at h1 h2 hc ⊢
      have ha := a.toNat_lt; have hb := b.toNat_lt; have hcc := c.toNat_lt
      obtain ⟨q, hq⟩ : ∃ q, q = 64 * (64 * (a.toNat % 16) + b.toNat % 64) + c.toNat % 64 := ⟨_, rfl⟩
      rw [← hq] at h1 h2 ⊢
      unfold putOf at h2
      split at h2
      · simp at h2
      · split at h2
        · simp at h2
        · split at h2
          · simp only [List.cons.injEq, and_true] at h2
            have e1 := of_u8 h2.1 (by omega)
            have e2 := of_u8 h2.2.1 (by omega)
            have e3 := of_u8 h2.2.2 (by omega)
            have := next_of (l := a :: b :: c :: r) (p := a.toNat % 16) (n := 3) hne (by simpa using hc) (lead3 (by simp only [List.getD_cons_zero]; omega)) (by omega) (by simp) (by
              intro j hj
              match j, hj with
              | 0, _ => simp only [List.getD_cons_succ, List.getD_cons_zero]; omega
              | 1, _ => simp only [List.getD_cons_succ, List.getD_cons_zero]; omega) (by simpa [accP, ← hq] using h1) (by simp [accP, lowN, ← hq]; omega)
            simpa [accP, ← hq] using this
          · simp at h2
  · match l, hlen with
    | a :: b :: c :: d :: r, _ =>
      simp only [qN, mdN, accP, if_true, List.getD_cons_zero, List.getD_cons_succ, Nat.reduceSub, Nat.reduceEqDiff, if_false, List.take_succ_cons, List.take_zero] at h1 h2 hc ⊢
      have ha := a.toNat_lt; have hb := b.toNat_lt; have hcc := c.toNat_lt; have hdd := d.toNat_lt
      obtain ⟨q, hq⟩ : ∃ q, q = 64 * (64 * (64 * (a.toNat % 8) + b.toNat % 64) + c.toNat % 64) + d.toNat % 64 := ⟨_, rfl⟩
      rw [← hq] at h1 h2 ⊢
      have hq2 : q ≤ 1114111 := by unfold pointN at h1; omega
      unfold putOf at h2
      split at h2
      · simp at h2
      · split at h2
        · simp at h2
        · split at h2
          · simp at h2
          · simp only [List.cons.injEq, and_true] at h2
            have e1 := of_u8 h2.1 (by omega)
            have e2 := of_u8 h2.2.1 (by omega)
            have e3 := of_u8 h2.2.2.1 (by omega)
            have e4 := of_u8 h2.2.2.2 (by omega)
            have := next_of (l := a :: b :: c :: d :: r) (p := a.toNat % 8) (n := 4) hne (by simpa using hc) (lead4 (by simp only [List.getD_cons_zero]; omega)) (by omega) (by simp) (by
              intro j hj
              match j, hj with
              | 0, _ => simp only [List.getD_cons_succ, List.getD_cons_zero]; omega
              | 1, _ => simp only [List.getD_cons_succ, List.getD_cons_zero]; omega
              | 2, _ => simp only [List.getD_cons_succ, List.getD_cons_zero]; omega) (by simpa [accP, ← hq] using h1) (by simp [accP, lowN, ← hq]; omega)
            simpa [accP, ← hq] using this

theorem next_succ {l : List UInt8} {v n : Nat} (hc : ¬ (l.getD 0 0).toNat < 128) (h : nextOf l = some (v, n)) : (n = 2 ∨ n = 3 ∨ n = 4) ∧ n ≤ l.length ∧ succN l n := by
  unfold nextOf at h
  split at h
  · cases h
  rename_i hne
  simp only at h
  split at h
  · cases h
  rename_i hcond
  simp only [not_or, Classical.not_not] at hcond
  obtain ⟨c1, c2, c3, c4, c5⟩ := hcond
  simp only [Option.some.injEq, Prod.mk.injEq] at h
  obtain ⟨hv, hn⟩ := h
  rw [hn] at c1 c2 c3 c4 c5 hv
  have hl : lead (l.getD 0 0).toNat = ((lead (l.getD 0 0).toNat).1, n) := by rw [← hn]
  unfold lead at hl
  split at hl
  · rename_i hr
    simp only [Prod.mk.injEq] at hl
    obtain ⟨-, rfl⟩ := hl
    rw [lead2 hr] at c4 c5
    match l, c2 with
    | a :: b :: r, _ =>
      refine ⟨.inl rfl, by simp, ?_⟩
      have hb := c3 0 (by omega)
      simp only [succN, qN, mdN, accP, lowN, if_true, List.getD_cons_zero, List.getD_cons_succ, Nat.reduceSub, List.take_succ_cons, List.take_zero] at hr hb c4 c5 ⊢
      obtain ⟨q, hq⟩ : ∃ q, q = 64 * (a.toNat % 32) + b.toNat % 64 := ⟨_, rfl⟩
      rw [← hq] at c4 c5 ⊢
      refine ⟨c4, ?_⟩
      unfold putOf
      rw [if_neg (by omega), if_pos (by omega), u8_of (a := a) (by omega), u8_of (a := b) (by omega)]
    | [], h => simp at h
    | [a], h => simp at h
  · split at hl
    · rename_i hr
      simp only [Prod.mk.injEq] at hl
      obtain ⟨-, rfl⟩ := hl
      rw [lead3 hr] at c4 c5
      match l, c2 with
      | a :: b :: c :: r, _ =>
        refine ⟨.inr (.inl rfl), by simp, ?_⟩
        have hb := c3 0 (by omega)
        have hb2 := c3 1 (by omega)
        simp only [succN, qN, mdN, accP, lowN, if_true, List.getD_cons_zero, List.getD_cons_succ, Nat.reduceSub, Nat.reduceEqDiff, if_false, List.take_succ_cons, List.take_zero] at hr hb hb2 c4 c5 ⊢
        obtain ⟨q, hq⟩ : ∃ q, q = 64 * (64 * (a.toNat % 16) + b.toNat % 64) + c.toNat % 64 := ⟨_, rfl⟩
        rw [← hq] at c4 c5 ⊢
        refine ⟨c4, ?_⟩
        unfold putOf
        rw [if_neg (by omega), if_neg (by omega), if_pos (by omega), u8_of (a := a) (by omega), u8_of (a := b) (by omega), u8_of (a := c) (by omega)]
      | [], h => simp at h
      | [a], h => simp at h
      | [a, b], h => simp at h
    · split at hl
      · rename_i hr
        simp only [Prod.mk.injEq] at hl
        obtain ⟨-, rfl⟩ := hl
        rw [lead4 hr] at c4 c5
        match l, c2 with
        | a :: b :: c :: d :: r, _ =>
          refine ⟨.inr (.inr rfl), by simp, ?_⟩
          have hb := c3 0 (by omega)
          have hb2 := c3 1 (by omega)
          have hb3 := c3 2 (by omega)
          simp only [succN, qN, mdN, accP, lowN, if_true, List.getD_cons_zero, List.getD_cons_succ, Nat.reduceSub, Nat.reduceEqDiff, if_false, List.take_succ_cons, List.take_zero] at hr hb hb2 hb3 c4 c5 ⊢
          obtain ⟨q, hq⟩ : ∃ q, q = 64 * (64 * (64 * (a.toNat % 8) + b.toNat % 64) + c.toNat % 64) + d.toNat % 64 := ⟨_, rfl⟩
          rw [← hq] at c4 c5 ⊢
          refine ⟨c4, ?_⟩
          unfold putOf
          rw [if_neg (by omega), if_neg (by omega), if_neg (by omega), u8_of (a := a) (by omega), u8_of (a := b) (by omega), u8_of (a := c) (by omega), u8_of (a := d) (by omega)]
        | [], h => simp at h
        | [a], h => simp at h
        | [a, b], h => simp at h
        | [a, b, c], h => simp at h
      · simp only [Prod.mk.injEq] at hl
        exact absurd hl.2.symm c1
end Go.Ab

/-
  The point at a text's front: the document's function.
-/
namespace Go.Ab
set_option linter.unusedVariables false
set_option linter.unusedSimpArgs false
variable {st s : St} {e : Env}

theorem mul32 {ek : EK} {a : Nat} (h : 64 * a < 2147483648) : binPV .mul ek (.int .i32 64) (.int .i32 (a : Int)) = some (.int .i32 ((64 * a : Nat) : Int)) := by
  simp only [binPV, binI, reduceIte, Option.some.injEq]
  rw [wrap32 (by omega) (by omega)]
  congr 1

set_option maxHeartbeats 1000000 in
theorem rNext_spec {x : PV} {l : List UInt8} (hx : x.by = some l) (hl : l.length ≤ 100000000) : call prog (.fn 75 []) [x] st = some (nextV l, st) := by
  refine call_of_W prog_75 ?_
  unfold F_posthornref02_Next; dsimp only
  by_cases hne : l = []
  · have e1 : decide ((l.length : Int) = 0) = true := by simp [hne]
    simp (maxSteps := 1000000) (disch := omega) only [len_by hx, e1, qaaz, qabz, qacz, qadz, qaez, qafz, qagz, qahz, qaiz, qajz, qakz, qalz, qamz, qanz, evOp, qaoz, qapz, qaqz, qarz, qasz, qatz, qauz, qavz,
 ↓reduceIte, Nat.reduceEqDiff, List.nil_append, List.cons_append, List.append_nil, List.map_cons, List.map_nil, qawz, qaxz, qayz, Option.map_some, Option.map_none, qazz, qbaz, qbbz, qbcz, qbdz, qbez, qbfz, qbgz, qbhz, qbiz, qbjz, qbkz, qblz, qbmz, qbnz, qboz,
 qbpz, qbqz, qbrz, qbsz, qbtz, qbuz, qbvz, qbwz, qbxz, qbyz, qbzz, qcaz, qcbz, qccz, qcdz, qcez, qcfz, qcgz, qchz, qciz, beq_true, beq_false, Bool.not_eq_true', decide_eq_true_eq, decide_eq_false_iff_not, decide_true, decide_false,
 Int.toNat_natCast, Int.ofNat_lt, Int.ofNat_le, Int.natCast_inj, Bool.false_eq_true, Bool.true_eq_false, qcjz, List.getElem?_cons_zero, List.getElem?_cons_succ, qckz, Int.reduceToNat, Int.reduceLE, true_and, and_true, reduceCtorEq, or_false, false_or, or_true, Option.some.injEq, exists_eq_left', Bool.not_true, Bool.not_false, ne_eq, Int.reduceEq, not_true_eq_false, not_false_eq_true, Int.reduceLT, UInt8.reduceLT, UInt8.reduceLE, UInt8.reduceToNat]
    exact ⟨.tup [.int .i32 0, .int .i64 0, .int .i64 42], rfl, by
      rw [show nextV l = .tup [.int .i32 0, .int .i64 0, .int .i64 42] by simp [nextV, nextOf, hne]]
      exact Kept.start.leave rfl (fun _ _ => rfl)⟩
  have hlen : 0 < l.length := List.length_pos_iff.2 hne
  have e1 : ¬ ((l.length : Int) = 0) := by omega
  obtain ⟨c, hc⟩ : ∃ c, c = l.getD 0 0 := ⟨_, rfl⟩
  have hi0 : iaddrPV 1 x (.int .i64 0) = some (.cp [.b8 c]) := by rw [hc]; exact iaddr_by hx (by omega) (by simpa using hlen)
  by_cases h128 : c < 128
  · have h128' : c.toNat < 128 := by rw [UInt8.lt_iff_toNat_lt] at h128; simpa using h128
    simp (maxSteps := 1000000) (disch := omega) only [len_by hx, e1, hi0, qciz, h128, cI32, qaaz, qabz, qacz, qadz, qaez, qafz, qagz, qahz, qaiz, qajz, qakz, qalz, qamz, qanz, evOp, qaoz, qapz, qaqz, qarz, qasz, qatz, qauz, qavz,
 ↓reduceIte, Nat.reduceEqDiff, List.nil_append, List.cons_append, List.append_nil, List.map_cons, List.map_nil, qawz, qaxz, qayz, Option.map_some, Option.map_none, qazz, qbaz, qbbz, qbcz, qbdz, qbez, qbfz, qbgz, qbhz, qbiz, qbjz, qbkz, qblz, qbmz, qbnz, qboz,
 qbpz, qbqz, qbrz, qbsz, qbtz, qbuz, qbvz, qbwz, qbxz, qbyz, qbzz, qcaz, qcbz, qccz, qcdz, qcez, qcfz, qcgz, qchz, qciz, beq_true, beq_false, Bool.not_eq_true', decide_eq_true_eq, decide_eq_false_iff_not, decide_true, decide_false,
 Int.toNat_natCast, Int.ofNat_lt, Int.ofNat_le, Int.natCast_inj, Bool.false_eq_true, Bool.true_eq_false, qcjz, List.getElem?_cons_zero, List.getElem?_cons_succ, qckz, Int.reduceToNat, Int.reduceLE, true_and, and_true, reduceCtorEq, or_false, false_or, or_true, Option.some.injEq, exists_eq_left', Bool.not_true, Bool.not_false, ne_eq, Int.reduceEq, not_true_eq_false, not_false_eq_true, Int.reduceLT, UInt8.reduceLT, UInt8.reduceLE, UInt8.reduceToNat]
    exact ⟨.tup [.int .i32 (c.toNat : Int), .int .i64 1, .int .i64 0], rfl, by
      rw [nextV_some (p := c.toNat) (n := 1) (by unfold nextOf; rw [if_neg hne, ← hc, if_pos h128'])]
      exact Kept.start.leave rfl (fun _ _ => rfl)⟩
  have h128' : ¬ (l.getD 0 0).toNat < 128 := by rw [← hc]; rw [UInt8.lt_iff_toNat_lt] at h128; simpa using h128
  simp (maxSteps := 1000000) (disch := omega) only [len_by hx, e1, hi0, qciz, h128, qaaz, qabz, qacz, qadz, qaez, qafz, qagz, qahz, qaiz, qajz, qakz, qalz, qamz, qanz, evOp, qaoz, qapz, qaqz, qarz, qasz, qatz, qauz, qavz,
 ↓reduceIte, Nat.reduceEqDiff, List.nil_append, List.cons_append, List.append_nil, List.map_cons, List.map_nil, qawz, qaxz, qayz, Option.map_some, Option.map_none, qazz, qbaz, qbbz, qbcz, qbdz, qbez, qbfz, qbgz, qbhz, qbiz, qbjz, qbkz, qblz, qbmz, qbnz, qboz,
 qbpz, qbqz, qbrz, qbsz, qbtz, qbuz, qbvz, qbwz, qbxz, qbyz, qbzz, qcaz, qcbz, qccz, qcdz, qcez, qcfz, qcgz, qchz, qciz, beq_true, beq_false, Bool.not_eq_true', decide_eq_true_eq, decide_eq_false_iff_not, decide_true, decide_false,
 Int.toNat_natCast, Int.ofNat_lt, Int.ofNat_le, Int.natCast_inj, Bool.false_eq_true, Bool.true_eq_false, qcjz, List.getElem?_cons_zero, List.getElem?_cons_succ, qckz, Int.reduceToNat, Int.reduceLE, true_and, and_true, reduceCtorEq, or_false, false_or, or_true, Option.some.injEq, exists_eq_left', Bool.not_true, Bool.not_false, ne_eq, Int.reduceEq, not_true_eq_false, not_false_eq_true, Int.reduceLT, UInt8.reduceLT, UInt8.reduceLE, UInt8.reduceToNat]
  obtain ⟨I, hI⟩ : ∃ I : Nat → Env → St → Prop, I = fun m E S => ∃ n, m = 5 - n ∧ 2 ≤ n ∧ n ≤ 5 ∧ Kept st S ∧ (∀ k, 2 ≤ k → k < n → k ≤ l.length → ¬ succN l k) ∧ E 0 = x ∧ E 5 = .int .i64 (n : Int) := ⟨_, rfl⟩
  refine W_loop I ?_ (n := 3) (by
    rw [hI]
    exact ⟨2, rfl, by omega, by omega, Kept.start, fun k h1 h2 => by omega, rfl, rfl⟩)
  intro m e S hh
  rw [hI] at hh
  obtain ⟨n, rfl, hn2, hn5, hk, hall, h0, h5⟩ := hh
  by_cases hr : n ≤ 4 ∧ n ≤ l.length
  · obtain ⟨hn4, hnl⟩ := hr
    have r1 : (n : Int) ≤ 4 := by omega
    have hn : n = 2 ∨ n = 3 ∨ n = 4 := by omega
    refine W_cut (fun E S => Kept st S ∧ E 0 = x ∧ E 5 = .int .i64 (n : Int)) ?_ ?_
    · simp (maxSteps := 1000000) (disch := omega) only [h0, h5, r1, len_by hx, hnl, qaaz, qabz, qacz, qadz, qaez, qafz, qagz, qahz, qaiz, qajz, qakz, qalz, qamz, qanz, evOp, qaoz, qapz, qaqz, qarz, qasz, qatz, qauz, qavz,
 ↓reduceIte, Nat.reduceEqDiff, List.nil_append, List.cons_append, List.append_nil, List.map_cons, List.map_nil, qawz, qaxz, qayz, Option.map_some, Option.map_none, qazz, qbaz, qbbz, qbcz, qbdz, qbez, qbfz, qbgz, qbhz, qbiz, qbjz, qbkz, qblz, qbmz, qbnz, qboz,
 qbpz, qbqz, qbrz, qbsz, qbtz, qbuz, qbvz, qbwz, qbxz, qbyz, qbzz, qcaz, qcbz, qccz, qcdz, qcez, qcfz, qcgz, qchz, qciz, beq_true, beq_false, Bool.not_eq_true', decide_eq_true_eq, decide_eq_false_iff_not, decide_true, decide_false,
 Int.toNat_natCast, Int.ofNat_lt, Int.ofNat_le, Int.natCast_inj, Bool.false_eq_true, Bool.true_eq_false, qcjz, List.getElem?_cons_zero, List.getElem?_cons_succ, qckz, Int.reduceToNat, Int.reduceLE, true_and, and_true, reduceCtorEq, or_false, false_or, or_true, Option.some.injEq, exists_eq_left', Bool.not_true, Bool.not_false, ne_eq, Int.reduceEq, not_true_eq_false, not_false_eq_true, Int.reduceLT, UInt8.reduceLT, UInt8.reduceLE, UInt8.reduceToNat]
      exact hk
    clear hk h0 h5
    rintro e S ⟨hk, h0, h5⟩
    rw [qaaz, qadz]
    refine W_cut (fun E S => Kept st S ∧ E 0 = x ∧ E 5 = .int .i64 (n : Int) ∧ E 6 = .int .i32 ((c.toNat % 32 : Nat) : Int)) ?_ ?_
    · simp (maxSteps := 1000000) (disch := omega) only [h0, h5, hi0, qciz, cI32, rem32, qaaz, qabz, qacz, qadz, qaez, qafz, qagz, qahz, qaiz, qajz, qakz, qalz, qamz, qanz, evOp, qaoz, qapz, qaqz, qarz, qasz, qatz, qauz, qavz,
 ↓reduceIte, Nat.reduceEqDiff, List.nil_append, List.cons_append, List.append_nil, List.map_cons, List.map_nil, qawz, qaxz, qayz, Option.map_some, Option.map_none, qazz, qbaz, qbbz, qbcz, qbdz, qbez, qbfz, qbgz, qbhz, qbiz, qbjz, qbkz, qblz, qbmz, qbnz, qboz,
 qbpz, qbqz, qbrz, qbsz, qbtz, qbuz, qbvz, qbwz, qbxz, qbyz, qbzz, qcaz, qcbz, qccz, qcdz, qcez, qcfz, qcgz, qchz, qciz, beq_true, beq_false, Bool.not_eq_true', decide_eq_true_eq, decide_eq_false_iff_not, decide_true, decide_false,
 Int.toNat_natCast, Int.ofNat_lt, Int.ofNat_le, Int.natCast_inj, Bool.false_eq_true, Bool.true_eq_false, qcjz, List.getElem?_cons_zero, List.getElem?_cons_succ, qckz, Int.reduceToNat, Int.reduceLE, true_and, and_true, reduceCtorEq, or_false, false_or, or_true, Option.some.injEq, exists_eq_left', Bool.not_true, Bool.not_false, ne_eq, Int.reduceEq, not_true_eq_false, not_false_eq_true, Int.reduceLT, UInt8.reduceLT, UInt8.reduceLE, UInt8.reduceToNat]
      exact hk
    clear hk h0 h5
    rintro e S ⟨hk, h0, h5, h6⟩
    refine W_cut (fun E S => Kept st S ∧ E 0 = x ∧ E 5 = .int .i64 (n : Int) ∧ E 6 = .int .i32 ((if n = 3 then c.toNat % 16 else c.toNat % 32 : Nat) : Int)) ?_ ?_
    · by_cases q : n = 3
      · have d3 : decide ((n : Int) = 3) = true := by simp [q]
        simp (maxSteps := 1000000) (disch := omega) only [h0, h5, h6, d3, hi0, qciz, cI32, rem32, qaaz, qabz, qacz, qadz, qaez, qafz, qagz, qahz, qaiz, qajz, qakz, qalz, qamz, qanz, evOp, qaoz, qapz, qaqz, qarz, qasz, qatz, qauz, qavz,
 ↓reduceIte, Nat.reduceEqDiff, List.nil_append, List.cons_append, List.append_nil, List.map_cons, List.map_nil, qawz, qaxz, qayz, Option.map_some, Option.map_none, qazz, qbaz, qbbz, qbcz, qbdz, qbez, qbfz, qbgz, qbhz, qbiz, qbjz, qbkz, qblz, qbmz, qbnz, qboz,
 qbpz, qbqz, qbrz, qbsz, qbtz, qbuz, qbvz, qbwz, qbxz, qbyz, qbzz, qcaz, qcbz, qccz, qcdz, qcez, qcfz, qcgz, qchz, qciz, beq_true, beq_false, Bool.not_eq_true', decide_eq_true_eq, decide_eq_false_iff_not, decide_true, decide_false,
 Int.toNat_natCast, Int.ofNat_lt, Int.ofNat_le, Int.natCast_inj, Bool.false_eq_true, Bool.true_eq_false, qcjz, List.getElem?_cons_zero, List.getElem?_cons_succ, qckz, Int.reduceToNat, Int.reduceLE, true_and, and_true, reduceCtorEq, or_false, false_or, or_true, Option.some.injEq, exists_eq_left', Bool.not_true, Bool.not_false, ne_eq, Int.reduceEq, not_true_eq_false, not_false_eq_true, Int.reduceLT, UInt8.reduceLT, UInt8.reduceLE, UInt8.reduceToNat]
        exact ⟨hk, by simp [q]⟩
      · have d3 : ¬ (n : Int) = 3 := by omega
        simp (maxSteps := 1000000) (disch := omega) only [h0, h5, h6, d3, qaaz, qabz, qacz, qadz, qaez, qafz, qagz, qahz, qaiz, qajz, qakz, qalz, qamz, qanz, evOp, qaoz, qapz, qaqz, qarz, qasz, qatz, qauz, qavz,
 ↓reduceIte, Nat.reduceEqDiff, List.nil_append, List.cons_append, List.append_nil, List.map_cons, List.map_nil, qawz, qaxz, qayz, Option.map_some, Option.map_none, qazz, qbaz, qbbz, qbcz, qbdz, qbez, qbfz, qbgz, qbhz, qbiz, qbjz, qbkz, qblz, qbmz, qbnz, qboz,
 qbpz, qbqz, qbrz, qbsz, qbtz, qbuz, qbvz, qbwz, qbxz, qbyz, qbzz, qcaz, qcbz, qccz, qcdz, qcez, qcfz, qcgz, qchz, qciz, beq_true, beq_false, Bool.not_eq_true', decide_eq_true_eq, decide_eq_false_iff_not, decide_true, decide_false,
 Int.toNat_natCast, Int.ofNat_lt, Int.ofNat_le, Int.natCast_inj, Bool.false_eq_true, Bool.true_eq_false, qcjz, List.getElem?_cons_zero, List.getElem?_cons_succ, qckz, Int.reduceToNat, Int.reduceLE, true_and, and_true, reduceCtorEq, or_false, false_or, or_true, Option.some.injEq, exists_eq_left', Bool.not_true, Bool.not_false, ne_eq, Int.reduceEq, not_true_eq_false, not_false_eq_true, Int.reduceLT, UInt8.reduceLT, UInt8.reduceLE, UInt8.reduceToNat]
        exact ⟨hk, by simp [q]⟩
    clear hk h0 h5 h6
    rintro e S ⟨hk, h0, h5, h6⟩
    refine W_cut (fun E S => Kept st S ∧ E 0 = x ∧ E 5 = .int .i64 (n : Int) ∧ E 6 = .int .i32 ((c.toNat % mdN n : Nat) : Int)) ?_ ?_
    · by_cases q : n = 4
      · have d4 : decide ((n : Int) = 4) = true := by simp [q]
        simp (maxSteps := 1000000) (disch := omega) only [h0, h5, h6, d4, hi0, qciz, cI32, rem32, qaaz, qabz, qacz, qadz, qaez, qafz, qagz, qahz, qaiz, qajz, qakz, qalz, qamz, qanz, evOp, qaoz, qapz, qaqz, qarz, qasz, qatz, qauz, qavz,
 ↓reduceIte, Nat.reduceEqDiff, List.nil_append, List.cons_append, List.append_nil, List.map_cons, List.map_nil, qawz, qaxz, qayz, Option.map_some, Option.map_none, qazz, qbaz, qbbz, qbcz, qbdz, qbez, qbfz, qbgz, qbhz, qbiz, qbjz, qbkz, qblz, qbmz, qbnz, qboz,
 qbpz, qbqz, qbrz, qbsz, qbtz, qbuz, qbvz, qbwz, qbxz, qbyz, qbzz, qcaz, qcbz, qccz, qcdz, qcez, qcfz, qcgz, qchz, qciz, beq_true, beq_false, Bool.not_eq_true', decide_eq_true_eq, decide_eq_false_iff_not, decide_true, decide_false,
 Int.toNat_natCast, Int.ofNat_lt, Int.ofNat_le, Int.natCast_inj, Bool.false_eq_true, Bool.true_eq_false, qcjz, List.getElem?_cons_zero, List.getElem?_cons_succ, qckz, Int.reduceToNat, Int.reduceLE, true_and, and_true, reduceCtorEq, or_false, false_or, or_true, Option.some.injEq, exists_eq_left', Bool.not_true, Bool.not_false, ne_eq, Int.reduceEq, not_true_eq_false, not_false_eq_true, Int.reduceLT, UInt8.reduceLT, UInt8.reduceLE, UInt8.reduceToNat]
        exact ⟨hk, by simp [q, mdN]⟩
      · have d4 : ¬ (n : Int) = 4 := by omega
        simp (maxSteps := 1000000) (disch := omega) only [h0, h5, h6, d4, qaaz, qabz, qacz, qadz, qaez, qafz, qagz, qahz, qaiz, qajz, qakz, qalz, qamz, qanz, evOp, qaoz, qapz, qaqz, qarz, qasz, qatz, qauz, qavz,
 ↓reduceIte, Nat.reduceEqDiff, List.nil_append, List.cons_append, List.append_nil, List.map_cons, List.map_nil, qawz, qaxz, qayz, Option.map_some, Option.map_none, qazz, qbaz, qbbz, qbcz, qbdz, qbez, qbfz, qbgz, qbhz, qbiz, qbjz, qbkz, qblz, qbmz, qbnz, qboz,
 qbpz, qbqz, qbrz, qbsz, qbtz, qbuz, qbvz, qbwz, qbxz, qbyz, qbzz, qcaz, qcbz, qccz, qcdz, qcez, qcfz, qcgz, qchz, qciz, beq_true, beq_false, Bool.not_eq_true', decide_eq_true_eq, decide_eq_false_iff_not, decide_true, decide_false,
 Int.toNat_natCast, Int.ofNat_lt, Int.ofNat_le, Int.natCast_inj, Bool.false_eq_true, Bool.true_eq_false, qcjz, List.getElem?_cons_zero, List.getElem?_cons_succ, qckz, Int.reduceToNat, Int.reduceLE, true_and, and_true, reduceCtorEq, or_false, false_or, or_true, Option.some.injEq, exists_eq_left', Bool.not_true, Bool.not_false, ne_eq, Int.reduceEq, not_true_eq_false, not_false_eq_true, Int.reduceLT, UInt8.reduceLT, UInt8.reduceLE, UInt8.reduceToNat]
        refine ⟨hk, ?_⟩
        by_cases q3 : n = 3
        · simp [mdN, q3]
        · have q2 : n = 2 := by omega
          simp [mdN, q2]
    clear hk h0 h5 h6
    rintro e S ⟨hk, h0, h5, h6⟩
    obtain ⟨p, hp⟩ : ∃ p, p = c.toNat % mdN n := ⟨_, rfl⟩
    rw [← hp] at h6
    have hp32 : p < 32 := by
      rw [hp]; unfold mdN
      split
      · omega
      · split <;> omega
    have hacc : ∀ k, k ≤ 3 → accP l p k < 8388609 := by
      intro k hk
      have := accP_lt (l := l) (p := p) k
      have h64 : (p + 1) * 64 ^ k ≤ 32 * 64 ^ 3 := Nat.mul_le_mul (by omega) (Nat.pow_le_pow_right (by omega) hk)
      have : 32 * 64 ^ 3 = 8388608 := by decide
      omega
    have hq : qN l n = accP l p (n - 1) := by unfold qN; rw [← hc, ← hp]
    refine W_cut (fun E S => Kept st S ∧ E 0 = x ∧ E 5 = .int .i64 (n : Int) ∧ E 6 = .int .i32 ((accP l p (n - 1) : Nat) : Int)) ?_ ?_
    · simp (maxSteps := 1000000) (disch := omega) only [h0, h5, h6, qaaz, qabz, qacz, qadz, qaez, qafz, qagz, qahz, qaiz, qajz, qakz, qalz, qamz, qanz, evOp, qaoz, qapz, qaqz, qarz, qasz, qatz, qauz, qavz,
 ↓reduceIte, Nat.reduceEqDiff, List.nil_append, List.cons_append, List.append_nil, List.map_cons, List.map_nil, qawz, qaxz, qayz, Option.map_some, Option.map_none, qazz, qbaz, qbbz, qbcz, qbdz, qbez, qbfz, qbgz, qbhz, qbiz, qbjz, qbkz, qblz, qbmz, qbnz, qboz,
 qbpz, qbqz, qbrz, qbsz, qbtz, qbuz, qbvz, qbwz, qbxz, qbyz, qbzz, qcaz, qcbz, qccz, qcdz, qcez, qcfz, qcgz, qchz, qciz, beq_true, beq_false, Bool.not_eq_true', decide_eq_true_eq, decide_eq_false_iff_not, decide_true, decide_false,
 Int.toNat_natCast, Int.ofNat_lt, Int.ofNat_le, Int.natCast_inj, Bool.false_eq_true, Bool.true_eq_false, qcjz, List.getElem?_cons_zero, List.getElem?_cons_succ, qckz, Int.reduceToNat, Int.reduceLE, true_and, and_true, reduceCtorEq, or_false, false_or, or_true, Option.some.injEq, exists_eq_left', Bool.not_true, Bool.not_false, ne_eq, Int.reduceEq, not_true_eq_false, not_false_eq_true, Int.reduceLT, UInt8.reduceLT, UInt8.reduceLE, UInt8.reduceToNat]
      obtain ⟨II, hII⟩ : ∃ II : Nat → Env → St → Prop, II = fun m E S => ∃ k, m = n - 1 - k ∧ k ≤ n - 1 ∧ Kept st S ∧ E 0 = x ∧ E 5 = .int .i64 (n : Int) ∧ E 6 = .int .i32 ((accP l p k : Nat) : Int) ∧ E 7 = .int .i64 ((k + 1 : Nat) : Int) := ⟨_, rfl⟩
      refine W_loop II ?_ (n := n - 1) (by
        rw [hII]
        exact ⟨0, rfl, by omega, hk, h0, h5, h6, rfl⟩)
      clear hk h0 h5 h6
      intro m E S hh
      rw [hII] at hh
      obtain ⟨k, rfl, hk1, hk, h0, h5, h6, h7⟩ := hh
      by_cases hlt : k + 1 < n
      · obtain ⟨d, hd⟩ : ∃ d, d = l.getD (k + 1) 0 := ⟨_, rfl⟩
        have hid : iaddrPV 1 x (.int .i64 ((k + 1 : Nat) : Int)) = some (.cp [.b8 d]) := by
          rw [hd]; exact iaddr_by hx (by omega) (by rw [Int.toNat_natCast]; omega)
        have ha := hacc k (by omega)
        have hstep : accP l p (k + 1) = 64 * accP l p k + d.toNat % 64 := by rw [hd]; rfl
        simp (maxSteps := 1000000) (disch := omega) only [h0, h5, h6, h7, hlt, hid, qciz, cI32, rem32, mul32, addc32, add_n, qaaz, qabz, qacz, qadz, qaez, qafz, qagz, qahz, qaiz, qajz, qakz, qalz, qamz, qanz, evOp, qaoz, qapz, qaqz, qarz, qasz, qatz, qauz, qavz,
 ↓reduceIte, Nat.reduceEqDiff, List.nil_append, List.cons_append, List.append_nil, List.map_cons, List.map_nil, qawz, qaxz, qayz, Option.map_some, Option.map_none, qazz, qbaz, qbbz, qbcz, qbdz, qbez, qbfz, qbgz, qbhz, qbiz, qbjz, qbkz, qblz, qbmz, qbnz, qboz,
 qbpz, qbqz, qbrz, qbsz, qbtz, qbuz, qbvz, qbwz, qbxz, qbyz, qbzz, qcaz, qcbz, qccz, qcdz, qcez, qcfz, qcgz, qchz, qciz, beq_true, beq_false, Bool.not_eq_true', decide_eq_true_eq, decide_eq_false_iff_not, decide_true, decide_false,
 Int.toNat_natCast, Int.ofNat_lt, Int.ofNat_le, Int.natCast_inj, Bool.false_eq_true, Bool.true_eq_false, qcjz, List.getElem?_cons_zero, List.getElem?_cons_succ, qckz, Int.reduceToNat, Int.reduceLE, true_and, and_true, reduceCtorEq, or_false, false_or, or_true, Option.some.injEq, exists_eq_left', Bool.not_true, Bool.not_false, ne_eq, Int.reduceEq, not_true_eq_false, not_false_eq_true, Int.reduceLT, UInt8.reduceLT, UInt8.reduceLE, UInt8.reduceToNat]
        refine loopQ_intro (m := n - 1 - (k + 1)) (by omega) ?_
        rw [hII]
        exact ⟨k + 1, rfl, by omega, hk, h0, h5, by rw [hstep]; rfl, rfl⟩
      · obtain rfl : k = n - 1 := by omega
        simp (maxSteps := 1000000) (disch := omega) only [h0, h5, h6, h7, hlt, qaaz, qabz, qacz, qadz, qaez, qafz, qagz, qahz, qaiz, qajz, qakz, qalz, qamz, qanz, evOp, qaoz, qapz, qaqz, qarz, qasz, qatz, qauz, qavz,
 ↓reduceIte, Nat.reduceEqDiff, List.nil_append, List.cons_append, List.append_nil, List.map_cons, List.map_nil, qawz, qaxz, qayz, Option.map_some, Option.map_none, qazz, qbaz, qbbz, qbcz, qbdz, qbez, qbfz, qbgz, qbhz, qbiz, qbjz, qbkz, qblz, qbmz, qbnz, qboz,
 qbpz, qbqz, qbrz, qbsz, qbtz, qbuz, qbvz, qbwz, qbxz, qbyz, qbzz, qcaz, qcbz, qccz, qcdz, qcez, qcfz, qcgz, qchz, qciz, beq_true, beq_false, Bool.not_eq_true', decide_eq_true_eq, decide_eq_false_iff_not, decide_true, decide_false,
 Int.toNat_natCast, Int.ofNat_lt, Int.ofNat_le, Int.natCast_inj, Bool.false_eq_true, Bool.true_eq_false, qcjz, List.getElem?_cons_zero, List.getElem?_cons_succ, qckz, Int.reduceToNat, Int.reduceLE, true_and, and_true, reduceCtorEq, or_false, false_or, or_true, Option.some.injEq, exists_eq_left', Bool.not_true, Bool.not_false, ne_eq, Int.reduceEq, not_true_eq_false, not_false_eq_true, Int.reduceLT, UInt8.reduceLT, UInt8.reduceLE, UInt8.reduceToNat]
        exact hk
    clear hk h0 h5 h6
    rintro e S ⟨hk, h0, h5, h6⟩
    rw [← hq] at h6
    have hqb : qN l n < 2147483648 := by rw [hq]; have := hacc (n - 1) (by omega); omega
    have hput := Put_spec (st := S) hqb
    have hnext : ¬ succN l n → ∀ (E : Env) (S : St), Kept st S → E 0 = x → E 5 = .int .i64 ((n + 1 : Nat) : Int) → I (5 - (n + 1)) E S := by
      intro hs E S k1 k2 k3
      rw [hI]
      refine ⟨n + 1, rfl, by omega, by omega, k1, fun k j1 j2 j3 => ?_, k2, k3⟩
      by_cases hkn : k = n
      · subst hkn; exact hs
      · exact hall k j1 (by omega) j3
    by_cases hpt : pointN (qN l n)
    · have hput' : call prog (.fn 81 []) [.int .i32 ((qN l n : Nat) : Int)] S = some (.tup [.bys (.own S.toks.length) (putOf (qN l n)), .int .i64 0], S.tok1) := by
        rw [hput]; simp [putV, hpt]
      have hsl := slc_hi (k := .i64) (c := (n : Int)) hx (by omega) (by simpa using hnl)
      rw [Int.toNat_natCast] at hsl
      by_cases hs : putOf (qN l n) = l.take n
      · have hyes := succ_next hn hnl h128' ⟨hpt, hs⟩
        simp (maxSteps := 1000000) (disch := omega) only [h0, h5, h6, hput', b2s_by qcgz, hsl, b2s_by (takeB_by hx), eq_true hs, qaaz, qabz, qacz, qadz, qaez, qafz, qagz, qahz, qaiz, qajz, qakz, qalz, qamz, qanz, evOp, qaoz, qapz, qaqz, qarz, qasz, qatz, qauz, qavz,
 ↓reduceIte, Nat.reduceEqDiff, List.nil_append, List.cons_append, List.append_nil, List.map_cons, List.map_nil, qawz, qaxz, qayz, Option.map_some, Option.map_none, qazz, qbaz, qbbz, qbcz, qbdz, qbez, qbfz, qbgz, qbhz, qbiz, qbjz, qbkz, qblz, qbmz, qbnz, qboz,
 qbpz, qbqz, qbrz, qbsz, qbtz, qbuz, qbvz, qbwz, qbxz, qbyz, qbzz, qcaz, qcbz, qccz, qcdz, qcez, qcfz, qcgz, qchz, qciz, beq_true, beq_false, Bool.not_eq_true', decide_eq_true_eq, decide_eq_false_iff_not, decide_true, decide_false,
 Int.toNat_natCast, Int.ofNat_lt, Int.ofNat_le, Int.natCast_inj, Bool.false_eq_true, Bool.true_eq_false, qcjz, List.getElem?_cons_zero, List.getElem?_cons_succ, qckz, Int.reduceToNat, Int.reduceLE, true_and, and_true, reduceCtorEq, or_false, false_or, or_true, Option.some.injEq, exists_eq_left', Bool.not_true, Bool.not_false, ne_eq, Int.reduceEq, not_true_eq_false, not_false_eq_true, Int.reduceLT, UInt8.reduceLT, UInt8.reduceLE, UInt8.reduceToNat]
        refine ⟨.tup [.int .i32 ((qN l n : Nat) : Int), .int .i64 (n : Int), .int .i64 0], rfl, ?_⟩
        rw [nextV_some hyes]
        exact hk.tok1.leave rfl (fun _ _ => rfl)
      · simp (maxSteps := 1000000) (disch := omega) only [h0, h5, h6, hput', b2s_by qcgz, hsl, b2s_by (takeB_by hx), hs, add_n, qaaz, qabz, qacz, qadz, qaez, qafz, qagz, qahz, qaiz, qajz, qakz, qalz, qamz, qanz, evOp, qaoz, qapz, qaqz, qarz, qasz, qatz, qauz, qavz,
 ↓reduceIte, Nat.reduceEqDiff, List.nil_append, List.cons_append, List.append_nil, List.map_cons, List.map_nil, qawz, qaxz, qayz, Option.map_some, Option.map_none, qazz, qbaz, qbbz, qbcz, qbdz, qbez, qbfz, qbgz, qbhz, qbiz, qbjz, qbkz, qblz, qbmz, qbnz, qboz,
 qbpz, qbqz, qbrz, qbsz, qbtz, qbuz, qbvz, qbwz, qbxz, qbyz, qbzz, qcaz, qcbz, qccz, qcdz, qcez, qcfz, qcgz, qchz, qciz, beq_true, beq_false, Bool.not_eq_true', decide_eq_true_eq, decide_eq_false_iff_not, decide_true, decide_false,
 Int.toNat_natCast, Int.ofNat_lt, Int.ofNat_le, Int.natCast_inj, Bool.false_eq_true, Bool.true_eq_false, qcjz, List.getElem?_cons_zero, List.getElem?_cons_succ, qckz, Int.reduceToNat, Int.reduceLE, true_and, and_true, reduceCtorEq, or_false, false_or, or_true, Option.some.injEq, exists_eq_left', Bool.not_true, Bool.not_false, ne_eq, Int.reduceEq, not_true_eq_false, not_false_eq_true, Int.reduceLT, UInt8.reduceLT, UInt8.reduceLE, UInt8.reduceToNat]
        exact loopQ_intro (m := 5 - (n + 1)) (by omega) (hnext (fun h => hs h.2) _ _ hk.tok1 h0 rfl)
    · have hput' : call prog (.fn 81 []) [.int .i32 ((qN l n : Nat) : Int)] S = some (.tup [.nils, .int .i64 20], S) := by
        rw [hput]; simp [putV, hpt]
      simp (maxSteps := 1000000) (disch := omega) only [h0, h5, h6, hput', add_n, qaaz, qabz, qacz, qadz, qaez, qafz, qagz, qahz, qaiz, qajz, qakz, qalz, qamz, qanz, evOp, qaoz, qapz, qaqz, qarz, qasz, qatz, qauz, qavz,
 ↓reduceIte, Nat.reduceEqDiff, List.nil_append, List.cons_append, List.append_nil, List.map_cons, List.map_nil, qawz, qaxz, qayz, Option.map_some, Option.map_none, qazz, qbaz, qbbz, qbcz, qbdz, qbez, qbfz, qbgz, qbhz, qbiz, qbjz, qbkz, qblz, qbmz, qbnz, qboz,
 qbpz, qbqz, qbrz, qbsz, qbtz, qbuz, qbvz, qbwz, qbxz, qbyz, qbzz, qcaz, qcbz, qccz, qcdz, qcez, qcfz, qcgz, qchz, qciz, beq_true, beq_false, Bool.not_eq_true', decide_eq_true_eq, decide_eq_false_iff_not, decide_true, decide_false,
 Int.toNat_natCast, Int.ofNat_lt, Int.ofNat_le, Int.natCast_inj, Bool.false_eq_true, Bool.true_eq_false, qcjz, List.getElem?_cons_zero, List.getElem?_cons_succ, qckz, Int.reduceToNat, Int.reduceLE, true_and, and_true, reduceCtorEq, or_false, false_or, or_true, Option.some.injEq, exists_eq_left', Bool.not_true, Bool.not_false, ne_eq, Int.reduceEq, not_true_eq_false, not_false_eq_true, Int.reduceLT, UInt8.reduceLT, UInt8.reduceLE, UInt8.reduceToNat]
      exact loopQ_intro (m := 5 - (n + 1)) (by omega) (hnext (fun h => hpt h.1) _ _ hk h0 rfl)
  · have hno : nextOf l = none := by
      cases h : nextOf l with
      | none => rfl
      | some r =>
        obtain ⟨v, k⟩ := r
        obtain ⟨k1, k2, k3⟩ := next_succ h128' h
        exact absurd k3 (hall k (by omega) (by omega) k2)
    have fin : ∀ E : Env, E 2 = .int .i32 0 → E 3 = .int .i64 0 → E 4 = .int .i64 20 → ∃ rv, resOf E S [.tmp 2, .tmp 3, .tmp 4] = some rv ∧ leave st S rv = (nextV l, st) := by
      intro E k2 k3 k4
      exact ⟨.tup [.int .i32 0, .int .i64 0, .int .i64 20], by simp [resOf, rvAll, rv1, k2, k3, k4, notTup, packRes], by rw [nextV_none hno hne]; exact hk.leave rfl (fun _ _ => rfl)⟩
    by_cases hn4 : n ≤ 4
    · have r1 : (n : Int) ≤ 4 := by omega
      have r2 : ¬ n ≤ l.length := by omega
      simp (maxSteps := 1000000) (disch := omega) only [h0, h5, r1, len_by hx, r2, qaaz, qabz, qacz, qadz, qaez, qafz, qagz, qahz, qaiz, qajz, qakz, qalz, qamz, qanz, evOp, qaoz, qapz, qaqz, qarz, qasz, qatz, qauz, qavz,
 ↓reduceIte, Nat.reduceEqDiff, List.nil_append, List.cons_append, List.append_nil, List.map_cons, List.map_nil, qawz, qaxz, qayz, Option.map_some, Option.map_none, qazz, qbaz, qbbz, qbcz, qbdz, qbez, qbfz, qbgz, qbhz, qbiz, qbjz, qbkz, qblz, qbmz, qbnz, qboz,
 qbpz, qbqz, qbrz, qbsz, qbtz, qbuz, qbvz, qbwz, qbxz, qbyz, qbzz, qcaz, qcbz, qccz, qcdz, qcez, qcfz, qcgz, qchz, qciz, beq_true, beq_false, Bool.not_eq_true', decide_eq_true_eq, decide_eq_false_iff_not, decide_true, decide_false,
 Int.toNat_natCast, Int.ofNat_lt, Int.ofNat_le, Int.natCast_inj, Bool.false_eq_true, Bool.true_eq_false, qcjz, List.getElem?_cons_zero, List.getElem?_cons_succ, qckz, Int.reduceToNat, Int.reduceLE, true_and, and_true, reduceCtorEq, or_false, false_or, or_true, Option.some.injEq, exists_eq_left', Bool.not_true, Bool.not_false, ne_eq, Int.reduceEq, not_true_eq_false, not_false_eq_true, Int.reduceLT, UInt8.reduceLT, UInt8.reduceLE, UInt8.reduceToNat]
      exact fin _ rfl rfl rfl
    · have r1 : ¬ (n : Int) ≤ 4 := by omega
      simp (maxSteps := 1000000) (disch := omega) only [h0, h5, r1, qaaz, qabz, qacz, qadz, qaez, qafz, qagz, qahz, qaiz, qajz, qakz, qalz, qamz, qanz, evOp, qaoz, qapz, qaqz, qarz, qasz, qatz, qauz, qavz,
 ↓reduceIte, Nat.reduceEqDiff, List.nil_append, List.cons_append, List.append_nil, List.map_cons, List.map_nil, qawz, qaxz, qayz, Option.map_some, Option.map_none, qazz, qbaz, qbbz, qbcz, qbdz, qbez, qbfz, qbgz, qbhz, qbiz, qbjz, qbkz, qblz, qbmz, qbnz, qboz,
 qbpz, qbqz, qbrz, qbsz, qbtz, qbuz, qbvz, qbwz, qbxz, qbyz, qbzz, qcaz, qcbz, qccz, qcdz, qcez, qcfz, qcgz, qchz, qciz, beq_true, beq_false, Bool.not_eq_true', decide_eq_true_eq, decide_eq_false_iff_not, decide_true, decide_false,
 Int.toNat_natCast, Int.ofNat_lt, Int.ofNat_le, Int.natCast_inj, Bool.false_eq_true, Bool.true_eq_false, qcjz, List.getElem?_cons_zero, List.getElem?_cons_succ, qckz, Int.reduceToNat, Int.reduceLE, true_and, and_true, reduceCtorEq, or_false, false_or, or_true, Option.some.injEq, exists_eq_left', Bool.not_true, Bool.not_false, ne_eq, Int.reduceEq, not_true_eq_false, not_false_eq_true, Int.reduceLT, UInt8.reduceLT, UInt8.reduceLE, UInt8.reduceToNat]
      exact fin _ rfl rfl rfl
end Go.Ab

/-
  A text's points; whether it is one.
-/
namespace Go.Ab
set_option linter.unusedVariables false
set_option linter.unusedSimpArgs false
variable {st s : St} {e : Env}

theorem next_pos {l : List UInt8} {p n : Nat} (h : nextOf l = some (p, n)) : 1 ≤ n ∧ n ≤ l.length ∧ p < 2147483648 := by
  by_cases hc : (l.getD 0 0).toNat < 128
  · unfold nextOf at h
    split at h
    · cases h
    · rename_i hne
      cases h
      have := List.length_pos_iff.2 hne
      omega
  · obtain ⟨h1, h2, h3⟩ := next_succ hc h
    have h4 := succ_next h1 h2 hc h3
    rw [h] at h4
    simp only [Option.some.injEq, Prod.mk.injEq] at h4
    have := h3.1
    rw [← h4.1] at this
    unfold pointN at this
    omega

/-- A text's points from a place on; or where there is none. -/
def ptsOf : Nat → List UInt8 → Nat → Except Nat (List Nat)
  | 0, _, _ => .ok []
  | k + 1, l, i => if i < l.length then match nextOf (l.drop i) with
    | none => .error i
    | some (p, n) => match ptsOf k l (i + n) with
      | .ok r => .ok (p :: r)
      | .error j => .error j
    else .ok []
def ptV (p : Nat) : PV := .int .i32 (p : Int)
def ptsV (st : St) (r : Except Nat (List Nat)) : PV × St := match r with
  | .ok ps => (.tup [newSl st 1 (ps.map ptV), .agg [.int .i64 0, .int .i64 0]], newS st (ps.map ptV).isEmpty)
  | .error j => (.tup [.nils, .agg [.int .i64 (j : Int), .int .i64 20]], st)

theorem Kept.appS {esz : Nat} {v : PV} {xs : List PV} (hk : Kept st s) (h : Own st s esz v xs) : Kept st (Ab.appS s v) := by
  have htl := hk.tl
  rcases h with ⟨rfl, rfl⟩ | ⟨i, rfl, h2, h3⟩
  · exact hk.tok1
  · refine hk.of rfl rfl hk.lw (fun j hj => ?_) ?_
    · show (s.toks.set i false ++ [true])[j]? = s.toks[j]?
      rw [List.getElem?_append_left (by simp; omega), List.getElem?_set_ne (by omega)]
    · show st.toks.length ≤ (s.toks.set i false ++ [true]).length
      simp; omega
theorem Own.appK {esz : Nat} {v : PV} {xs ys : List PV} (hk : Kept st s) (h : Own st s esz v xs) : Own st (Ab.appS s v) esz (.sl esz (.own s.toks.length) ys) ys := by
  have htl := hk.tl
  refine .inr ⟨_, rfl, htl, ?_⟩
  rcases h with ⟨rfl, rfl⟩ | ⟨i, rfl, h2, h3⟩
  · simp [Ab.appS, St.tok1]
  · show (s.toks.set i false ++ [true])[s.toks.length]? = some true
    rw [List.getElem?_append_right (by simp)]; simp
theorem leave_ownA {v : PV} {xs : List PV} {a b : Int} (hk : Kept st s) (h : Own st s 1 v xs) (hne : xs = [] → v = .nils) : leave st s (.tup [v, .agg [.int .i64 a, .int .i64 b]]) = (.tup [newSl st 1 xs, .agg [.int .i64 a, .int .i64 b]], newS st xs.isEmpty) := by
  have e1 := hk.bx; have e2 := hk.lp; have e3 := hk.tk
  rcases h with ⟨rfl, rfl⟩ | ⟨i, rfl, h2, h3⟩
  · simp [leave, PV.inB, PV.inB.inBAll, hk.lw, keepRes, keepVals, keepVal, keepCells, keepLeaf, e1, e2, e3, newSl, newS]
  · by_cases hx : xs = []
    · have := hne hx; cases this
    · simp [leave, PV.inB, PV.inB.inBAll, hk.lw, keepRes, keepVals, keepVal, keepCells, keepLeaf, keepTok, h3, show ¬ i < st.toks.length by omega, e1, e2, e3, newSl, newS, hx, St.tok1]
theorem liti1 {p : Int} : litFill 1 (List.replicate 1 (.int .i32 0)) [(0, .int .i32 p)] = some [.int .i32 p] := lit1 rfl rfl
theorem build2i {a b : Int} : buildCells [.int .i64 0, .int .i64 0] [(0, 1, .int .i64 a), (1, 1, .int .i64 b)] = some [.int .i64 a, .int .i64 b] := by
  simp [buildCells, PV.cells, leafOk, setCells]
theorem build0i : buildCells [.int .i64 0, .int .i64 0] [] = some [.int .i64 0, .int .i64 0] := rfl

/-- The box of a fault. -/
def FB (st s : St) (a b : Int) : Prop := st.boxes.length < s.boxes.length ∧ s.boxes[st.boxes.length]? = some [.int .i64 a, .int .i64 b]
theorem FB.store {a b c d : Int} (hk : Kept st s) (h : FB st s a b) : ∃ s', storePV s 2 (.ptr st.boxes.length 0) (.agg [.int .i64 c, .int .i64 d]) = some s' ∧ Kept st s' ∧ FB st s' c d ∧ s'.toks = s.toks := by
  refine ⟨{ s with boxes := s.boxes.set st.boxes.length [.int .i64 c, .int .i64 d] }, ?_, ?_, ⟨by simpa using h.1, by simp [h.1]⟩, rfl⟩
  · simp [storePV, h.2, PV.cells, PV.inB, PV.inB.inBAll, leafOk, hasTok, tokOf, setCells]
  · exact hk.of (by rw [List.take_set_of_le (Nat.le_refl _)]) rfl hk.lw (fun _ _ => rfl) hk.tl
theorem FB.load {a b : Int} (h : FB st s a b) : loadPV s true 2 (.ptr st.boxes.length 0) = some (.agg [.int .i64 a, .int .i64 b]) := by
  simp [loadPV, h.2, readCells]
theorem FB.appS {v : PV} {esz : Nat} {xs : List PV} {a b : Int} (h : FB st s a b) (ho : Own st s esz v xs) : FB st (Ab.appS s v) a b := by
  rcases ho with ⟨rfl, rfl⟩ | ⟨i, rfl, _, _⟩ <;> exact h

set_option maxHeartbeats 1000000 in
theorem uPoints_spec {x : PV} {l : List UInt8} (hx : x.by = some l) (hl : l.length ≤ 100000000) : call prog (.fn 69 []) [x] st = some (ptsV st (ptsOf (l.length + 1) l 0)) := by
  refine call_of_W prog_69 ?_
  unfold F_utf_Points; dsimp only
  obtain ⟨T, hT⟩ : ∃ T, T = ptsOf (l.length + 1) l 0 := ⟨_, rfl⟩
  rw [← hT]
  refine W_cut (fun E S => Kept st S ∧ FB st S 0 0 ∧ E 0 = x ∧ E 3 = .ptr st.boxes.length 0) ?_ ?_
  · simp (maxSteps := 1000000) (disch := omega) only [allocPV, qaaz, qabz, qacz, qadz, qaez, qafz, qagz, qahz, qaiz, qajz, qakz, qalz, qamz, qanz, evOp, qaoz, qapz, qaqz, qarz, qasz, qatz, qauz, qavz,
 ↓reduceIte, Nat.reduceEqDiff, List.nil_append, List.cons_append, List.append_nil, List.map_cons, List.map_nil, qawz, qaxz, qayz, Option.map_some, Option.map_none, qazz, qbaz, qbbz, qbcz, qbdz, qbez, qbfz, qbgz, qbhz, qbiz, qbjz, qbkz, qblz, qbmz, qbnz, qboz,
 qbpz, qbqz, qbrz, qbsz, qbtz, qbuz, qbvz, qbwz, qbxz, qbyz, qbzz, qcaz, qcbz, qccz, qcdz, qcez, qcfz, qcgz, qchz, qciz, beq_true, beq_false, Bool.not_eq_true', decide_eq_true_eq, decide_eq_false_iff_not, decide_true, decide_false,
 Int.toNat_natCast, Int.ofNat_lt, Int.ofNat_le, Int.natCast_inj, Bool.false_eq_true, Bool.true_eq_false, qcjz, List.getElem?_cons_zero, List.getElem?_cons_succ, qckz, Int.reduceToNat, Int.reduceLE, true_and, and_true, reduceCtorEq, or_false, false_or, or_true, Option.some.injEq, exists_eq_left', Bool.not_true, Bool.not_false, ne_eq, Int.reduceEq, not_true_eq_false, not_false_eq_true, Int.reduceLT, UInt8.reduceLT, UInt8.reduceLE, UInt8.reduceToNat]
    exact ⟨Kept.start.alloc, by simp, by simp⟩
  rintro e S ⟨hk, hb, h0, h3⟩
  simp (maxSteps := 1000000) (disch := omega) only [h0, h3, qaaz, qabz, qacz, qadz, qaez, qafz, qagz, qahz, qaiz, qajz, qakz, qalz, qamz, qanz, evOp, qaoz, qapz, qaqz, qarz, qasz, qatz, qauz, qavz,
 ↓reduceIte, Nat.reduceEqDiff, List.nil_append, List.cons_append, List.append_nil, List.map_cons, List.map_nil, qawz, qaxz, qayz, Option.map_some, Option.map_none, qazz, qbaz, qbbz, qbcz, qbdz, qbez, qbfz, qbgz, qbhz, qbiz, qbjz, qbkz, qblz, qbmz, qbnz, qboz,
 qbpz, qbqz, qbrz, qbsz, qbtz, qbuz, qbvz, qbwz, qbxz, qbyz, qbzz, qcaz, qcbz, qccz, qcdz, qcez, qcfz, qcgz, qchz, qciz, beq_true, beq_false, Bool.not_eq_true', decide_eq_true_eq, decide_eq_false_iff_not, decide_true, decide_false,
 Int.toNat_natCast, Int.ofNat_lt, Int.ofNat_le, Int.natCast_inj, Bool.false_eq_true, Bool.true_eq_false, qcjz, List.getElem?_cons_zero, List.getElem?_cons_succ, qckz, Int.reduceToNat, Int.reduceLE, true_and, and_true, reduceCtorEq, or_false, false_or, or_true, Option.some.injEq, exists_eq_left', Bool.not_true, Bool.not_false, ne_eq, Int.reduceEq, not_true_eq_false, not_false_eq_true, Int.reduceLT, UInt8.reduceLT, UInt8.reduceLE, UInt8.reduceToNat]
  obtain ⟨I, hI⟩ : ∃ I : Nat → Env → St → Prop, I = fun m E S => ∃ (i k : Nat) (v : PV) (acc : List Nat), m = l.length - i ∧ l.length + 1 - i ≤ k ∧ i ≤ l.length ∧ acc.length ≤ i ∧ Kept st S ∧ FB st S 0 0 ∧ Own st S 1 v (acc.map ptV) ∧ (acc.map ptV = [] → v = .nils) ∧ T = (match ptsOf k l i with | .ok r => .ok (acc ++ r) | .error j => .error j) ∧ E 0 = x ∧ E 3 = .ptr st.boxes.length 0 ∧ E 4 = v ∧ E 5 = .int .i64 (i : Int) := ⟨_, rfl⟩
  refine W_loop I ?_ (n := l.length) (by
    rw [hI]
    refine ⟨0, l.length + 1, .nils, [], rfl, by omega, by omega, by simp, hk, hb, .inl ⟨rfl, rfl⟩, fun _ => rfl, ?_, h0, h3, rfl, rfl⟩
    rw [hT]; split <;> simp_all)
  clear hk hb h0 h3
  intro m e S hh
  rw [hI] at hh
  obtain ⟨i, k, v, acc, rfl, hki, hil, hacl, hk, hb, ho, hnil, hTT, h0, h3, h4, h5⟩ := hh
  by_cases hlt : i < l.length
  · obtain ⟨k, rfl⟩ : ∃ k', k = k' + 1 := ⟨k - 1, by omega⟩
    simp only [ptsOf, hlt, if_true] at hTT
    have hnx := fun S : St => uNext_spec (st := S) (dropB_by (i := i) hx) (by simp; omega)
    have hsl := slc_lo (k := .i64) (c := (i : Int)) hx (by omega) (by simpa using hil)
    rw [Int.toNat_natCast] at hsl
    cases hno : nextOf (l.drop i) with
    | none =>
      simp only [hno] at hTT
      have hdn : l.drop i ≠ [] := by intro h; have := congrArg List.length h; simp at this; omega
      rw [nextV_none hno hdn] at hnx
      obtain ⟨S2, a1, k1, b1, -⟩ := FB.store (c := (i : Int)) (d := 20) hk hb
      have hld := b1.load
      simp (maxSteps := 1000000) (disch := omega) only [h0, h3, h4, h5, len_by hx, hlt, hsl, hnx, build2i, a1, qaaz, qabz, qacz, qadz, qaez, qafz, qagz, qahz, qaiz, qajz, qakz, qalz, qamz, qanz, evOp, qaoz, qapz, qaqz, qarz, qasz, qatz, qauz, qavz,
 ↓reduceIte, Nat.reduceEqDiff, List.nil_append, List.cons_append, List.append_nil, List.map_cons, List.map_nil, qawz, qaxz, qayz, Option.map_some, Option.map_none, qazz, qbaz, qbbz, qbcz, qbdz, qbez, qbfz, qbgz, qbhz, qbiz, qbjz, qbkz, qblz, qbmz, qbnz, qboz,
 qbpz, qbqz, qbrz, qbsz, qbtz, qbuz, qbvz, qbwz, qbxz, qbyz, qbzz, qcaz, qcbz, qccz, qcdz, qcez, qcfz, qcgz, qchz, qciz, beq_true, beq_false, Bool.not_eq_true', decide_eq_true_eq, decide_eq_false_iff_not, decide_true, decide_false,
 Int.toNat_natCast, Int.ofNat_lt, Int.ofNat_le, Int.natCast_inj, Bool.false_eq_true, Bool.true_eq_false, qcjz, List.getElem?_cons_zero, List.getElem?_cons_succ, qckz, Int.reduceToNat, Int.reduceLE, true_and, and_true, reduceCtorEq, or_false, false_or, or_true, Option.some.injEq, exists_eq_left', Bool.not_true, Bool.not_false, ne_eq, Int.reduceEq, not_true_eq_false, not_false_eq_true, Int.reduceLT, UInt8.reduceLT, UInt8.reduceLE, UInt8.reduceToNat]
      refine ⟨.tup [.nils, .agg [.int .i64 (i : Int), .int .i64 20]], ?_, ?_⟩
      · simp [resOf, rvAll, rv1, qavz, h3, hld, notTup, packRes]
      · rw [hTT]; exact k1.leave rfl (fun _ _ => rfl)
    | some pn =>
      obtain ⟨p, n⟩ := pn
      simp only [hno] at hTT
      rw [nextV_some hno] at hnx
      obtain ⟨hn1, hn2, hn3⟩ := next_pos hno
      simp only [List.length_drop] at hn2
      have happ := appV_own (u := ptV p) (t := .own S.toks.length) ho.tok1 (by simp only [List.length_map, room]; omega)
      have k2 := hk.tok1.appS ho.tok1
      have o2 := Own.appK (ys := acc.map ptV ++ [ptV p]) hk.tok1 ho.tok1
      have b2 : FB st (Ab.appS S.tok1 v) 0 0 := FB.appS (s := S.tok1) hb ho.tok1
      unfold ptV at happ
      simp (maxSteps := 1000000) (disch := omega) only [h0, h3, h4, h5, len_by hx, hlt, hsl, hnx, liti1, freshT_eq, happ, add_n, qaaz, qabz, qacz, qadz, qaez, qafz, qagz, qahz, qaiz, qajz, qakz, qalz, qamz, qanz, evOp, qaoz, qapz, qaqz, qarz, qasz, qatz, qauz, qavz,
 ↓reduceIte, Nat.reduceEqDiff, List.nil_append, List.cons_append, List.append_nil, List.map_cons, List.map_nil, qawz, qaxz, qayz, Option.map_some, Option.map_none, qazz, qbaz, qbbz, qbcz, qbdz, qbez, qbfz, qbgz, qbhz, qbiz, qbjz, qbkz, qblz, qbmz, qbnz, qboz,
 qbpz, qbqz, qbrz, qbsz, qbtz, qbuz, qbvz, qbwz, qbxz, qbyz, qbzz, qcaz, qcbz, qccz, qcdz, qcez, qcfz, qcgz, qchz, qciz, beq_true, beq_false, Bool.not_eq_true', decide_eq_true_eq, decide_eq_false_iff_not, decide_true, decide_false,
 Int.toNat_natCast, Int.ofNat_lt, Int.ofNat_le, Int.natCast_inj, Bool.false_eq_true, Bool.true_eq_false, qcjz, List.getElem?_cons_zero, List.getElem?_cons_succ, qckz, Int.reduceToNat, Int.reduceLE, true_and, and_true, reduceCtorEq, or_false, false_or, or_true, Option.some.injEq, exists_eq_left', Bool.not_true, Bool.not_false, ne_eq, Int.reduceEq, not_true_eq_false, not_false_eq_true, Int.reduceLT, UInt8.reduceLT, UInt8.reduceLE, UInt8.reduceToNat]
      refine loopQ_intro (m := l.length - (i + n)) (by omega) ?_
      rw [hI]
      refine ⟨i + n, k, _, acc ++ [p], rfl, by omega, by omega, by simp; omega, k2, b2, ?_, fun h => by simp at h, ?_, h0, h3, rfl, rfl⟩
      · rw [List.map_append]; exact o2
      · rw [hTT]
        cases ptsOf k l (i + n) with
        | ok r => simp
        | error j => rfl
  · obtain rfl : i = l.length := by omega
    have hTf : T = .ok acc := by
      rw [hTT]
      cases k with
      | zero => simp [ptsOf]
      | succ k => simp [ptsOf]
    obtain ⟨S2, a1, k1, b1, t1⟩ := FB.store (c := 0) (d := 0) hk hb
    have hld := b1.load
    have ho2 : Own st S2 1 v (acc.map ptV) := by
      rcases ho with h | ⟨i, h1, h2, h3⟩
      · exact .inl h
      · exact .inr ⟨i, h1, h2, by rw [t1]; exact h3⟩
    simp (maxSteps := 1000000) (disch := omega) only [h0, h3, h4, h5, len_by hx, hlt, build0i, a1, qaaz, qabz, qacz, qadz, qaez, qafz, qagz, qahz, qaiz, qajz, qakz, qalz, qamz, qanz, evOp, qaoz, qapz, qaqz, qarz, qasz, qatz, qauz, qavz,
 ↓reduceIte, Nat.reduceEqDiff, List.nil_append, List.cons_append, List.append_nil, List.map_cons, List.map_nil, qawz, qaxz, qayz, Option.map_some, Option.map_none, qazz, qbaz, qbbz, qbcz, qbdz, qbez, qbfz, qbgz, qbhz, qbiz, qbjz, qbkz, qblz, qbmz, qbnz, qboz,
 qbpz, qbqz, qbrz, qbsz, qbtz, qbuz, qbvz, qbwz, qbxz, qbyz, qbzz, qcaz, qcbz, qccz, qcdz, qcez, qcfz, qcgz, qchz, qciz, beq_true, beq_false, Bool.not_eq_true', decide_eq_true_eq, decide_eq_false_iff_not, decide_true, decide_false,
 Int.toNat_natCast, Int.ofNat_lt, Int.ofNat_le, Int.natCast_inj, Bool.false_eq_true, Bool.true_eq_false, qcjz, List.getElem?_cons_zero, List.getElem?_cons_succ, qckz, Int.reduceToNat, Int.reduceLE, true_and, and_true, reduceCtorEq, or_false, false_or, or_true, Option.some.injEq, exists_eq_left', Bool.not_true, Bool.not_false, ne_eq, Int.reduceEq, not_true_eq_false, not_false_eq_true, Int.reduceLT, UInt8.reduceLT, UInt8.reduceLE, UInt8.reduceToNat]
    refine ⟨.tup [v, .agg [.int .i64 0, .int .i64 0]], ?_, ?_⟩
    · have hnt : notTup v = true := by rcases ho with ⟨rfl, _⟩ | ⟨i, rfl, _⟩ <;> rfl
      simp [resOf, rvAll, rv1, qavz, h3, hld, hnt, packRes]
      rfl
    · rw [hTf]; exact leave_ownA k1 ho2 hnil
set_option maxHeartbeats 1000000 in
theorem rPoints_spec {x : PV} {l : List UInt8} (hx : x.by = some l) (hl : l.length ≤ 100000000) : call prog (.fn 80 []) [x] st = some (ptsV st (ptsOf (l.length + 1) l 0)) := by
  refine call_of_W prog_80 ?_
  unfold F_posthornref02_Points; dsimp only
  obtain ⟨T, hT⟩ : ∃ T, T = ptsOf (l.length + 1) l 0 := ⟨_, rfl⟩
  rw [← hT]
  refine W_cut (fun E S => Kept st S ∧ FB st S 0 0 ∧ E 0 = x ∧ E 3 = .ptr st.boxes.length 0) ?_ ?_
  · simp (maxSteps := 1000000) (disch := omega) only [allocPV, qaaz, qabz, qacz, qadz, qaez, qafz, qagz, qahz, qaiz, qajz, qakz, qalz, qamz, qanz, evOp, qaoz, qapz, qaqz, qarz, qasz, qatz, qauz, qavz,
 ↓reduceIte, Nat.reduceEqDiff, List.nil_append, List.cons_append, List.append_nil, List.map_cons, List.map_nil, qawz, qaxz, qayz, Option.map_some, Option.map_none, qazz, qbaz, qbbz, qbcz, qbdz, qbez, qbfz, qbgz, qbhz, qbiz, qbjz, qbkz, qblz, qbmz, qbnz, qboz,
 qbpz, qbqz, qbrz, qbsz, qbtz, qbuz, qbvz, qbwz, qbxz, qbyz, qbzz, qcaz, qcbz, qccz, qcdz, qcez, qcfz, qcgz, qchz, qciz, beq_true, beq_false, Bool.not_eq_true', decide_eq_true_eq, decide_eq_false_iff_not, decide_true, decide_false,
 Int.toNat_natCast, Int.ofNat_lt, Int.ofNat_le, Int.natCast_inj, Bool.false_eq_true, Bool.true_eq_false, qcjz, List.getElem?_cons_zero, List.getElem?_cons_succ, qckz, Int.reduceToNat, Int.reduceLE, true_and, and_true, reduceCtorEq, or_false, false_or, or_true, Option.some.injEq, exists_eq_left', Bool.not_true, Bool.not_false, ne_eq, Int.reduceEq, not_true_eq_false, not_false_eq_true, Int.reduceLT, UInt8.reduceLT, UInt8.reduceLE, UInt8.reduceToNat]
    exact ⟨Kept.start.alloc, by simp, by simp⟩
  rintro e S ⟨hk, hb, h0, h3⟩
  simp (maxSteps := 1000000) (disch := omega) only [h0, h3, qaaz, qabz, qacz, qadz, qaez, qafz, qagz, qahz, qaiz, qajz, qakz, qalz, qamz, qanz, evOp, qaoz, qapz, qaqz, qarz, qasz, qatz, qauz, qavz,
 ↓reduceIte, Nat.reduceEqDiff, List.nil_append, List.cons_append, List.append_nil, List.map_cons, List.map_nil, qawz, qaxz, qayz, Option.map_some, Option.map_none, qazz, qbaz, qbbz, qbcz, qbdz, qbez, qbfz, qbgz, qbhz, qbiz, qbjz, qbkz, qblz, qbmz, qbnz, qboz,
 qbpz, qbqz, qbrz, qbsz, qbtz, qbuz, qbvz, qbwz, qbxz, qbyz, qbzz, qcaz, qcbz, qccz, qcdz, qcez, qcfz, qcgz, qchz, qciz, beq_true, beq_false, Bool.not_eq_true', decide_eq_true_eq, decide_eq_false_iff_not, decide_true, decide_false,
 Int.toNat_natCast, Int.ofNat_lt, Int.ofNat_le, Int.natCast_inj, Bool.false_eq_true, Bool.true_eq_false, qcjz, List.getElem?_cons_zero, List.getElem?_cons_succ, qckz, Int.reduceToNat, Int.reduceLE, true_and, and_true, reduceCtorEq, or_false, false_or, or_true, Option.some.injEq, exists_eq_left', Bool.not_true, Bool.not_false, ne_eq, Int.reduceEq, not_true_eq_false, not_false_eq_true, Int.reduceLT, UInt8.reduceLT, UInt8.reduceLE, UInt8.reduceToNat]
  obtain ⟨I, hI⟩ : ∃ I : Nat → Env → St → Prop, I = fun m E S => ∃ (i k : Nat) (v : PV) (acc : List Nat), m = l.length - i ∧ l.length + 1 - i ≤ k ∧ i ≤ l.length ∧ acc.length ≤ i ∧ Kept st S ∧ FB st S 0 0 ∧ Own st S 1 v (acc.map ptV) ∧ (acc.map ptV = [] → v = .nils) ∧ T = (match ptsOf k l i with | .ok r => .ok (acc ++ r) | .error j => .error j) ∧ E 0 = x ∧ E 3 = .ptr st.boxes.length 0 ∧ E 4 = v ∧ E 5 = .int .i64 (i : Int) := ⟨_, rfl⟩
  refine W_loop I ?_ (n := l.length) (by
    rw [hI]
    refine ⟨0, l.length + 1, .nils, [], rfl, by omega, by omega, by simp, hk, hb, .inl ⟨rfl, rfl⟩, fun _ => rfl, ?_, h0, h3, rfl, rfl⟩
    rw [hT]; split <;> simp_all)
  clear hk hb h0 h3
  intro m e S hh
  rw [hI] at hh
  obtain ⟨i, k, v, acc, rfl, hki, hil, hacl, hk, hb, ho, hnil, hTT, h0, h3, h4, h5⟩ := hh
  by_cases hlt : i < l.length
  · obtain ⟨k, rfl⟩ : ∃ k', k = k' + 1 := ⟨k - 1, by omega⟩
    simp only [ptsOf, hlt, if_true] at hTT
    have hnx := fun S : St => rNext_spec (st := S) (dropB_by (i := i) hx) (by simp; omega)
    have hsl := slc_lo (k := .i64) (c := (i : Int)) hx (by omega) (by simpa using hil)
    rw [Int.toNat_natCast] at hsl
    cases hno : nextOf (l.drop i) with
    | none =>
      simp only [hno] at hTT
      have hdn : l.drop i ≠ [] := by intro h; have := congrArg List.length h; simp at this; omega
      rw [nextV_none hno hdn] at hnx
      obtain ⟨S2, a1, k1, b1, -⟩ := FB.store (c := (i : Int)) (d := 20) hk hb
      have hld := b1.load
      simp (maxSteps := 1000000) (disch := omega) only [h0, h3, h4, h5, len_by hx, hlt, hsl, hnx, build2i, a1, qaaz, qabz, qacz, qadz, qaez, qafz, qagz, qahz, qaiz, qajz, qakz, qalz, qamz, qanz, evOp, qaoz, qapz, qaqz, qarz, qasz, qatz, qauz, qavz,
 ↓reduceIte, Nat.reduceEqDiff, List.nil_append, List.cons_append, List.append_nil, List.map_cons, List.map_nil, qawz, qaxz, qayz, Option.map_some, Option.map_none, qazz, qbaz, qbbz, qbcz, qbdz, qbez, qbfz, qbgz, qbhz, qbiz, qbjz, qbkz, qblz, qbmz, qbnz, qboz,
 qbpz, qbqz, qbrz, qbsz, qbtz, qbuz, qbvz, qbwz, qbxz, qbyz, qbzz, qcaz, qcbz, qccz, qcdz, qcez, qcfz, qcgz, qchz, qciz, beq_true, beq_false, Bool.not_eq_true', decide_eq_true_eq, decide_eq_false_iff_not, decide_true, decide_false,
 Int.toNat_natCast, Int.ofNat_lt, Int.ofNat_le, Int.natCast_inj, Bool.false_eq_true, Bool.true_eq_false, qcjz, List.getElem?_cons_zero, List.getElem?_cons_succ, qckz, Int.reduceToNat, Int.reduceLE, true_and, and_true, reduceCtorEq, or_false, false_or, or_true, Option.some.injEq, exists_eq_left', Bool.not_true, Bool.not_false, ne_eq, Int.reduceEq, not_true_eq_false, not_false_eq_true, Int.reduceLT, UInt8.reduceLT, UInt8.reduceLE, UInt8.reduceToNat]
      refine ⟨.tup [.nils, .agg [.int .i64 (i : Int), .int .i64 20]], ?_, ?_⟩
      · simp [resOf, rvAll, rv1, qavz, h3, hld, notTup, packRes]
      · rw [hTT]; exact k1.leave rfl (fun _ _ => rfl)
    | some pn =>
      obtain ⟨p, n⟩ := pn
      simp only [hno] at hTT
      rw [nextV_some hno] at hnx
      obtain ⟨hn1, hn2, hn3⟩ := next_pos hno
      simp only [List.length_drop] at hn2
      have happ := appV_own (u := ptV p) (t := .own S.toks.length) ho.tok1 (by simp only [List.length_map, room]; omega)
      have k2 := hk.tok1.appS ho.tok1
      have o2 := Own.appK (ys := acc.map ptV ++ [ptV p]) hk.tok1 ho.tok1
      have b2 : FB st (Ab.appS S.tok1 v) 0 0 := FB.appS (s := S.tok1) hb ho.tok1
      unfold ptV at happ
      simp (maxSteps := 1000000) (disch := omega) only [h0, h3, h4, h5, len_by hx, hlt, hsl, hnx, liti1, freshT_eq, happ, add_n, qaaz, qabz, qacz, qadz, qaez, qafz, qagz, qahz, qaiz, qajz, qakz, qalz, qamz, qanz, evOp, qaoz, qapz, qaqz, qarz, qasz, qatz, qauz, qavz,
 ↓reduceIte, Nat.reduceEqDiff, List.nil_append, List.cons_append, List.append_nil, List.map_cons, List.map_nil, qawz, qaxz, qayz, Option.map_some, Option.map_none, qazz, qbaz, qbbz, qbcz, qbdz, qbez, qbfz, qbgz, qbhz, qbiz, qbjz, qbkz, qblz, qbmz, qbnz, qboz,
 qbpz, qbqz, qbrz, qbsz, qbtz, qbuz, qbvz, qbwz, qbxz, qbyz, qbzz, qcaz, qcbz, qccz, qcdz, qcez, qcfz, qcgz, qchz, qciz, beq_true, beq_false, Bool.not_eq_true', decide_eq_true_eq, decide_eq_false_iff_not, decide_true, decide_false,
 Int.toNat_natCast, Int.ofNat_lt, Int.ofNat_le, Int.natCast_inj, Bool.false_eq_true, Bool.true_eq_false, qcjz, List.getElem?_cons_zero, List.getElem?_cons_succ, qckz, Int.reduceToNat, Int.reduceLE, true_and, and_true, reduceCtorEq, or_false, false_or, or_true, Option.some.injEq, exists_eq_left', Bool.not_true, Bool.not_false, ne_eq, Int.reduceEq, not_true_eq_false, not_false_eq_true, Int.reduceLT, UInt8.reduceLT, UInt8.reduceLE, UInt8.reduceToNat]
      refine loopQ_intro (m := l.length - (i + n)) (by omega) ?_
      rw [hI]
      refine ⟨i + n, k, _, acc ++ [p], rfl, by omega, by omega, by simp; omega, k2, b2, ?_, fun h => by simp at h, ?_, h0, h3, rfl, rfl⟩
      · rw [List.map_append]; exact o2
      · rw [hTT]
        cases ptsOf k l (i + n) with
        | ok r => simp
        | error j => rfl
  · obtain rfl : i = l.length := by omega
    have hTf : T = .ok acc := by
      rw [hTT]
      cases k with
      | zero => simp [ptsOf]
      | succ k => simp [ptsOf]
    obtain ⟨S2, a1, k1, b1, t1⟩ := FB.store (c := 0) (d := 0) hk hb
    have hld := b1.load
    have ho2 : Own st S2 1 v (acc.map ptV) := by
      rcases ho with h | ⟨i, h1, h2, h3⟩
      · exact .inl h
      · exact .inr ⟨i, h1, h2, by rw [t1]; exact h3⟩
    simp (maxSteps := 1000000) (disch := omega) only [h0, h3, h4, h5, len_by hx, hlt, build0i, a1, qaaz, qabz, qacz, qadz, qaez, qafz, qagz, qahz, qaiz, qajz, qakz, qalz, qamz, qanz, evOp, qaoz, qapz, qaqz, qarz, qasz, qatz, qauz, qavz,
 ↓reduceIte, Nat.reduceEqDiff, List.nil_append, List.cons_append, List.append_nil, List.map_cons, List.map_nil, qawz, qaxz, qayz, Option.map_some, Option.map_none, qazz, qbaz, qbbz, qbcz, qbdz, qbez, qbfz, qbgz, qbhz, qbiz, qbjz, qbkz, qblz, qbmz, qbnz, qboz,
 qbpz, qbqz, qbrz, qbsz, qbtz, qbuz, qbvz, qbwz, qbxz, qbyz, qbzz, qcaz, qcbz, qccz, qcdz, qcez, qcfz, qcgz, qchz, qciz, beq_true, beq_false, Bool.not_eq_true', decide_eq_true_eq, decide_eq_false_iff_not, decide_true, decide_false,
 Int.toNat_natCast, Int.ofNat_lt, Int.ofNat_le, Int.natCast_inj, Bool.false_eq_true, Bool.true_eq_false, qcjz, List.getElem?_cons_zero, List.getElem?_cons_succ, qckz, Int.reduceToNat, Int.reduceLE, true_and, and_true, reduceCtorEq, or_false, false_or, or_true, Option.some.injEq, exists_eq_left', Bool.not_true, Bool.not_false, ne_eq, Int.reduceEq, not_true_eq_false, not_false_eq_true, Int.reduceLT, UInt8.reduceLT, UInt8.reduceLE, UInt8.reduceToNat]
    refine ⟨.tup [v, .agg [.int .i64 0, .int .i64 0]], ?_, ?_⟩
    · have hnt : notTup v = true := by rcases ho with ⟨rfl, _⟩ | ⟨i, rfl, _⟩ <;> rfl
      simp [resOf, rvAll, rv1, qavz, h3, hld, hnt, packRes]
      rfl
    · rw [hTf]; exact leave_ownA k1 ho2 hnil
end Go.Ab

/-
  Whether a text is one of points; where it can be cut.
-/
namespace Go.Ab
set_option linter.unusedVariables false
set_option linter.unusedSimpArgs false
variable {st s : St} {e : Env}

/-- Is a text one of points? -/
def validOf (l : List UInt8) : Bool := match ptsOf (l.length + 1) l 0 with
  | .ok _ => true
  | .error _ => false

theorem pts_parts {l : List UInt8} {S : St} (hk : Kept st S) : ∃ w a S', ptsV S (ptsOf (l.length + 1) l 0) = (.tup [w, .agg [.int .i64 a, .int .i64 (if validOf l = true then 0 else 20)]], S') ∧ Kept st S' := by
  unfold validOf
  cases ptsOf (l.length + 1) l 0 with
  | ok ps =>
    refine ⟨_, 0, _, rfl, ?_⟩
    unfold newS; split
    · exact hk
    · exact hk.tok1
  | error j => exact ⟨_, _, _, rfl, hk⟩
theorem store_i2 {B : List (List PV)} {T : List Bool} {L : List LoopS} {lo : Nat} {a b : Int} : storePV ⟨B ++ [[.int .i64 0, .int .i64 0]], T, L, lo⟩ 2 (.ptr B.length 0) (.agg [.int .i64 a, .int .i64 b]) = some ⟨B ++ [[.int .i64 a, .int .i64 b]], T, L, lo⟩ := by
  simp [storePV, PV.cells, PV.inB, PV.inB.inBAll, leafOk, setCells, hasTok, tokOf]
theorem load_i1 {B : List (List PV)} {T : List Bool} {L : List LoopS} {lo : Nat} {a b : Int} : loadPV ⟨B ++ [[.int .i64 a, .int .i64 b]], T, L, lo⟩ false 1 (.ptr B.length 1) = some (.int .i64 b) := by
  simp [loadPV, readCells]

theorem uValid_spec {x : PV} {l : List UInt8} (hx : x.by = some l) (hl : l.length ≤ 100000000) : call prog (.fn 53 []) [x] st = some (.bool (validOf l), st) := by
  refine call_of_W prog_53 ?_
  unfold F_utf_Valid; dsimp only
  obtain ⟨w, a, S', h1, hk⟩ := pts_parts (l := l) (st := st) Kept.start
  have hp := uPoints_spec (st := { boxes := st.boxes, toks := st.toks, loops := st.loops, low := st.boxes.length }) hx hl
  rw [h1] at hp
  cases hv : validOf l with
  | true =>
    simp only [hv, if_true] at hp
    simp (maxSteps := 1000000) (disch := omega) only [hp, allocPV, store_i2, faddrPV, Nat.zero_add, load_i1, qaaz, qabz, qacz, qadz, qaez, qafz, qagz, qahz, qaiz, qajz, qakz, qalz, qamz, qanz, evOp, qaoz, qapz, qaqz, qarz, qasz, qatz, qauz, qavz,
 ↓reduceIte, Nat.reduceEqDiff, List.nil_append, List.cons_append, List.append_nil, List.map_cons, List.map_nil, qawz, qaxz, qayz, Option.map_some, Option.map_none, qazz, qbaz, qbbz, qbcz, qbdz, qbez, qbfz, qbgz, qbhz, qbiz, qbjz, qbkz, qblz, qbmz, qbnz, qboz,
 qbpz, qbqz, qbrz, qbsz, qbtz, qbuz, qbvz, qbwz, qbxz, qbyz, qbzz, qcaz, qcbz, qccz, qcdz, qcez, qcfz, qcgz, qchz, qciz, beq_true, beq_false, Bool.not_eq_true', decide_eq_true_eq, decide_eq_false_iff_not, decide_true, decide_false,
 Int.toNat_natCast, Int.ofNat_lt, Int.ofNat_le, Int.natCast_inj, Bool.false_eq_true, Bool.true_eq_false, qcjz, List.getElem?_cons_zero, List.getElem?_cons_succ, qckz, Int.reduceToNat, Int.reduceLE, true_and, and_true, reduceCtorEq, or_false, false_or, or_true, Option.some.injEq, exists_eq_left', Bool.not_true, Bool.not_false, ne_eq, Int.reduceEq, not_true_eq_false, not_false_eq_true, Int.reduceLT, UInt8.reduceLT, UInt8.reduceLE, UInt8.reduceToNat]
    exact ⟨.bool true, rfl, hk.alloc.leave rfl (fun _ _ => rfl)⟩
  | false =>
    simp only [hv, Bool.false_eq_true, if_false] at hp
    simp (maxSteps := 1000000) (disch := omega) only [hp, allocPV, store_i2, faddrPV, Nat.zero_add, load_i1, qaaz, qabz, qacz, qadz, qaez, qafz, qagz, qahz, qaiz, qajz, qakz, qalz, qamz, qanz, evOp, qaoz, qapz, qaqz, qarz, qasz, qatz, qauz, qavz,
 ↓reduceIte, Nat.reduceEqDiff, List.nil_append, List.cons_append, List.append_nil, List.map_cons, List.map_nil, qawz, qaxz, qayz, Option.map_some, Option.map_none, qazz, qbaz, qbbz, qbcz, qbdz, qbez, qbfz, qbgz, qbhz, qbiz, qbjz, qbkz, qblz, qbmz, qbnz, qboz,
 qbpz, qbqz, qbrz, qbsz, qbtz, qbuz, qbvz, qbwz, qbxz, qbyz, qbzz, qcaz, qcbz, qccz, qcdz, qcez, qcfz, qcgz, qchz, qciz, beq_true, beq_false, Bool.not_eq_true', decide_eq_true_eq, decide_eq_false_iff_not, decide_true, decide_false,
 Int.toNat_natCast, Int.ofNat_lt, Int.ofNat_le, Int.natCast_inj, Bool.false_eq_true, Bool.true_eq_false, qcjz, List.getElem?_cons_zero, List.getElem?_cons_succ, qckz, Int.reduceToNat, Int.reduceLE, true_and, and_true, reduceCtorEq, or_false, false_or, or_true, Option.some.injEq, exists_eq_left', Bool.not_true, Bool.not_false, ne_eq, Int.reduceEq, not_true_eq_false, not_false_eq_true, Int.reduceLT, UInt8.reduceLT, UInt8.reduceLE, UInt8.reduceToNat]
    exact ⟨.bool false, rfl, hk.alloc.leave rfl (fun _ _ => rfl)⟩
theorem rValid_spec {x : PV} {l : List UInt8} (hx : x.by = some l) (hl : l.length ≤ 100000000) : call prog (.fn 74 []) [x] st = some (.bool (validOf l), st) := by
  refine call_of_W prog_74 ?_
  unfold F_posthornref02_Valid; dsimp only
  obtain ⟨w, a, S', h1, hk⟩ := pts_parts (l := l) (st := st) Kept.start
  have hp := rPoints_spec (st := { boxes := st.boxes, toks := st.toks, loops := st.loops, low := st.boxes.length }) hx hl
  rw [h1] at hp
  cases hv : validOf l with
  | true =>
    simp only [hv, if_true] at hp
    simp (maxSteps := 1000000) (disch := omega) only [hp, allocPV, store_i2, faddrPV, Nat.zero_add, load_i1, qaaz, qabz, qacz, qadz, qaez, qafz, qagz, qahz, qaiz, qajz, qakz, qalz, qamz, qanz, evOp, qaoz, qapz, qaqz, qarz, qasz, qatz, qauz, qavz,
 ↓reduceIte, Nat.reduceEqDiff, List.nil_append, List.cons_append, List.append_nil, List.map_cons, List.map_nil, qawz, qaxz, qayz, Option.map_some, Option.map_none, qazz, qbaz, qbbz, qbcz, qbdz, qbez, qbfz, qbgz, qbhz, qbiz, qbjz, qbkz, qblz, qbmz, qbnz, qboz,
 qbpz, qbqz, qbrz, qbsz, qbtz, qbuz, qbvz, qbwz, qbxz, qbyz, qbzz, qcaz, qcbz, qccz, qcdz, qcez, qcfz, qcgz, qchz, qciz, beq_true, beq_false, Bool.not_eq_true', decide_eq_true_eq, decide_eq_false_iff_not, decide_true, decide_false,
 Int.toNat_natCast, Int.ofNat_lt, Int.ofNat_le, Int.natCast_inj, Bool.false_eq_true, Bool.true_eq_false, qcjz, List.getElem?_cons_zero, List.getElem?_cons_succ, qckz, Int.reduceToNat, Int.reduceLE, true_and, and_true, reduceCtorEq, or_false, false_or, or_true, Option.some.injEq, exists_eq_left', Bool.not_true, Bool.not_false, ne_eq, Int.reduceEq, not_true_eq_false, not_false_eq_true, Int.reduceLT, UInt8.reduceLT, UInt8.reduceLE, UInt8.reduceToNat]
    exact ⟨.bool true, rfl, hk.alloc.leave rfl (fun _ _ => rfl)⟩
  | false =>
    simp only [hv, Bool.false_eq_true, if_false] at hp
    simp (maxSteps := 1000000) (disch := omega) only [hp, allocPV, store_i2, faddrPV, Nat.zero_add, load_i1, qaaz, qabz, qacz, qadz, qaez, qafz, qagz, qahz, qaiz, qajz, qakz, qalz, qamz, qanz, evOp, qaoz, qapz, qaqz, qarz, qasz, qatz, qauz, qavz,
 ↓reduceIte, Nat.reduceEqDiff, List.nil_append, List.cons_append, List.append_nil, List.map_cons, List.map_nil, qawz, qaxz, qayz, Option.map_some, Option.map_none, qazz, qbaz, qbbz, qbcz, qbdz, qbez, qbfz, qbgz, qbhz, qbiz, qbjz, qbkz, qblz, qbmz, qbnz, qboz,
 qbpz, qbqz, qbrz, qbsz, qbtz, qbuz, qbvz, qbwz, qbxz, qbyz, qbzz, qcaz, qcbz, qccz, qcdz, qcez, qcfz, qcgz, qchz, qciz, beq_true, beq_false, Bool.not_eq_true', decide_eq_true_eq, decide_eq_false_iff_not, decide_true, decide_false,
 Int.toNat_natCast, Int.ofNat_lt, Int.ofNat_le, Int.natCast_inj, Bool.false_eq_true, Bool.true_eq_false, qcjz, List.getElem?_cons_zero, List.getElem?_cons_succ, qckz, Int.reduceToNat, Int.reduceLE, true_and, and_true, reduceCtorEq, or_false, false_or, or_true, Option.some.injEq, exists_eq_left', Bool.not_true, Bool.not_false, ne_eq, Int.reduceEq, not_true_eq_false, not_false_eq_true, Int.reduceLT, UInt8.reduceLT, UInt8.reduceLE, UInt8.reduceToNat]
    exact ⟨.bool false, rfl, hk.alloc.leave rfl (fun _ _ => rfl)⟩

/-! ### Where a text can be cut -/
def isCont (c : UInt8) : Prop := 128 ≤ c.toNat ∧ c.toNat < 192
instance {c : UInt8} : Decidable (isCont c) := by unfold isCont; infer_instance
def back (l : List UInt8) : Nat → Nat
  | 0 => 0
  | n + 1 => if n + 1 < l.length ∧ isCont (l.getD (n + 1) 0) then back l n else n + 1
theorem next_cont {l : List UInt8} {p n : Nat} (h : nextOf l = some (p, n)) : ¬ isCont (l.getD 0 0) ∧ ∀ j, 1 ≤ j → j < n → isCont (l.getD j 0) := by
  unfold nextOf at h
  split at h
  · cases h
  split at h
  · rename_i hc
    cases h
    exact ⟨fun hh => by unfold isCont at hh; omega, fun j h1 h2 => by omega⟩
  · rename_i hc
    simp only at h
    split at h
    · cases h
    · rename_i hcond
      simp only [not_or, Classical.not_not] at hcond
      cases h
      refine ⟨fun hh => ?_, fun j h1 h2 => ?_⟩
      · apply hcond.1
        unfold isCont at hh
        unfold lead
        rw [if_neg (by omega), if_neg (by omega), if_neg (by omega)]
      · have := hcond.2.2.1 (j - 1) (by omega)
        rw [show j - 1 + 1 = j by omega] at this
        exact this

end Go.Ab

/-
  Where a text can be cut, by the document.
-/
namespace Go.Ab
set_option linter.unusedVariables false
set_option linter.unusedSimpArgs false
variable {st s : St} {e : Env}

theorem drop_get {l : List UInt8} {i j : Nat} : (l.drop i).getD j 0 = l.getD (i + j) 0 := by simp [List.getD]

end Go.Ab

/-
  Names and texts of a calendar's lines.
-/
namespace Go.Ab
set_option linter.unusedVariables false
set_option linter.unusedSimpArgs false
variable {st s : St} {e : Env}

def nmC (c : UInt8) : Bool := (decide (65 ≤ c) && decide (c ≤ 90)) || (decide (48 ≤ c) && decide (c ≤ 57)) || decide (c = 45)
def nmB (l : List UInt8) : Bool := decide (1 ≤ l.length) && decide (l.length ≤ 64) && l.all nmC
def txC (c : UInt8) : Bool := !(decide (c < 32) && !decide (c = 9)) && !decide (c = 127)
def txB (l : List UInt8) : Bool := l.all txC && validOf l

theorem sName_spec {l : List UInt8} (hl : l.length ≤ 1000000) : call prog (.fn 64 []) [.str l] st = some (.bool (nmB l), st) := by
  refine call_of_W prog_64 ?_
  unfold F_sheet_isName; dsimp only
  simp (maxSteps := 1000000) (disch := omega) only [len_s, qaaz, qabz, qacz, qadz, qaez, qafz, qagz, qahz, qaiz, qajz, qakz, qalz, qamz, qanz, evOp, qaoz, qapz, qaqz, qarz, qasz, qatz, qauz, qavz,
 ↓reduceIte, Nat.reduceEqDiff, List.nil_append, List.cons_append, List.append_nil, List.map_cons, List.map_nil, qawz, qaxz, qayz, Option.map_some, Option.map_none, qazz, qbaz, qbbz, qbcz, qbdz, qbez, qbfz, qbgz, qbhz, qbiz, qbjz, qbkz, qblz, qbmz, qbnz, qboz,
 qbpz, qbqz, qbrz, qbsz, qbtz, qbuz, qbvz, qbwz, qbxz, qbyz, qbzz, qcaz, qcbz, qccz, qcdz, qcez, qcfz, qcgz, qchz, qciz, beq_true, beq_false, Bool.not_eq_true', decide_eq_true_eq, decide_eq_false_iff_not, decide_true, decide_false,
 Int.toNat_natCast, Int.ofNat_lt, Int.ofNat_le, Int.natCast_inj, Bool.false_eq_true, Bool.true_eq_false, qcjz, List.getElem?_cons_zero, List.getElem?_cons_succ, qckz, Int.reduceToNat, Int.reduceLE, true_and, and_true, reduceCtorEq, or_false, false_or, or_true, Option.some.injEq, exists_eq_left', Bool.not_true, Bool.not_false, ne_eq, Int.reduceEq, not_true_eq_false, not_false_eq_true, Int.reduceLT, UInt8.reduceLT, UInt8.reduceLE, UInt8.reduceToNat]
  obtain ⟨I, hI⟩ : ∃ I : Nat → Env → St → Prop, I = fun k e s' => ∃ (i : Nat), k = l.length - i ∧ i ≤ l.length ∧ Kept st s' ∧ (∀ j, j < i → nmC (l.getD j 0) = true) ∧ e 0 = .str l ∧ e 6 = .int .i64 (l.length : Int) ∧ e 7 = .int .i64 (i : Int) := ⟨_, rfl⟩
  refine W_loop I ?_ (n := l.length) (by
    rw [hI]
    exact ⟨0, rfl, by omega, Kept.start, fun j h => by omega, rfl, rfl, rfl⟩)
  intro k e s' hh
  rw [hI] at hh
  obtain ⟨i, rfl, hi, hk, hall, h0, h6, h7⟩ := hh
  by_cases hlt : i < l.length
  · obtain ⟨c, hc⟩ : ∃ c, c = l.getD i 0 := ⟨_, rfl⟩
    have bad : nmC c = false → ∀ E : Env, E 2 = .bool false → ∃ rv, resOf E s' [.tmp 2] = some rv ∧ leave st s' rv = (.bool (nmB l), st) := fun h E k2 =>
      ⟨.bool false, by simp [resOf, rvAll, rv1, k2, notTup, packRes], by
        rw [show nmB l = false by simp only [nmB, all_bad (p := nmC) hlt (by rw [← hc]; exact h), Bool.and_false]]
        exact hk.leave rfl (fun _ _ => rfl)⟩
    have good : nmC c = true → ∀ E : Env, E 0 = .str l → E 6 = .int .i64 (l.length : Int) → E 7 = .int .i64 ((i + 1 : Nat) : Int) → I (l.length - (i + 1)) E s' := fun h E k0 k6 k7 => by
      rw [hI]
      refine ⟨i + 1, rfl, by omega, hk, fun j hj => ?_, k0, k6, k7⟩
      by_cases hji : j = i
      · subst hji; rw [← hc]; exact h
      · exact hall j (by omega)
    by_cases q1 : 65 ≤ c
    · by_cases q2 : c ≤ 90
      · simp (maxSteps := 1000000) (disch := omega) only [h0, h6, h7, hlt, idx_s, ← hc, q1, q2, add_n, qaaz, qabz, qacz, qadz, qaez, qafz, qagz, qahz, qaiz, qajz, qakz, qalz, qamz, qanz, evOp, qaoz, qapz, qaqz, qarz, qasz, qatz, qauz, qavz,
 ↓reduceIte, Nat.reduceEqDiff, List.nil_append, List.cons_append, List.append_nil, List.map_cons, List.map_nil, qawz, qaxz, qayz, Option.map_some, Option.map_none, qazz, qbaz, qbbz, qbcz, qbdz, qbez, qbfz, qbgz, qbhz, qbiz, qbjz, qbkz, qblz, qbmz, qbnz, qboz,
 qbpz, qbqz, qbrz, qbsz, qbtz, qbuz, qbvz, qbwz, qbxz, qbyz, qbzz, qcaz, qcbz, qccz, qcdz, qcez, qcfz, qcgz, qchz, qciz, beq_true, beq_false, Bool.not_eq_true', decide_eq_true_eq, decide_eq_false_iff_not, decide_true, decide_false,
 Int.toNat_natCast, Int.ofNat_lt, Int.ofNat_le, Int.natCast_inj, Bool.false_eq_true, Bool.true_eq_false, qcjz, List.getElem?_cons_zero, List.getElem?_cons_succ, qckz, Int.reduceToNat, Int.reduceLE, true_and, and_true, reduceCtorEq, or_false, false_or, or_true, Option.some.injEq, exists_eq_left', Bool.not_true, Bool.not_false, ne_eq, Int.reduceEq, not_true_eq_false, not_false_eq_true, Int.reduceLT, UInt8.reduceLT, UInt8.reduceLE, UInt8.reduceToNat]
        exact loopQ_intro (m := l.length - (i + 1)) (by omega) (good (by simp [nmC, q1, q2]) _ h0 h6 rfl)
      · by_cases q3 : 48 ≤ c
        · by_cases q4 : c ≤ 57
          · simp (maxSteps := 1000000) (disch := omega) only [h0, h6, h7, hlt, idx_s, ← hc, q1, q2, q3, q4, add_n, qaaz, qabz, qacz, qadz, qaez, qafz, qagz, qahz, qaiz, qajz, qakz, qalz, qamz, qanz, evOp, qaoz, qapz, qaqz, qarz, qasz, qatz, qauz, qavz,
 ↓reduceIte, Nat.reduceEqDiff, List.nil_append, List.cons_append, List.append_nil, List.map_cons, List.map_nil, qawz, qaxz, qayz, Option.map_some, Option.map_none, qazz, qbaz, qbbz, qbcz, qbdz, qbez, qbfz, qbgz, qbhz, qbiz, qbjz, qbkz, qblz, qbmz, qbnz, qboz,
 qbpz, qbqz, qbrz, qbsz, qbtz, qbuz, qbvz, qbwz, qbxz, qbyz, qbzz, qcaz, qcbz, qccz, qcdz, qcez, qcfz, qcgz, qchz, qciz, beq_true, beq_false, Bool.not_eq_true', decide_eq_true_eq, decide_eq_false_iff_not, decide_true, decide_false,
 Int.toNat_natCast, Int.ofNat_lt, Int.ofNat_le, Int.natCast_inj, Bool.false_eq_true, Bool.true_eq_false, qcjz, List.getElem?_cons_zero, List.getElem?_cons_succ, qckz, Int.reduceToNat, Int.reduceLE, true_and, and_true, reduceCtorEq, or_false, false_or, or_true, Option.some.injEq, exists_eq_left', Bool.not_true, Bool.not_false, ne_eq, Int.reduceEq, not_true_eq_false, not_false_eq_true, Int.reduceLT, UInt8.reduceLT, UInt8.reduceLE, UInt8.reduceToNat]
            exact loopQ_intro (m := l.length - (i + 1)) (by omega) (good (by simp [nmC, q3, q4]) _ h0 h6 rfl)
          · by_cases q5 : c = 45
            · simp (maxSteps := 1000000) (disch := omega) only [h0, h6, h7, hlt, idx_s, ← hc, q1, q2, q3, q4, eq_true q5, add_n, qaaz, qabz, qacz, qadz, qaez, qafz, qagz, qahz, qaiz, qajz, qakz, qalz, qamz, qanz, evOp, qaoz, qapz, qaqz, qarz, qasz, qatz, qauz, qavz,
 ↓reduceIte, Nat.reduceEqDiff, List.nil_append, List.cons_append, List.append_nil, List.map_cons, List.map_nil, qawz, qaxz, qayz, Option.map_some, Option.map_none, qazz, qbaz, qbbz, qbcz, qbdz, qbez, qbfz, qbgz, qbhz, qbiz, qbjz, qbkz, qblz, qbmz, qbnz, qboz,
 qbpz, qbqz, qbrz, qbsz, qbtz, qbuz, qbvz, qbwz, qbxz, qbyz, qbzz, qcaz, qcbz, qccz, qcdz, qcez, qcfz, qcgz, qchz, qciz, beq_true, beq_false, Bool.not_eq_true', decide_eq_true_eq, decide_eq_false_iff_not, decide_true, decide_false,
 Int.toNat_natCast, Int.ofNat_lt, Int.ofNat_le, Int.natCast_inj, Bool.false_eq_true, Bool.true_eq_false, qcjz, List.getElem?_cons_zero, List.getElem?_cons_succ, qckz, Int.reduceToNat, Int.reduceLE, true_and, and_true, reduceCtorEq, or_false, false_or, or_true, Option.some.injEq, exists_eq_left', Bool.not_true, Bool.not_false, ne_eq, Int.reduceEq, not_true_eq_false, not_false_eq_true, Int.reduceLT, UInt8.reduceLT, UInt8.reduceLE, UInt8.reduceToNat]
              exact loopQ_intro (m := l.length - (i + 1)) (by omega) (good (by simp [nmC, q5]) _ h0 h6 rfl)
            · simp (maxSteps := 1000000) (disch := omega) only [h0, h6, h7, hlt, idx_s, ← hc, q1, q2, q3, q4, q5, qaaz, qabz, qacz, qadz, qaez, qafz, qagz, qahz, qaiz, qajz, qakz, qalz, qamz, qanz, evOp, qaoz, qapz, qaqz, qarz, qasz, qatz, qauz, qavz,
 ↓reduceIte, Nat.reduceEqDiff, List.nil_append, List.cons_append, List.append_nil, List.map_cons, List.map_nil, qawz, qaxz, qayz, Option.map_some, Option.map_none, qazz, qbaz, qbbz, qbcz, qbdz, qbez, qbfz, qbgz, qbhz, qbiz, qbjz, qbkz, qblz, qbmz, qbnz, qboz,
 qbpz, qbqz, qbrz, qbsz, qbtz, qbuz, qbvz, qbwz, qbxz, qbyz, qbzz, qcaz, qcbz, qccz, qcdz, qcez, qcfz, qcgz, qchz, qciz, beq_true, beq_false, Bool.not_eq_true', decide_eq_true_eq, decide_eq_false_iff_not, decide_true, decide_false,
 Int.toNat_natCast, Int.ofNat_lt, Int.ofNat_le, Int.natCast_inj, Bool.false_eq_true, Bool.true_eq_false, qcjz, List.getElem?_cons_zero, List.getElem?_cons_succ, qckz, Int.reduceToNat, Int.reduceLE, true_and, and_true, reduceCtorEq, or_false, false_or, or_true, Option.some.injEq, exists_eq_left', Bool.not_true, Bool.not_false, ne_eq, Int.reduceEq, not_true_eq_false, not_false_eq_true, Int.reduceLT, UInt8.reduceLT, UInt8.reduceLE, UInt8.reduceToNat]
              exact bad (by simp [nmC, q2, q4, q5]) _ rfl
        · by_cases q5 : c = 45
          · simp (maxSteps := 1000000) (disch := omega) only [h0, h6, h7, hlt, idx_s, ← hc, q1, q2, q3, eq_true q5, add_n, qaaz, qabz, qacz, qadz, qaez, qafz, qagz, qahz, qaiz, qajz, qakz, qalz, qamz, qanz, evOp, qaoz, qapz, qaqz, qarz, qasz, qatz, qauz, qavz,
 ↓reduceIte, Nat.reduceEqDiff, List.nil_append, List.cons_append, List.append_nil, List.map_cons, List.map_nil, qawz, qaxz, qayz, Option.map_some, Option.map_none, qazz, qbaz, qbbz, qbcz, qbdz, qbez, qbfz, qbgz, qbhz, qbiz, qbjz, qbkz, qblz, qbmz, qbnz, qboz,
 qbpz, qbqz, qbrz, qbsz, qbtz, qbuz, qbvz, qbwz, qbxz, qbyz, qbzz, qcaz, qcbz, qccz, qcdz, qcez, qcfz, qcgz, qchz, qciz, beq_true, beq_false, Bool.not_eq_true', decide_eq_true_eq, decide_eq_false_iff_not, decide_true, decide_false,
 Int.toNat_natCast, Int.ofNat_lt, Int.ofNat_le, Int.natCast_inj, Bool.false_eq_true, Bool.true_eq_false, qcjz, List.getElem?_cons_zero, List.getElem?_cons_succ, qckz, Int.reduceToNat, Int.reduceLE, true_and, and_true, reduceCtorEq, or_false, false_or, or_true, Option.some.injEq, exists_eq_left', Bool.not_true, Bool.not_false, ne_eq, Int.reduceEq, not_true_eq_false, not_false_eq_true, Int.reduceLT, UInt8.reduceLT, UInt8.reduceLE, UInt8.reduceToNat]
            exact loopQ_intro (m := l.length - (i + 1)) (by omega) (good (by simp [nmC, q5]) _ h0 h6 rfl)
          · simp (maxSteps := 1000000) (disch := omega) only [h0, h6, h7, hlt, idx_s, ← hc, q1, q2, q3, q5, qaaz, qabz, qacz, qadz, qaez, qafz, qagz, qahz, qaiz, qajz, qakz, qalz, qamz, qanz, evOp, qaoz, qapz, qaqz, qarz, qasz, qatz, qauz, qavz,
 ↓reduceIte, Nat.reduceEqDiff, List.nil_append, List.cons_append, List.append_nil, List.map_cons, List.map_nil, qawz, qaxz, qayz, Option.map_some, Option.map_none, qazz, qbaz, qbbz, qbcz, qbdz, qbez, qbfz, qbgz, qbhz, qbiz, qbjz, qbkz, qblz, qbmz, qbnz, qboz,
 qbpz, qbqz, qbrz, qbsz, qbtz, qbuz, qbvz, qbwz, qbxz, qbyz, qbzz, qcaz, qcbz, qccz, qcdz, qcez, qcfz, qcgz, qchz, qciz, beq_true, beq_false, Bool.not_eq_true', decide_eq_true_eq, decide_eq_false_iff_not, decide_true, decide_false,
 Int.toNat_natCast, Int.ofNat_lt, Int.ofNat_le, Int.natCast_inj, Bool.false_eq_true, Bool.true_eq_false, qcjz, List.getElem?_cons_zero, List.getElem?_cons_succ, qckz, Int.reduceToNat, Int.reduceLE, true_and, and_true, reduceCtorEq, or_false, false_or, or_true, Option.some.injEq, exists_eq_left', Bool.not_true, Bool.not_false, ne_eq, Int.reduceEq, not_true_eq_false, not_false_eq_true, Int.reduceLT, UInt8.reduceLT, UInt8.reduceLE, UInt8.reduceToNat]
            exact bad (by simp [nmC, q2, q3, q5]) _ rfl
    · by_cases q3 : 48 ≤ c
      · by_cases q4 : c ≤ 57
        · simp (maxSteps := 1000000) (disch := omega) only [h0, h6, h7, hlt, idx_s, ← hc, q1, q3, q4, add_n, qaaz, qabz, qacz, qadz, qaez, qafz, qagz, qahz, qaiz, qajz, qakz, qalz, qamz, qanz, evOp, qaoz, qapz, qaqz, qarz, qasz, qatz, qauz, qavz,
 ↓reduceIte, Nat.reduceEqDiff, List.nil_append, List.cons_append, List.append_nil, List.map_cons, List.map_nil, qawz, qaxz, qayz, Option.map_some, Option.map_none, qazz, qbaz, qbbz, qbcz, qbdz, qbez, qbfz, qbgz, qbhz, qbiz, qbjz, qbkz, qblz, qbmz, qbnz, qboz,
 qbpz, qbqz, qbrz, qbsz, qbtz, qbuz, qbvz, qbwz, qbxz, qbyz, qbzz, qcaz, qcbz, qccz, qcdz, qcez, qcfz, qcgz, qchz, qciz, beq_true, beq_false, Bool.not_eq_true', decide_eq_true_eq, decide_eq_false_iff_not, decide_true, decide_false,
 Int.toNat_natCast, Int.ofNat_lt, Int.ofNat_le, Int.natCast_inj, Bool.false_eq_true, Bool.true_eq_false, qcjz, List.getElem?_cons_zero, List.getElem?_cons_succ, qckz, Int.reduceToNat, Int.reduceLE, true_and, and_true, reduceCtorEq, or_false, false_or, or_true, Option.some.injEq, exists_eq_left', Bool.not_true, Bool.not_false, ne_eq, Int.reduceEq, not_true_eq_false, not_false_eq_true, Int.reduceLT, UInt8.reduceLT, UInt8.reduceLE, UInt8.reduceToNat]
          exact loopQ_intro (m := l.length - (i + 1)) (by omega) (good (by simp [nmC, q3, q4]) _ h0 h6 rfl)
        · by_cases q5 : c = 45
          · simp (maxSteps := 1000000) (disch := omega) only [h0, h6, h7, hlt, idx_s, ← hc, q1, q3, q4, eq_true q5, add_n, qaaz, qabz, qacz, qadz, qaez, qafz, qagz, qahz, qaiz, qajz, qakz, qalz, qamz, qanz, evOp, qaoz, qapz, qaqz, qarz, qasz, qatz, qauz, qavz,
 ↓reduceIte, Nat.reduceEqDiff, List.nil_append, List.cons_append, List.append_nil, List.map_cons, List.map_nil, qawz, qaxz, qayz, Option.map_some, Option.map_none, qazz, qbaz, qbbz, qbcz, qbdz, qbez, qbfz, qbgz, qbhz, qbiz, qbjz, qbkz, qblz, qbmz, qbnz, qboz,
 qbpz, qbqz, qbrz, qbsz, qbtz, qbuz, qbvz, qbwz, qbxz, qbyz, qbzz, qcaz, qcbz, qccz, qcdz, qcez, qcfz, qcgz, qchz, qciz, beq_true, beq_false, Bool.not_eq_true', decide_eq_true_eq, decide_eq_false_iff_not, decide_true, decide_false,
 Int.toNat_natCast, Int.ofNat_lt, Int.ofNat_le, Int.natCast_inj, Bool.false_eq_true, Bool.true_eq_false, qcjz, List.getElem?_cons_zero, List.getElem?_cons_succ, qckz, Int.reduceToNat, Int.reduceLE, true_and, and_true, reduceCtorEq, or_false, false_or, or_true, Option.some.injEq, exists_eq_left', Bool.not_true, Bool.not_false, ne_eq, Int.reduceEq, not_true_eq_false, not_false_eq_true, Int.reduceLT, UInt8.reduceLT, UInt8.reduceLE, UInt8.reduceToNat]
            exact loopQ_intro (m := l.length - (i + 1)) (by omega) (good (by simp [nmC, q5]) _ h0 h6 rfl)
          · simp (maxSteps := 1000000) (disch := omega) only [h0, h6, h7, hlt, idx_s, ← hc, q1, q3, q4, q5, qaaz, qabz, qacz, qadz, qaez, qafz, qagz, qahz, qaiz, qajz, qakz, qalz, qamz, qanz, evOp, qaoz, qapz, qaqz, qarz, qasz, qatz, qauz, qavz,
 ↓reduceIte, Nat.reduceEqDiff, List.nil_append, List.cons_append, List.append_nil, List.map_cons, List.map_nil, qawz, qaxz, qayz, Option.map_some, Option.map_none, qazz, qbaz, qbbz, qbcz, qbdz, qbez, qbfz, qbgz, qbhz, qbiz, qbjz, qbkz, qblz, qbmz, qbnz, qboz,
 qbpz, qbqz, qbrz, qbsz, qbtz, qbuz, qbvz, qbwz, qbxz, qbyz, qbzz, qcaz, qcbz, qccz, qcdz, qcez, qcfz, qcgz, qchz, qciz, beq_true, beq_false, Bool.not_eq_true', decide_eq_true_eq, decide_eq_false_iff_not, decide_true, decide_false,
 Int.toNat_natCast, Int.ofNat_lt, Int.ofNat_le, Int.natCast_inj, Bool.false_eq_true, Bool.true_eq_false, qcjz, List.getElem?_cons_zero, List.getElem?_cons_succ, qckz, Int.reduceToNat, Int.reduceLE, true_and, and_true, reduceCtorEq, or_false, false_or, or_true, Option.some.injEq, exists_eq_left', Bool.not_true, Bool.not_false, ne_eq, Int.reduceEq, not_true_eq_false, not_false_eq_true, Int.reduceLT, UInt8.reduceLT, UInt8.reduceLE, UInt8.reduceToNat]
            exact bad (by simp [nmC, q1, q4, q5]) _ rfl
      · by_cases q5 : c = 45
        · simp (maxSteps := 1000000) (disch := omega) only [h0, h6, h7, hlt, idx_s, ← hc, q1, q3, eq_true q5, add_n, qaaz, qabz, qacz, qadz, qaez, qafz, qagz, qahz, qaiz, qajz, qakz, qalz, qamz, qanz, evOp, qaoz, qapz, qaqz, qarz, qasz, qatz, qauz, qavz,
 ↓reduceIte, Nat.reduceEqDiff, List.nil_append, List.cons_append, List.append_nil, List.map_cons, List.map_nil, qawz, qaxz, qayz, Option.map_some, Option.map_none, qazz, qbaz, qbbz, qbcz, qbdz, qbez, qbfz, qbgz, qbhz, qbiz, qbjz, qbkz, qblz, qbmz, qbnz, qboz,
 qbpz, qbqz, qbrz, qbsz, qbtz, qbuz, qbvz, qbwz, qbxz, qbyz, qbzz, qcaz, qcbz, qccz, qcdz, qcez, qcfz, qcgz, qchz, qciz, beq_true, beq_false, Bool.not_eq_true', decide_eq_true_eq, decide_eq_false_iff_not, decide_true, decide_false,
 Int.toNat_natCast, Int.ofNat_lt, Int.ofNat_le, Int.natCast_inj, Bool.false_eq_true, Bool.true_eq_false, qcjz, List.getElem?_cons_zero, List.getElem?_cons_succ, qckz, Int.reduceToNat, Int.reduceLE, true_and, and_true, reduceCtorEq, or_false, false_or, or_true, Option.some.injEq, exists_eq_left', Bool.not_true, Bool.not_false, ne_eq, Int.reduceEq, not_true_eq_false, not_false_eq_true, Int.reduceLT, UInt8.reduceLT, UInt8.reduceLE, UInt8.reduceToNat]
          exact loopQ_intro (m := l.length - (i + 1)) (by omega) (good (by simp [nmC, q5]) _ h0 h6 rfl)
        · simp (maxSteps := 1000000) (disch := omega) only [h0, h6, h7, hlt, idx_s, ← hc, q1, q3, q5, qaaz, qabz, qacz, qadz, qaez, qafz, qagz, qahz, qaiz, qajz, qakz, qalz, qamz, qanz, evOp, qaoz, qapz, qaqz, qarz, qasz, qatz, qauz, qavz,
 ↓reduceIte, Nat.reduceEqDiff, List.nil_append, List.cons_append, List.append_nil, List.map_cons, List.map_nil, qawz, qaxz, qayz, Option.map_some, Option.map_none, qazz, qbaz, qbbz, qbcz, qbdz, qbez, qbfz, qbgz, qbhz, qbiz, qbjz, qbkz, qblz, qbmz, qbnz, qboz,
 qbpz, qbqz, qbrz, qbsz, qbtz, qbuz, qbvz, qbwz, qbxz, qbyz, qbzz, qcaz, qcbz, qccz, qcdz, qcez, qcfz, qcgz, qchz, qciz, beq_true, beq_false, Bool.not_eq_true', decide_eq_true_eq, decide_eq_false_iff_not, decide_true, decide_false,
 Int.toNat_natCast, Int.ofNat_lt, Int.ofNat_le, Int.natCast_inj, Bool.false_eq_true, Bool.true_eq_false, qcjz, List.getElem?_cons_zero, List.getElem?_cons_succ, qckz, Int.reduceToNat, Int.reduceLE, true_and, and_true, reduceCtorEq, or_false, false_or, or_true, Option.some.injEq, exists_eq_left', Bool.not_true, Bool.not_false, ne_eq, Int.reduceEq, not_true_eq_false, not_false_eq_true, Int.reduceLT, UInt8.reduceLT, UInt8.reduceLE, UInt8.reduceToNat]
          exact bad (by simp [nmC, q1, q3, q5]) _ rfl
  · obtain rfl : i = l.length := by omega
    have ha := all_getD (p := nmC) hall
    by_cases g0 : l = []
    · simp (maxSteps := 1000000) (disch := omega) only [h0, h6, h7, hlt, eq_true g0, qaaz, qabz, qacz, qadz, qaez, qafz, qagz, qahz, qaiz, qajz, qakz, qalz, qamz, qanz, evOp, qaoz, qapz, qaqz, qarz, qasz, qatz, qauz, qavz,
 ↓reduceIte, Nat.reduceEqDiff, List.nil_append, List.cons_append, List.append_nil, List.map_cons, List.map_nil, qawz, qaxz, qayz, Option.map_some, Option.map_none, qazz, qbaz, qbbz, qbcz, qbdz, qbez, qbfz, qbgz, qbhz, qbiz, qbjz, qbkz, qblz, qbmz, qbnz, qboz,
 qbpz, qbqz, qbrz, qbsz, qbtz, qbuz, qbvz, qbwz, qbxz, qbyz, qbzz, qcaz, qcbz, qccz, qcdz, qcez, qcfz, qcgz, qchz, qciz, beq_true, beq_false, Bool.not_eq_true', decide_eq_true_eq, decide_eq_false_iff_not, decide_true, decide_false,
 Int.toNat_natCast, Int.ofNat_lt, Int.ofNat_le, Int.natCast_inj, Bool.false_eq_true, Bool.true_eq_false, qcjz, List.getElem?_cons_zero, List.getElem?_cons_succ, qckz, Int.reduceToNat, Int.reduceLE, true_and, and_true, reduceCtorEq, or_false, false_or, or_true, Option.some.injEq, exists_eq_left', Bool.not_true, Bool.not_false, ne_eq, Int.reduceEq, not_true_eq_false, not_false_eq_true, Int.reduceLT, UInt8.reduceLT, UInt8.reduceLE, UInt8.reduceToNat]
      exact ⟨.bool false, rfl, by rw [show nmB l = false by simp [nmB, g0]]; exact hk.leave rfl (fun _ _ => rfl)⟩
    · have hp := List.length_pos_iff.2 g0
      by_cases g2 : l.length ≤ 64
      · have e2 : (l.length : Int) ≤ 64 := by omega
        simp (maxSteps := 1000000) (disch := omega) only [h0, h6, h7, hlt, g0, len_s, e2, qaaz, qabz, qacz, qadz, qaez, qafz, qagz, qahz, qaiz, qajz, qakz, qalz, qamz, qanz, evOp, qaoz, qapz, qaqz, qarz, qasz, qatz, qauz, qavz,
 ↓reduceIte, Nat.reduceEqDiff, List.nil_append, List.cons_append, List.append_nil, List.map_cons, List.map_nil, qawz, qaxz, qayz, Option.map_some, Option.map_none, qazz, qbaz, qbbz, qbcz, qbdz, qbez, qbfz, qbgz, qbhz, qbiz, qbjz, qbkz, qblz, qbmz, qbnz, qboz,
 qbpz, qbqz, qbrz, qbsz, qbtz, qbuz, qbvz, qbwz, qbxz, qbyz, qbzz, qcaz, qcbz, qccz, qcdz, qcez, qcfz, qcgz, qchz, qciz, beq_true, beq_false, Bool.not_eq_true', decide_eq_true_eq, decide_eq_false_iff_not, decide_true, decide_false,
 Int.toNat_natCast, Int.ofNat_lt, Int.ofNat_le, Int.natCast_inj, Bool.false_eq_true, Bool.true_eq_false, qcjz, List.getElem?_cons_zero, List.getElem?_cons_succ, qckz, Int.reduceToNat, Int.reduceLE, true_and, and_true, reduceCtorEq, or_false, false_or, or_true, Option.some.injEq, exists_eq_left', Bool.not_true, Bool.not_false, ne_eq, Int.reduceEq, not_true_eq_false, not_false_eq_true, Int.reduceLT, UInt8.reduceLT, UInt8.reduceLE, UInt8.reduceToNat]
        exact ⟨.bool true, rfl, by rw [show nmB l = true by simp only [nmB, ha, Bool.and_true, Bool.and_eq_true, decide_eq_true_eq]; omega]; exact hk.leave rfl (fun _ _ => rfl)⟩
      · have e2 : ¬ (l.length : Int) ≤ 64 := by omega
        simp (maxSteps := 1000000) (disch := omega) only [h0, h6, h7, hlt, g0, len_s, e2, qaaz, qabz, qacz, qadz, qaez, qafz, qagz, qahz, qaiz, qajz, qakz, qalz, qamz, qanz, evOp, qaoz, qapz, qaqz, qarz, qasz, qatz, qauz, qavz,
 ↓reduceIte, Nat.reduceEqDiff, List.nil_append, List.cons_append, List.append_nil, List.map_cons, List.map_nil, qawz, qaxz, qayz, Option.map_some, Option.map_none, qazz, qbaz, qbbz, qbcz, qbdz, qbez, qbfz, qbgz, qbhz, qbiz, qbjz, qbkz, qblz, qbmz, qbnz, qboz,
 qbpz, qbqz, qbrz, qbsz, qbtz, qbuz, qbvz, qbwz, qbxz, qbyz, qbzz, qcaz, qcbz, qccz, qcdz, qcez, qcfz, qcgz, qchz, qciz, beq_true, beq_false, Bool.not_eq_true', decide_eq_true_eq, decide_eq_false_iff_not, decide_true, decide_false,
 Int.toNat_natCast, Int.ofNat_lt, Int.ofNat_le, Int.natCast_inj, Bool.false_eq_true, Bool.true_eq_false, qcjz, List.getElem?_cons_zero, List.getElem?_cons_succ, qckz, Int.reduceToNat, Int.reduceLE, true_and, and_true, reduceCtorEq, or_false, false_or, or_true, Option.some.injEq, exists_eq_left', Bool.not_true, Bool.not_false, ne_eq, Int.reduceEq, not_true_eq_false, not_false_eq_true, Int.reduceLT, UInt8.reduceLT, UInt8.reduceLE, UInt8.reduceToNat]
        exact ⟨.bool false, rfl, by rw [show nmB l = false by simp [nmB, g2]]; exact hk.leave rfl (fun _ _ => rfl)⟩
theorem rNm_spec {l : List UInt8} (hl : l.length ≤ 1000000) : call prog (.fn 67 []) [.str l] st = some (.bool (nmB l), st) := by
  refine call_of_W prog_67 ?_
  unfold F_posthornref10_Name; dsimp only
  simp (maxSteps := 1000000) (disch := omega) only [len_s, qaaz, qabz, qacz, qadz, qaez, qafz, qagz, qahz, qaiz, qajz, qakz, qalz, qamz, qanz, evOp, qaoz, qapz, qaqz, qarz, qasz, qatz, qauz, qavz,
 ↓reduceIte, Nat.reduceEqDiff, List.nil_append, List.cons_append, List.append_nil, List.map_cons, List.map_nil, qawz, qaxz, qayz, Option.map_some, Option.map_none, qazz, qbaz, qbbz, qbcz, qbdz, qbez, qbfz, qbgz, qbhz, qbiz, qbjz, qbkz, qblz, qbmz, qbnz, qboz,
 qbpz, qbqz, qbrz, qbsz, qbtz, qbuz, qbvz, qbwz, qbxz, qbyz, qbzz, qcaz, qcbz, qccz, qcdz, qcez, qcfz, qcgz, qchz, qciz, beq_true, beq_false, Bool.not_eq_true', decide_eq_true_eq, decide_eq_false_iff_not, decide_true, decide_false,
 Int.toNat_natCast, Int.ofNat_lt, Int.ofNat_le, Int.natCast_inj, Bool.false_eq_true, Bool.true_eq_false, qcjz, List.getElem?_cons_zero, List.getElem?_cons_succ, qckz, Int.reduceToNat, Int.reduceLE, true_and, and_true, reduceCtorEq, or_false, false_or, or_true, Option.some.injEq, exists_eq_left', Bool.not_true, Bool.not_false, ne_eq, Int.reduceEq, not_true_eq_false, not_false_eq_true, Int.reduceLT, UInt8.reduceLT, UInt8.reduceLE, UInt8.reduceToNat]
  obtain ⟨I, hI⟩ : ∃ I : Nat → Env → St → Prop, I = fun k e s' => ∃ (i : Nat), k = l.length - i ∧ i ≤ l.length ∧ Kept st s' ∧ (∀ j, j < i → nmC (l.getD j 0) = true) ∧ e 0 = .str l ∧ e 3 = .int .i64 (i : Int) := ⟨_, rfl⟩
  refine W_loop I ?_ (n := l.length) (by
    rw [hI]
    exact ⟨0, rfl, by omega, Kept.start, fun j h => by omega, rfl, rfl⟩)
  intro k e s' hh
  rw [hI] at hh
  obtain ⟨i, rfl, hi, hk, hall, h0, h7⟩ := hh
  by_cases hlt : i < l.length
  · obtain ⟨c, hc⟩ : ∃ c, c = l.getD i 0 := ⟨_, rfl⟩
    have bad : nmC c = false → ∀ E : Env, E 2 = .bool false → ∃ rv, resOf E s' [.tmp 2] = some rv ∧ leave st s' rv = (.bool (nmB l), st) := fun h E k2 =>
      ⟨.bool false, by simp [resOf, rvAll, rv1, k2, notTup, packRes], by
        rw [show nmB l = false by simp only [nmB, all_bad (p := nmC) hlt (by rw [← hc]; exact h), Bool.and_false]]
        exact hk.leave rfl (fun _ _ => rfl)⟩
    have good : nmC c = true → ∀ E : Env, E 0 = .str l → E 3 = .int .i64 ((i + 1 : Nat) : Int) → I (l.length - (i + 1)) E s' := fun h E k0 k7 => by
      rw [hI]
      refine ⟨i + 1, rfl, by omega, hk, fun j hj => ?_, k0, k7⟩
      by_cases hji : j = i
      · subst hji; rw [← hc]; exact h
      · exact hall j (by omega)
    by_cases q1 : 65 ≤ c
    · by_cases q2 : c ≤ 90
      · simp (maxSteps := 1000000) (disch := omega) only [h0, h7, len_s, hlt, idx_s, ← hc, q1, q2, add_n, qaaz, qabz, qacz, qadz, qaez, qafz, qagz, qahz, qaiz, qajz, qakz, qalz, qamz, qanz, evOp, qaoz, qapz, qaqz, qarz, qasz, qatz, qauz, qavz,
 ↓reduceIte, Nat.reduceEqDiff, List.nil_append, List.cons_append, List.append_nil, List.map_cons, List.map_nil, qawz, qaxz, qayz, Option.map_some, Option.map_none, qazz, qbaz, qbbz, qbcz, qbdz, qbez, qbfz, qbgz, qbhz, qbiz, qbjz, qbkz, qblz, qbmz, qbnz, qboz,
 qbpz, qbqz, qbrz, qbsz, qbtz, qbuz, qbvz, qbwz, qbxz, qbyz, qbzz, qcaz, qcbz, qccz, qcdz, qcez, qcfz, qcgz, qchz, qciz, beq_true, beq_false, Bool.not_eq_true', decide_eq_true_eq, decide_eq_false_iff_not, decide_true, decide_false,
 Int.toNat_natCast, Int.ofNat_lt, Int.ofNat_le, Int.natCast_inj, Bool.false_eq_true, Bool.true_eq_false, qcjz, List.getElem?_cons_zero, List.getElem?_cons_succ, qckz, Int.reduceToNat, Int.reduceLE, true_and, and_true, reduceCtorEq, or_false, false_or, or_true, Option.some.injEq, exists_eq_left', Bool.not_true, Bool.not_false, ne_eq, Int.reduceEq, not_true_eq_false, not_false_eq_true, Int.reduceLT, UInt8.reduceLT, UInt8.reduceLE, UInt8.reduceToNat]
        exact loopQ_intro (m := l.length - (i + 1)) (by omega) (good (by simp [nmC, q1, q2]) _ h0 rfl)
      · by_cases q3 : 48 ≤ c
        · by_cases q4 : c ≤ 57
          · simp (maxSteps := 1000000) (disch := omega) only [h0, h7, len_s, hlt, idx_s, ← hc, q1, q2, q3, q4, add_n, qaaz, qabz, qacz, qadz, qaez, qafz, qagz, qahz, qaiz, qajz, qakz, qalz, qamz, qanz, evOp, qaoz, qapz, qaqz, qarz, qasz, qatz, qauz, qavz,
 ↓reduceIte, Nat.reduceEqDiff, List.nil_append, List.cons_append, List.append_nil, List.map_cons, List.map_nil, qawz, qaxz, qayz, Option.map_some, Option.map_none, qazz, qbaz, qbbz, qbcz, qbdz, qbez, qbfz, qbgz, qbhz, qbiz, qbjz, qbkz, qblz, qbmz, qbnz, qboz,
 qbpz, qbqz, qbrz, qbsz, qbtz, qbuz, qbvz, qbwz, qbxz, qbyz, qbzz, qcaz, qcbz, qccz, qcdz, qcez, qcfz, qcgz, qchz, qciz, beq_true, beq_false, Bool.not_eq_true', decide_eq_true_eq, decide_eq_false_iff_not, decide_true, decide_false,
 Int.toNat_natCast, Int.ofNat_lt, Int.ofNat_le, Int.natCast_inj, Bool.false_eq_true, Bool.true_eq_false, qcjz, List.getElem?_cons_zero, List.getElem?_cons_succ, qckz, Int.reduceToNat, Int.reduceLE, true_and, and_true, reduceCtorEq, or_false, false_or, or_true, Option.some.injEq, exists_eq_left', Bool.not_true, Bool.not_false, ne_eq, Int.reduceEq, not_true_eq_false, not_false_eq_true, Int.reduceLT, UInt8.reduceLT, UInt8.reduceLE, UInt8.reduceToNat]
            exact loopQ_intro (m := l.length - (i + 1)) (by omega) (good (by simp [nmC, q3, q4]) _ h0 rfl)
          · by_cases q5 : c = 45
            · simp (maxSteps := 1000000) (disch := omega) only [h0, h7, len_s, hlt, idx_s, ← hc, q1, q2, q3, q4, eq_true q5, add_n, qaaz, qabz, qacz, qadz, qaez, qafz, qagz, qahz, qaiz, qajz, qakz, qalz, qamz, qanz, evOp, qaoz, qapz, qaqz, qarz, qasz, qatz, qauz, qavz,
 ↓reduceIte, Nat.reduceEqDiff, List.nil_append, List.cons_append, List.append_nil, List.map_cons, List.map_nil, qawz, qaxz, qayz, Option.map_some, Option.map_none, qazz, qbaz, qbbz, qbcz, qbdz, qbez, qbfz, qbgz, qbhz, qbiz, qbjz, qbkz, qblz, qbmz, qbnz, qboz,
 qbpz, qbqz, qbrz, qbsz, qbtz, qbuz, qbvz, qbwz, qbxz, qbyz, qbzz, qcaz, qcbz, qccz, qcdz, qcez, qcfz, qcgz, qchz, qciz, beq_true, beq_false, Bool.not_eq_true', decide_eq_true_eq, decide_eq_false_iff_not, decide_true, decide_false,
 Int.toNat_natCast, Int.ofNat_lt, Int.ofNat_le, Int.natCast_inj, Bool.false_eq_true, Bool.true_eq_false, qcjz, List.getElem?_cons_zero, List.getElem?_cons_succ, qckz, Int.reduceToNat, Int.reduceLE, true_and, and_true, reduceCtorEq, or_false, false_or, or_true, Option.some.injEq, exists_eq_left', Bool.not_true, Bool.not_false, ne_eq, Int.reduceEq, not_true_eq_false, not_false_eq_true, Int.reduceLT, UInt8.reduceLT, UInt8.reduceLE, UInt8.reduceToNat]
              exact loopQ_intro (m := l.length - (i + 1)) (by omega) (good (by simp [nmC, q5]) _ h0 rfl)
            · simp (maxSteps := 1000000) (disch := omega) only [h0, h7, len_s, hlt, idx_s, ← hc, q1, q2, q3, q4, q5, qaaz, qabz, qacz, qadz, qaez, qafz, qagz, qahz, qaiz, qajz, qakz, qalz, qamz, qanz, evOp, qaoz, qapz, qaqz, qarz, qasz, qatz, qauz, qavz,
 ↓reduceIte, Nat.reduceEqDiff, List.nil_append, List.cons_append, List.append_nil, List.map_cons, List.map_nil, qawz, qaxz, qayz, Option.map_some, Option.map_none, qazz, qbaz, qbbz, qbcz, qbdz, qbez, qbfz, qbgz, qbhz, qbiz, qbjz, qbkz, qblz, qbmz, qbnz, qboz,
 qbpz, qbqz, qbrz, qbsz, qbtz, qbuz, qbvz, qbwz, qbxz, qbyz, qbzz, qcaz, qcbz, qccz, qcdz, qcez, qcfz, qcgz, qchz, qciz, beq_true, beq_false, Bool.not_eq_true', decide_eq_true_eq, decide_eq_false_iff_not, decide_true, decide_false,
 Int.toNat_natCast, Int.ofNat_lt, Int.ofNat_le, Int.natCast_inj, Bool.false_eq_true, Bool.true_eq_false, qcjz, List.getElem?_cons_zero, List.getElem?_cons_succ, qckz, Int.reduceToNat, Int.reduceLE, true_and, and_true, reduceCtorEq, or_false, false_or, or_true, Option.some.injEq, exists_eq_left', Bool.not_true, Bool.not_false, ne_eq, Int.reduceEq, not_true_eq_false, not_false_eq_true, Int.reduceLT, UInt8.reduceLT, UInt8.reduceLE, UInt8.reduceToNat]
              exact bad (by simp [nmC, q2, q4, q5]) _ rfl
        · by_cases q5 : c = 45
          · simp (maxSteps := 1000000) (disch := omega) only [h0, h7, len_s, hlt, idx_s, ← hc, q1, q2, q3, eq_true q5, add_n, qaaz, qabz, qacz, qadz, qaez, qafz, qagz, qahz, qaiz, qajz, qakz, qalz, qamz, qanz, evOp, qaoz, qapz, qaqz, qarz, qasz, qatz, qauz, qavz,
 ↓reduceIte, Nat.reduceEqDiff, List.nil_append, List.cons_append, List.append_nil, List.map_cons, List.map_nil, qawz, qaxz, qayz, Option.map_some, Option.map_none, qazz, qbaz, qbbz, qbcz, qbdz, qbez, qbfz, qbgz, qbhz, qbiz, qbjz, qbkz, qblz, qbmz, qbnz, qboz,
 qbpz, qbqz, qbrz, qbsz, qbtz, qbuz, qbvz, qbwz, qbxz, qbyz, qbzz, qcaz, qcbz, qccz, qcdz, qcez, qcfz, qcgz, qchz, qciz, beq_true, beq_false, Bool.not_eq_true', decide_eq_true_eq, decide_eq_false_iff_not, decide_true, decide_false,
 Int.toNat_natCast, Int.ofNat_lt, Int.ofNat_le, Int.natCast_inj, Bool.false_eq_true, Bool.true_eq_false, qcjz, List.getElem?_cons_zero, List.getElem?_cons_succ, qckz, Int.reduceToNat, Int.reduceLE, true_and, and_true, reduceCtorEq, or_false, false_or, or_true, Option.some.injEq, exists_eq_left', Bool.not_true, Bool.not_false, ne_eq, Int.reduceEq, not_true_eq_false, not_false_eq_true, Int.reduceLT, UInt8.reduceLT, UInt8.reduceLE, UInt8.reduceToNat]
            exact loopQ_intro (m := l.length - (i + 1)) (by omega) (good (by simp [nmC, q5]) _ h0 rfl)
          · simp (maxSteps := 1000000) (disch := omega) only [h0, h7, len_s, hlt, idx_s, ← hc, q1, q2, q3, q5, qaaz, qabz, qacz, qadz, qaez, qafz, qagz, qahz, qaiz, qajz, qakz, qalz, qamz, qanz, evOp, qaoz, qapz, qaqz, qarz, qasz, qatz, qauz, qavz,
 ↓reduceIte, Nat.reduceEqDiff, List.nil_append, List.cons_append, List.append_nil, List.map_cons, List.map_nil, qawz, qaxz, qayz, Option.map_some, Option.map_none, qazz, qbaz, qbbz, qbcz, qbdz, qbez, qbfz, qbgz, qbhz, qbiz, qbjz, qbkz, qblz, qbmz, qbnz, qboz,
 qbpz, qbqz, qbrz, qbsz, qbtz, qbuz, qbvz, qbwz, qbxz, qbyz, qbzz, qcaz, qcbz, qccz, qcdz, qcez, qcfz, qcgz, qchz, qciz, beq_true, beq_false, Bool.not_eq_true', decide_eq_true_eq, decide_eq_false_iff_not, decide_true, decide_false,
 Int.toNat_natCast, Int.ofNat_lt, Int.ofNat_le, Int.natCast_inj, Bool.false_eq_true, Bool.true_eq_false, qcjz, List.getElem?_cons_zero, List.getElem?_cons_succ, qckz, Int.reduceToNat, Int.reduceLE, true_and, and_true, reduceCtorEq, or_false, false_or, or_true, Option.some.injEq, exists_eq_left', Bool.not_true, Bool.not_false, ne_eq, Int.reduceEq, not_true_eq_false, not_false_eq_true, Int.reduceLT, UInt8.reduceLT, UInt8.reduceLE, UInt8.reduceToNat]
            exact bad (by simp [nmC, q2, q3, q5]) _ rfl
    · by_cases q3 : 48 ≤ c
      · by_cases q4 : c ≤ 57
        · simp (maxSteps := 1000000) (disch := omega) only [h0, h7, len_s, hlt, idx_s, ← hc, q1, q3, q4, add_n, qaaz, qabz, qacz, qadz, qaez, qafz, qagz, qahz, qaiz, qajz, qakz, qalz, qamz, qanz, evOp, qaoz, qapz, qaqz, qarz, qasz, qatz, qauz, qavz,
 ↓reduceIte, Nat.reduceEqDiff, List.nil_append, List.cons_append, List.append_nil, List.map_cons, List.map_nil, qawz, qaxz, qayz, Option.map_some, Option.map_none, qazz, qbaz, qbbz, qbcz, qbdz, qbez, qbfz, qbgz, qbhz, qbiz, qbjz, qbkz, qblz, qbmz, qbnz, qboz,
 qbpz, qbqz, qbrz, qbsz, qbtz, qbuz, qbvz, qbwz, qbxz, qbyz, qbzz, qcaz, qcbz, qccz, qcdz, qcez, qcfz, qcgz, qchz, qciz, beq_true, beq_false, Bool.not_eq_true', decide_eq_true_eq, decide_eq_false_iff_not, decide_true, decide_false,
 Int.toNat_natCast, Int.ofNat_lt, Int.ofNat_le, Int.natCast_inj, Bool.false_eq_true, Bool.true_eq_false, qcjz, List.getElem?_cons_zero, List.getElem?_cons_succ, qckz, Int.reduceToNat, Int.reduceLE, true_and, and_true, reduceCtorEq, or_false, false_or, or_true, Option.some.injEq, exists_eq_left', Bool.not_true, Bool.not_false, ne_eq, Int.reduceEq, not_true_eq_false, not_false_eq_true, Int.reduceLT, UInt8.reduceLT, UInt8.reduceLE, UInt8.reduceToNat]
          exact loopQ_intro (m := l.length - (i + 1)) (by omega) (good (by simp [nmC, q3, q4]) _ h0 rfl)
        · by_cases q5 : c = 45
          · simp (maxSteps := 1000000) (disch := omega) only [h0, h7, len_s, hlt, idx_s, ← hc, q1, q3, q4, eq_true q5, add_n, qaaz, qabz, qacz, qadz, qaez, qafz, qagz, qahz, qaiz, qajz, qakz, qalz, qamz, qanz, evOp, qaoz, qapz, qaqz, qarz, qasz, qatz, qauz, qavz,
 ↓reduceIte, Nat.reduceEqDiff, List.nil_append, List.cons_append, List.append_nil, List.map_cons, List.map_nil, qawz, qaxz, qayz, Option.map_some, Option.map_none, qazz, qbaz, qbbz, qbcz, qbdz, qbez, qbfz, qbgz, qbhz, qbiz, qbjz, qbkz, qblz, qbmz, qbnz, qboz,
 qbpz, qbqz, qbrz, qbsz, qbtz, qbuz, qbvz, qbwz, qbxz, qbyz, qbzz, qcaz, qcbz, qccz, qcdz, qcez, qcfz, qcgz, qchz, qciz, beq_true, beq_false, Bool.not_eq_true', decide_eq_true_eq, decide_eq_false_iff_not, decide_true, decide_false,
 Int.toNat_natCast, Int.ofNat_lt, Int.ofNat_le, Int.natCast_inj, Bool.false_eq_true, Bool.true_eq_false, qcjz, List.getElem?_cons_zero, List.getElem?_cons_succ, qckz, Int.reduceToNat, Int.reduceLE, true_and, and_true, reduceCtorEq, or_false, false_or, or_true, Option.some.injEq, exists_eq_left', Bool.not_true, Bool.not_false, ne_eq, Int.reduceEq, not_true_eq_false, not_false_eq_true, Int.reduceLT, UInt8.reduceLT, UInt8.reduceLE, UInt8.reduceToNat]
            exact loopQ_intro (m := l.length - (i + 1)) (by omega) (good (by simp [nmC, q5]) _ h0 rfl)
          · simp (maxSteps := 1000000) (disch := omega) only [h0, h7, len_s, hlt, idx_s, ← hc, q1, q3, q4, q5, qaaz, qabz, qacz, qadz, qaez, qafz, qagz, qahz, qaiz, qajz, qakz, qalz, qamz, qanz, evOp, qaoz, qapz, qaqz, qarz, qasz, qatz, qauz, qavz,
 ↓reduceIte, Nat.reduceEqDiff, List.nil_append, List.cons_append, List.append_nil, List.map_cons, List.map_nil, qawz, qaxz, qayz, Option.map_some, Option.map_none, qazz, qbaz, qbbz, qbcz, qbdz, qbez, qbfz, qbgz, qbhz, qbiz, qbjz, qbkz, qblz, qbmz, qbnz, qboz,
 qbpz, qbqz, qbrz, qbsz, qbtz, qbuz, qbvz, qbwz, qbxz, qbyz, qbzz, qcaz, qcbz, qccz, qcdz, qcez, qcfz, qcgz, qchz, qciz, beq_true, beq_false, Bool.not_eq_true', decide_eq_true_eq, decide_eq_false_iff_not, decide_true, decide_false,
 Int.toNat_natCast, Int.ofNat_lt, Int.ofNat_le, Int.natCast_inj, Bool.false_eq_true, Bool.true_eq_false, qcjz, List.getElem?_cons_zero, List.getElem?_cons_succ, qckz, Int.reduceToNat, Int.reduceLE, true_and, and_true, reduceCtorEq, or_false, false_or, or_true, Option.some.injEq, exists_eq_left', Bool.not_true, Bool.not_false, ne_eq, Int.reduceEq, not_true_eq_false, not_false_eq_true, Int.reduceLT, UInt8.reduceLT, UInt8.reduceLE, UInt8.reduceToNat]
            exact bad (by simp [nmC, q1, q4, q5]) _ rfl
      · by_cases q5 : c = 45
        · simp (maxSteps := 1000000) (disch := omega) only [h0, h7, len_s, hlt, idx_s, ← hc, q1, q3, eq_true q5, add_n, qaaz, qabz, qacz, qadz, qaez, qafz, qagz, qahz, qaiz, qajz, qakz, qalz, qamz, qanz, evOp, qaoz, qapz, qaqz, qarz, qasz, qatz, qauz, qavz,
 ↓reduceIte, Nat.reduceEqDiff, List.nil_append, List.cons_append, List.append_nil, List.map_cons, List.map_nil, qawz, qaxz, qayz, Option.map_some, Option.map_none, qazz, qbaz, qbbz, qbcz, qbdz, qbez, qbfz, qbgz, qbhz, qbiz, qbjz, qbkz, qblz, qbmz, qbnz, qboz,
 qbpz, qbqz, qbrz, qbsz, qbtz, qbuz, qbvz, qbwz, qbxz, qbyz, qbzz, qcaz, qcbz, qccz, qcdz, qcez, qcfz, qcgz, qchz, qciz, beq_true, beq_false, Bool.not_eq_true', decide_eq_true_eq, decide_eq_false_iff_not, decide_true, decide_false,
 Int.toNat_natCast, Int.ofNat_lt, Int.ofNat_le, Int.natCast_inj, Bool.false_eq_true, Bool.true_eq_false, qcjz, List.getElem?_cons_zero, List.getElem?_cons_succ, qckz, Int.reduceToNat, Int.reduceLE, true_and, and_true, reduceCtorEq, or_false, false_or, or_true, Option.some.injEq, exists_eq_left', Bool.not_true, Bool.not_false, ne_eq, Int.reduceEq, not_true_eq_false, not_false_eq_true, Int.reduceLT, UInt8.reduceLT, UInt8.reduceLE, UInt8.reduceToNat]
          exact loopQ_intro (m := l.length - (i + 1)) (by omega) (good (by simp [nmC, q5]) _ h0 rfl)
        · simp (maxSteps := 1000000) (disch := omega) only [h0, h7, len_s, hlt, idx_s, ← hc, q1, q3, q5, qaaz, qabz, qacz, qadz, qaez, qafz, qagz, qahz, qaiz, qajz, qakz, qalz, qamz, qanz, evOp, qaoz, qapz, qaqz, qarz, qasz, qatz, qauz, qavz,
 ↓reduceIte, Nat.reduceEqDiff, List.nil_append, List.cons_append, List.append_nil, List.map_cons, List.map_nil, qawz, qaxz, qayz, Option.map_some, Option.map_none, qazz, qbaz, qbbz, qbcz, qbdz, qbez, qbfz, qbgz, qbhz, qbiz, qbjz, qbkz, qblz, qbmz, qbnz, qboz,
 qbpz, qbqz, qbrz, qbsz, qbtz, qbuz, qbvz, qbwz, qbxz, qbyz, qbzz, qcaz, qcbz, qccz, qcdz, qcez, qcfz, qcgz, qchz, qciz, beq_true, beq_false, Bool.not_eq_true', decide_eq_true_eq, decide_eq_false_iff_not, decide_true, decide_false,
 Int.toNat_natCast, Int.ofNat_lt, Int.ofNat_le, Int.natCast_inj, Bool.false_eq_true, Bool.true_eq_false, qcjz, List.getElem?_cons_zero, List.getElem?_cons_succ, qckz, Int.reduceToNat, Int.reduceLE, true_and, and_true, reduceCtorEq, or_false, false_or, or_true, Option.some.injEq, exists_eq_left', Bool.not_true, Bool.not_false, ne_eq, Int.reduceEq, not_true_eq_false, not_false_eq_true, Int.reduceLT, UInt8.reduceLT, UInt8.reduceLE, UInt8.reduceToNat]
          exact bad (by simp [nmC, q1, q3, q5]) _ rfl
  · obtain rfl : i = l.length := by omega
    have ha := all_getD (p := nmC) hall
    by_cases g1 : 1 ≤ l.length
    · have e1 : (1 : Int) ≤ (l.length : Int) := by omega
      by_cases g2 : l.length ≤ 64
      · have e2 : (l.length : Int) ≤ 64 := by omega
        simp (maxSteps := 1000000) (disch := omega) only [h0, h7, hlt, len_s, e1, e2, qaaz, qabz, qacz, qadz, qaez, qafz, qagz, qahz, qaiz, qajz, qakz, qalz, qamz, qanz, evOp, qaoz, qapz, qaqz, qarz, qasz, qatz, qauz, qavz,
 ↓reduceIte, Nat.reduceEqDiff, List.nil_append, List.cons_append, List.append_nil, List.map_cons, List.map_nil, qawz, qaxz, qayz, Option.map_some, Option.map_none, qazz, qbaz, qbbz, qbcz, qbdz, qbez, qbfz, qbgz, qbhz, qbiz, qbjz, qbkz, qblz, qbmz, qbnz, qboz,
 qbpz, qbqz, qbrz, qbsz, qbtz, qbuz, qbvz, qbwz, qbxz, qbyz, qbzz, qcaz, qcbz, qccz, qcdz, qcez, qcfz, qcgz, qchz, qciz, beq_true, beq_false, Bool.not_eq_true', decide_eq_true_eq, decide_eq_false_iff_not, decide_true, decide_false,
 Int.toNat_natCast, Int.ofNat_lt, Int.ofNat_le, Int.natCast_inj, Bool.false_eq_true, Bool.true_eq_false, qcjz, List.getElem?_cons_zero, List.getElem?_cons_succ, qckz, Int.reduceToNat, Int.reduceLE, true_and, and_true, reduceCtorEq, or_false, false_or, or_true, Option.some.injEq, exists_eq_left', Bool.not_true, Bool.not_false, ne_eq, Int.reduceEq, not_true_eq_false, not_false_eq_true, Int.reduceLT, UInt8.reduceLT, UInt8.reduceLE, UInt8.reduceToNat]
        exact ⟨.bool true, rfl, by rw [show nmB l = true by simp only [nmB, ha, Bool.and_true, Bool.and_eq_true, decide_eq_true_eq]; omega]; exact hk.leave rfl (fun _ _ => rfl)⟩
      · have e2 : ¬ (l.length : Int) ≤ 64 := by omega
        simp (maxSteps := 1000000) (disch := omega) only [h0, h7, hlt, len_s, e1, e2, qaaz, qabz, qacz, qadz, qaez, qafz, qagz, qahz, qaiz, qajz, qakz, qalz, qamz, qanz, evOp, qaoz, qapz, qaqz, qarz, qasz, qatz, qauz, qavz,
 ↓reduceIte, Nat.reduceEqDiff, List.nil_append, List.cons_append, List.append_nil, List.map_cons, List.map_nil, qawz, qaxz, qayz, Option.map_some, Option.map_none, qazz, qbaz, qbbz, qbcz, qbdz, qbez, qbfz, qbgz, qbhz, qbiz, qbjz, qbkz, qblz, qbmz, qbnz, qboz,
 qbpz, qbqz, qbrz, qbsz, qbtz, qbuz, qbvz, qbwz, qbxz, qbyz, qbzz, qcaz, qcbz, qccz, qcdz, qcez, qcfz, qcgz, qchz, qciz, beq_true, beq_false, Bool.not_eq_true', decide_eq_true_eq, decide_eq_false_iff_not, decide_true, decide_false,
 Int.toNat_natCast, Int.ofNat_lt, Int.ofNat_le, Int.natCast_inj, Bool.false_eq_true, Bool.true_eq_false, qcjz, List.getElem?_cons_zero, List.getElem?_cons_succ, qckz, Int.reduceToNat, Int.reduceLE, true_and, and_true, reduceCtorEq, or_false, false_or, or_true, Option.some.injEq, exists_eq_left', Bool.not_true, Bool.not_false, ne_eq, Int.reduceEq, not_true_eq_false, not_false_eq_true, Int.reduceLT, UInt8.reduceLT, UInt8.reduceLE, UInt8.reduceToNat]
        exact ⟨.bool false, rfl, by rw [show nmB l = false by simp [nmB, g2]]; exact hk.leave rfl (fun _ _ => rfl)⟩
    · have e1 : ¬ (1 : Int) ≤ (l.length : Int) := by omega
      simp (maxSteps := 1000000) (disch := omega) only [h0, h7, hlt, len_s, e1, qaaz, qabz, qacz, qadz, qaez, qafz, qagz, qahz, qaiz, qajz, qakz, qalz, qamz, qanz, evOp, qaoz, qapz, qaqz, qarz, qasz, qatz, qauz, qavz,
 ↓reduceIte, Nat.reduceEqDiff, List.nil_append, List.cons_append, List.append_nil, List.map_cons, List.map_nil, qawz, qaxz, qayz, Option.map_some, Option.map_none, qazz, qbaz, qbbz, qbcz, qbdz, qbez, qbfz, qbgz, qbhz, qbiz, qbjz, qbkz, qblz, qbmz, qbnz, qboz,
 qbpz, qbqz, qbrz, qbsz, qbtz, qbuz, qbvz, qbwz, qbxz, qbyz, qbzz, qcaz, qcbz, qccz, qcdz, qcez, qcfz, qcgz, qchz, qciz, beq_true, beq_false, Bool.not_eq_true', decide_eq_true_eq, decide_eq_false_iff_not, decide_true, decide_false,
 Int.toNat_natCast, Int.ofNat_lt, Int.ofNat_le, Int.natCast_inj, Bool.false_eq_true, Bool.true_eq_false, qcjz, List.getElem?_cons_zero, List.getElem?_cons_succ, qckz, Int.reduceToNat, Int.reduceLE, true_and, and_true, reduceCtorEq, or_false, false_or, or_true, Option.some.injEq, exists_eq_left', Bool.not_true, Bool.not_false, ne_eq, Int.reduceEq, not_true_eq_false, not_false_eq_true, Int.reduceLT, UInt8.reduceLT, UInt8.reduceLE, UInt8.reduceToNat]
      exact ⟨.bool false, rfl, by rw [show nmB l = false by simp [nmB]; omega]; exact hk.leave rfl (fun _ _ => rfl)⟩

theorem sText_spec {l : List UInt8} {m : Nat} (hl : l.length ≤ 1000000) : call prog (.fn 65 []) [.str l, .int .i64 (m : Int)] st = some (.bool (txB l && decide (l.length ≤ m)), st) := by
  refine call_of_W prog_65 ?_
  unfold F_sheet_isText; dsimp only
  simp (maxSteps := 1000000) (disch := omega) only [len_s, qaaz, qabz, qacz, qadz, qaez, qafz, qagz, qahz, qaiz, qajz, qakz, qalz, qamz, qanz, evOp, qaoz, qapz, qaqz, qarz, qasz, qatz, qauz, qavz,
 ↓reduceIte, Nat.reduceEqDiff, List.nil_append, List.cons_append, List.append_nil, List.map_cons, List.map_nil, qawz, qaxz, qayz, Option.map_some, Option.map_none, qazz, qbaz, qbbz, qbcz, qbdz, qbez, qbfz, qbgz, qbhz, qbiz, qbjz, qbkz, qblz, qbmz, qbnz, qboz,
 qbpz, qbqz, qbrz, qbsz, qbtz, qbuz, qbvz, qbwz, qbxz, qbyz, qbzz, qcaz, qcbz, qccz, qcdz, qcez, qcfz, qcgz, qchz, qciz, beq_true, beq_false, Bool.not_eq_true', decide_eq_true_eq, decide_eq_false_iff_not, decide_true, decide_false,
 Int.toNat_natCast, Int.ofNat_lt, Int.ofNat_le, Int.natCast_inj, Bool.false_eq_true, Bool.true_eq_false, qcjz, List.getElem?_cons_zero, List.getElem?_cons_succ, qckz, Int.reduceToNat, Int.reduceLE, true_and, and_true, reduceCtorEq, or_false, false_or, or_true, Option.some.injEq, exists_eq_left', Bool.not_true, Bool.not_false, ne_eq, Int.reduceEq, not_true_eq_false, not_false_eq_true, Int.reduceLT, UInt8.reduceLT, UInt8.reduceLE, UInt8.reduceToNat]
  obtain ⟨I, hI⟩ : ∃ I : Nat → Env → St → Prop, I = fun k e s' => ∃ (i : Nat), k = l.length - i ∧ i ≤ l.length ∧ Kept st s' ∧ (∀ j, j < i → txC (l.getD j 0) = true) ∧ e 0 = .str l ∧ e 1 = .int .i64 (m : Int) ∧ e 7 = .int .i64 (l.length : Int) ∧ e 8 = .int .i64 (i : Int) := ⟨_, rfl⟩
  refine W_loop I ?_ (n := l.length) (by
    rw [hI]
    exact ⟨0, rfl, by omega, Kept.start, fun j h => by omega, rfl, rfl, rfl, rfl⟩)
  intro k e s' hh
  rw [hI] at hh
  obtain ⟨i, rfl, hi, hk, hall, h0, h1, h7, h8⟩ := hh
  by_cases hlt : i < l.length
  · obtain ⟨c, hc⟩ : ∃ c, c = l.getD i 0 := ⟨_, rfl⟩
    have bad : txC c = false → ∀ E : Env, E 4 = .bool false → ∃ rv, resOf E s' [.tmp 4] = some rv ∧ leave st s' rv = (.bool (txB l && decide (l.length ≤ m)), st) := fun h E k2 =>
      ⟨.bool false, by simp [resOf, rvAll, rv1, k2, notTup, packRes], by
        rw [show txB l = false by simp only [txB, all_bad (p := txC) hlt (by rw [← hc]; exact h), Bool.false_and], Bool.false_and]
        exact hk.leave rfl (fun _ _ => rfl)⟩
    have good : txC c = true → ∀ E : Env, E 0 = .str l → E 1 = .int .i64 (m : Int) → E 7 = .int .i64 (l.length : Int) → E 8 = .int .i64 ((i + 1 : Nat) : Int) → I (l.length - (i + 1)) E s' := fun h E k0 k1 k7 k8 => by
      rw [hI]
      refine ⟨i + 1, rfl, by omega, hk, fun j hj => ?_, k0, k1, k7, k8⟩
      by_cases hji : j = i
      · subst hji; rw [← hc]; exact h
      · exact hall j (by omega)
    by_cases q1 : c < 32
    · by_cases q2 : c = 9
      · have q3 : ¬ c = 127 := by rintro rfl; exact absurd q1 (by decide)
        simp (maxSteps := 1000000) (disch := omega) only [h0, h1, h7, h8, hlt, idx_s, ← hc, eq_true q1, eq_true q2, q3, add_n, qaaz, qabz, qacz, qadz, qaez, qafz, qagz, qahz, qaiz, qajz, qakz, qalz, qamz, qanz, evOp, qaoz, qapz, qaqz, qarz, qasz, qatz, qauz, qavz,
 ↓reduceIte, Nat.reduceEqDiff, List.nil_append, List.cons_append, List.append_nil, List.map_cons, List.map_nil, qawz, qaxz, qayz, Option.map_some, Option.map_none, qazz, qbaz, qbbz, qbcz, qbdz, qbez, qbfz, qbgz, qbhz, qbiz, qbjz, qbkz, qblz, qbmz, qbnz, qboz,
 qbpz, qbqz, qbrz, qbsz, qbtz, qbuz, qbvz, qbwz, qbxz, qbyz, qbzz, qcaz, qcbz, qccz, qcdz, qcez, qcfz, qcgz, qchz, qciz, beq_true, beq_false, Bool.not_eq_true', decide_eq_true_eq, decide_eq_false_iff_not, decide_true, decide_false,
 Int.toNat_natCast, Int.ofNat_lt, Int.ofNat_le, Int.natCast_inj, Bool.false_eq_true, Bool.true_eq_false, qcjz, List.getElem?_cons_zero, List.getElem?_cons_succ, qckz, Int.reduceToNat, Int.reduceLE, true_and, and_true, reduceCtorEq, or_false, false_or, or_true, Option.some.injEq, exists_eq_left', Bool.not_true, Bool.not_false, ne_eq, Int.reduceEq, not_true_eq_false, not_false_eq_true, Int.reduceLT, UInt8.reduceLT, UInt8.reduceLE, UInt8.reduceToNat]
        exact loopQ_intro (m := l.length - (i + 1)) (by omega) (good (by simp [txC, q2]) _ h0 h1 h7 rfl)
      · simp (maxSteps := 1000000) (disch := omega) only [h0, h1, h7, h8, hlt, idx_s, ← hc, eq_true q1, q2, qaaz, qabz, qacz, qadz, qaez, qafz, qagz, qahz, qaiz, qajz, qakz, qalz, qamz, qanz, evOp, qaoz, qapz, qaqz, qarz, qasz, qatz, qauz, qavz,
 ↓reduceIte, Nat.reduceEqDiff, List.nil_append, List.cons_append, List.append_nil, List.map_cons, List.map_nil, qawz, qaxz, qayz, Option.map_some, Option.map_none, qazz, qbaz, qbbz, qbcz, qbdz, qbez, qbfz, qbgz, qbhz, qbiz, qbjz, qbkz, qblz, qbmz, qbnz, qboz,
 qbpz, qbqz, qbrz, qbsz, qbtz, qbuz, qbvz, qbwz, qbxz, qbyz, qbzz, qcaz, qcbz, qccz, qcdz, qcez, qcfz, qcgz, qchz, qciz, beq_true, beq_false, Bool.not_eq_true', decide_eq_true_eq, decide_eq_false_iff_not, decide_true, decide_false,
 Int.toNat_natCast, Int.ofNat_lt, Int.ofNat_le, Int.natCast_inj, Bool.false_eq_true, Bool.true_eq_false, qcjz, List.getElem?_cons_zero, List.getElem?_cons_succ, qckz, Int.reduceToNat, Int.reduceLE, true_and, and_true, reduceCtorEq, or_false, false_or, or_true, Option.some.injEq, exists_eq_left', Bool.not_true, Bool.not_false, ne_eq, Int.reduceEq, not_true_eq_false, not_false_eq_true, Int.reduceLT, UInt8.reduceLT, UInt8.reduceLE, UInt8.reduceToNat]
        exact bad (by simp [txC, q1, q2]) _ rfl
    · by_cases q3 : c = 127
      · simp (maxSteps := 1000000) (disch := omega) only [h0, h1, h7, h8, hlt, idx_s, ← hc, q1, eq_true q3, qaaz, qabz, qacz, qadz, qaez, qafz, qagz, qahz, qaiz, qajz, qakz, qalz, qamz, qanz, evOp, qaoz, qapz, qaqz, qarz, qasz, qatz, qauz, qavz,
 ↓reduceIte, Nat.reduceEqDiff, List.nil_append, List.cons_append, List.append_nil, List.map_cons, List.map_nil, qawz, qaxz, qayz, Option.map_some, Option.map_none, qazz, qbaz, qbbz, qbcz, qbdz, qbez, qbfz, qbgz, qbhz, qbiz, qbjz, qbkz, qblz, qbmz, qbnz, qboz,
 qbpz, qbqz, qbrz, qbsz, qbtz, qbuz, qbvz, qbwz, qbxz, qbyz, qbzz, qcaz, qcbz, qccz, qcdz, qcez, qcfz, qcgz, qchz, qciz, beq_true, beq_false, Bool.not_eq_true', decide_eq_true_eq, decide_eq_false_iff_not, decide_true, decide_false,
 Int.toNat_natCast, Int.ofNat_lt, Int.ofNat_le, Int.natCast_inj, Bool.false_eq_true, Bool.true_eq_false, qcjz, List.getElem?_cons_zero, List.getElem?_cons_succ, qckz, Int.reduceToNat, Int.reduceLE, true_and, and_true, reduceCtorEq, or_false, false_or, or_true, Option.some.injEq, exists_eq_left', Bool.not_true, Bool.not_false, ne_eq, Int.reduceEq, not_true_eq_false, not_false_eq_true, Int.reduceLT, UInt8.reduceLT, UInt8.reduceLE, UInt8.reduceToNat]
        exact bad (by simp [txC, q3]) _ rfl
      · simp (maxSteps := 1000000) (disch := omega) only [h0, h1, h7, h8, hlt, idx_s, ← hc, q1, q3, add_n, qaaz, qabz, qacz, qadz, qaez, qafz, qagz, qahz, qaiz, qajz, qakz, qalz, qamz, qanz, evOp, qaoz, qapz, qaqz, qarz, qasz, qatz, qauz, qavz,
 ↓reduceIte, Nat.reduceEqDiff, List.nil_append, List.cons_append, List.append_nil, List.map_cons, List.map_nil, qawz, qaxz, qayz, Option.map_some, Option.map_none, qazz, qbaz, qbbz, qbcz, qbdz, qbez, qbfz, qbgz, qbhz, qbiz, qbjz, qbkz, qblz, qbmz, qbnz, qboz,
 qbpz, qbqz, qbrz, qbsz, qbtz, qbuz, qbvz, qbwz, qbxz, qbyz, qbzz, qcaz, qcbz, qccz, qcdz, qcez, qcfz, qcgz, qchz, qciz, beq_true, beq_false, Bool.not_eq_true', decide_eq_true_eq, decide_eq_false_iff_not, decide_true, decide_false,
 Int.toNat_natCast, Int.ofNat_lt, Int.ofNat_le, Int.natCast_inj, Bool.false_eq_true, Bool.true_eq_false, qcjz, List.getElem?_cons_zero, List.getElem?_cons_succ, qckz, Int.reduceToNat, Int.reduceLE, true_and, and_true, reduceCtorEq, or_false, false_or, or_true, Option.some.injEq, exists_eq_left', Bool.not_true, Bool.not_false, ne_eq, Int.reduceEq, not_true_eq_false, not_false_eq_true, Int.reduceLT, UInt8.reduceLT, UInt8.reduceLE, UInt8.reduceToNat]
        exact loopQ_intro (m := l.length - (i + 1)) (by omega) (good (by simp [txC, q1, q3]) _ h0 h1 h7 rfl)
  · obtain rfl : i = l.length := by omega
    have ha := all_getD (p := txC) hall
    by_cases g1 : l.length ≤ m
    · have hv := uValid_spec (st := s'.tok1) (x := .bys (.own s'.toks.length) l) (l := l) rfl (by omega)
      simp (maxSteps := 1000000) (disch := omega) only [h0, h1, h7, h8, hlt, len_s, g1, freshT_eq, hv, qaaz, qabz, qacz, qadz, qaez, qafz, qagz, qahz, qaiz, qajz, qakz, qalz, qamz, qanz, evOp, qaoz, qapz, qaqz, qarz, qasz, qatz, qauz, qavz,
 ↓reduceIte, Nat.reduceEqDiff, List.nil_append, List.cons_append, List.append_nil, List.map_cons, List.map_nil, qawz, qaxz, qayz, Option.map_some, Option.map_none, qazz, qbaz, qbbz, qbcz, qbdz, qbez, qbfz, qbgz, qbhz, qbiz, qbjz, qbkz, qblz, qbmz, qbnz, qboz,
 qbpz, qbqz, qbrz, qbsz, qbtz, qbuz, qbvz, qbwz, qbxz, qbyz, qbzz, qcaz, qcbz, qccz, qcdz, qcez, qcfz, qcgz, qchz, qciz, beq_true, beq_false, Bool.not_eq_true', decide_eq_true_eq, decide_eq_false_iff_not, decide_true, decide_false,
 Int.toNat_natCast, Int.ofNat_lt, Int.ofNat_le, Int.natCast_inj, Bool.false_eq_true, Bool.true_eq_false, qcjz, List.getElem?_cons_zero, List.getElem?_cons_succ, qckz, Int.reduceToNat, Int.reduceLE, true_and, and_true, reduceCtorEq, or_false, false_or, or_true, Option.some.injEq, exists_eq_left', Bool.not_true, Bool.not_false, ne_eq, Int.reduceEq, not_true_eq_false, not_false_eq_true, Int.reduceLT, UInt8.reduceLT, UInt8.reduceLE, UInt8.reduceToNat]
      exact ⟨.bool (validOf l), rfl, by rw [show (txB l && true) = validOf l by simp [txB, ha]]; exact hk.tok1.leave rfl (fun _ _ => rfl)⟩
    · simp (maxSteps := 1000000) (disch := omega) only [h0, h1, h7, h8, hlt, len_s, g1, qaaz, qabz, qacz, qadz, qaez, qafz, qagz, qahz, qaiz, qajz, qakz, qalz, qamz, qanz, evOp, qaoz, qapz, qaqz, qarz, qasz, qatz, qauz, qavz,
 ↓reduceIte, Nat.reduceEqDiff, List.nil_append, List.cons_append, List.append_nil, List.map_cons, List.map_nil, qawz, qaxz, qayz, Option.map_some, Option.map_none, qazz, qbaz, qbbz, qbcz, qbdz, qbez, qbfz, qbgz, qbhz, qbiz, qbjz, qbkz, qblz, qbmz, qbnz, qboz,
 qbpz, qbqz, qbrz, qbsz, qbtz, qbuz, qbvz, qbwz, qbxz, qbyz, qbzz, qcaz, qcbz, qccz, qcdz, qcez, qcfz, qcgz, qchz, qciz, beq_true, beq_false, Bool.not_eq_true', decide_eq_true_eq, decide_eq_false_iff_not, decide_true, decide_false,
 Int.toNat_natCast, Int.ofNat_lt, Int.ofNat_le, Int.natCast_inj, Bool.false_eq_true, Bool.true_eq_false, qcjz, List.getElem?_cons_zero, List.getElem?_cons_succ, qckz, Int.reduceToNat, Int.reduceLE, true_and, and_true, reduceCtorEq, or_false, false_or, or_true, Option.some.injEq, exists_eq_left', Bool.not_true, Bool.not_false, ne_eq, Int.reduceEq, not_true_eq_false, not_false_eq_true, Int.reduceLT, UInt8.reduceLT, UInt8.reduceLE, UInt8.reduceToNat]
      exact ⟨.bool false, rfl, by rw [Bool.and_false]; exact hk.leave rfl (fun _ _ => rfl)⟩

theorem rText_spec {l : List UInt8} (hl : l.length ≤ 1000000) : call prog (.fn 68 []) [.str l] st = some (.bool (txB l), st) := by
  refine call_of_W prog_68 ?_
  unfold F_posthornref10_Text; dsimp only
  simp (maxSteps := 1000000) (disch := omega) only [len_s, qaaz, qabz, qacz, qadz, qaez, qafz, qagz, qahz, qaiz, qajz, qakz, qalz, qamz, qanz, evOp, qaoz, qapz, qaqz, qarz, qasz, qatz, qauz, qavz,
 ↓reduceIte, Nat.reduceEqDiff, List.nil_append, List.cons_append, List.append_nil, List.map_cons, List.map_nil, qawz, qaxz, qayz, Option.map_some, Option.map_none, qazz, qbaz, qbbz, qbcz, qbdz, qbez, qbfz, qbgz, qbhz, qbiz, qbjz, qbkz, qblz, qbmz, qbnz, qboz,
 qbpz, qbqz, qbrz, qbsz, qbtz, qbuz, qbvz, qbwz, qbxz, qbyz, qbzz, qcaz, qcbz, qccz, qcdz, qcez, qcfz, qcgz, qchz, qciz, beq_true, beq_false, Bool.not_eq_true', decide_eq_true_eq, decide_eq_false_iff_not, decide_true, decide_false,
 Int.toNat_natCast, Int.ofNat_lt, Int.ofNat_le, Int.natCast_inj, Bool.false_eq_true, Bool.true_eq_false, qcjz, List.getElem?_cons_zero, List.getElem?_cons_succ, qckz, Int.reduceToNat, Int.reduceLE, true_and, and_true, reduceCtorEq, or_false, false_or, or_true, Option.some.injEq, exists_eq_left', Bool.not_true, Bool.not_false, ne_eq, Int.reduceEq, not_true_eq_false, not_false_eq_true, Int.reduceLT, UInt8.reduceLT, UInt8.reduceLE, UInt8.reduceToNat]
  obtain ⟨I, hI⟩ : ∃ I : Nat → Env → St → Prop, I = fun k e s' => ∃ (i : Nat), k = l.length - i ∧ i ≤ l.length ∧ Kept st s' ∧ (∀ j, j < i → txC (l.getD j 0) = true) ∧ e 0 = .str l ∧ e 3 = .int .i64 (i : Int) := ⟨_, rfl⟩
  refine W_loop I ?_ (n := l.length) (by
    rw [hI]
    exact ⟨0, rfl, by omega, Kept.start, fun j h => by omega, rfl, rfl⟩)
  intro k e s' hh
  rw [hI] at hh
  obtain ⟨i, rfl, hi, hk, hall, h0, h3⟩ := hh
  by_cases hlt : i < l.length
  · obtain ⟨c, hc⟩ : ∃ c, c = l.getD i 0 := ⟨_, rfl⟩
    have bad : txC c = false → ∀ E : Env, E 2 = .bool false → ∃ rv, resOf E s' [.tmp 2] = some rv ∧ leave st s' rv = (.bool (txB l), st) := fun h E k2 =>
      ⟨.bool false, by simp [resOf, rvAll, rv1, k2, notTup, packRes], by
        rw [show txB l = false by simp only [txB, all_bad (p := txC) hlt (by rw [← hc]; exact h), Bool.false_and]]
        exact hk.leave rfl (fun _ _ => rfl)⟩
    have good : txC c = true → ∀ E : Env, E 0 = .str l → E 3 = .int .i64 ((i + 1 : Nat) : Int) → I (l.length - (i + 1)) E s' := fun h E k0 k3 => by
      rw [hI]
      refine ⟨i + 1, rfl, by omega, hk, fun j hj => ?_, k0, k3⟩
      by_cases hji : j = i
      · subst hji; rw [← hc]; exact h
      · exact hall j (by omega)
    by_cases q3 : c = 127
    · simp (maxSteps := 1000000) (disch := omega) only [h0, h3, len_s, hlt, idx_s, ← hc, eq_true q3, qaaz, qabz, qacz, qadz, qaez, qafz, qagz, qahz, qaiz, qajz, qakz, qalz, qamz, qanz, evOp, qaoz, qapz, qaqz, qarz, qasz, qatz, qauz, qavz,
 ↓reduceIte, Nat.reduceEqDiff, List.nil_append, List.cons_append, List.append_nil, List.map_cons, List.map_nil, qawz, qaxz, qayz, Option.map_some, Option.map_none, qazz, qbaz, qbbz, qbcz, qbdz, qbez, qbfz, qbgz, qbhz, qbiz, qbjz, qbkz, qblz, qbmz, qbnz, qboz,
 qbpz, qbqz, qbrz, qbsz, qbtz, qbuz, qbvz, qbwz, qbxz, qbyz, qbzz, qcaz, qcbz, qccz, qcdz, qcez, qcfz, qcgz, qchz, qciz, beq_true, beq_false, Bool.not_eq_true', decide_eq_true_eq, decide_eq_false_iff_not, decide_true, decide_false,
 Int.toNat_natCast, Int.ofNat_lt, Int.ofNat_le, Int.natCast_inj, Bool.false_eq_true, Bool.true_eq_false, qcjz, List.getElem?_cons_zero, List.getElem?_cons_succ, qckz, Int.reduceToNat, Int.reduceLE, true_and, and_true, reduceCtorEq, or_false, false_or, or_true, Option.some.injEq, exists_eq_left', Bool.not_true, Bool.not_false, ne_eq, Int.reduceEq, not_true_eq_false, not_false_eq_true, Int.reduceLT, UInt8.reduceLT, UInt8.reduceLE, UInt8.reduceToNat]
      exact bad (by simp [txC, q3]) _ rfl
    by_cases q1 : c < 32
    · by_cases q2 : c = 9
      · simp (maxSteps := 1000000) (disch := omega) only [h0, h3, len_s, hlt, idx_s, ← hc, q3, eq_true q1, eq_true q2, add_n, qaaz, qabz, qacz, qadz, qaez, qafz, qagz, qahz, qaiz, qajz, qakz, qalz, qamz, qanz, evOp, qaoz, qapz, qaqz, qarz, qasz, qatz, qauz, qavz,
 ↓reduceIte, Nat.reduceEqDiff, List.nil_append, List.cons_append, List.append_nil, List.map_cons, List.map_nil, qawz, qaxz, qayz, Option.map_some, Option.map_none, qazz, qbaz, qbbz, qbcz, qbdz, qbez, qbfz, qbgz, qbhz, qbiz, qbjz, qbkz, qblz, qbmz, qbnz, qboz,
 qbpz, qbqz, qbrz, qbsz, qbtz, qbuz, qbvz, qbwz, qbxz, qbyz, qbzz, qcaz, qcbz, qccz, qcdz, qcez, qcfz, qcgz, qchz, qciz, beq_true, beq_false, Bool.not_eq_true', decide_eq_true_eq, decide_eq_false_iff_not, decide_true, decide_false,
 Int.toNat_natCast, Int.ofNat_lt, Int.ofNat_le, Int.natCast_inj, Bool.false_eq_true, Bool.true_eq_false, qcjz, List.getElem?_cons_zero, List.getElem?_cons_succ, qckz, Int.reduceToNat, Int.reduceLE, true_and, and_true, reduceCtorEq, or_false, false_or, or_true, Option.some.injEq, exists_eq_left', Bool.not_true, Bool.not_false, ne_eq, Int.reduceEq, not_true_eq_false, not_false_eq_true, Int.reduceLT, UInt8.reduceLT, UInt8.reduceLE, UInt8.reduceToNat]
        exact loopQ_intro (m := l.length - (i + 1)) (by omega) (good (by simp [txC, q2]) _ h0 rfl)
      · simp (maxSteps := 1000000) (disch := omega) only [h0, h3, len_s, hlt, idx_s, ← hc, q3, eq_true q1, q2, qaaz, qabz, qacz, qadz, qaez, qafz, qagz, qahz, qaiz, qajz, qakz, qalz, qamz, qanz, evOp, qaoz, qapz, qaqz, qarz, qasz, qatz, qauz, qavz,
 ↓reduceIte, Nat.reduceEqDiff, List.nil_append, List.cons_append, List.append_nil, List.map_cons, List.map_nil, qawz, qaxz, qayz, Option.map_some, Option.map_none, qazz, qbaz, qbbz, qbcz, qbdz, qbez, qbfz, qbgz, qbhz, qbiz, qbjz, qbkz, qblz, qbmz, qbnz, qboz,
 qbpz, qbqz, qbrz, qbsz, qbtz, qbuz, qbvz, qbwz, qbxz, qbyz, qbzz, qcaz, qcbz, qccz, qcdz, qcez, qcfz, qcgz, qchz, qciz, beq_true, beq_false, Bool.not_eq_true', decide_eq_true_eq, decide_eq_false_iff_not, decide_true, decide_false,
 Int.toNat_natCast, Int.ofNat_lt, Int.ofNat_le, Int.natCast_inj, Bool.false_eq_true, Bool.true_eq_false, qcjz, List.getElem?_cons_zero, List.getElem?_cons_succ, qckz, Int.reduceToNat, Int.reduceLE, true_and, and_true, reduceCtorEq, or_false, false_or, or_true, Option.some.injEq, exists_eq_left', Bool.not_true, Bool.not_false, ne_eq, Int.reduceEq, not_true_eq_false, not_false_eq_true, Int.reduceLT, UInt8.reduceLT, UInt8.reduceLE, UInt8.reduceToNat]
        exact bad (by simp [txC, q1, q2]) _ rfl
    · simp (maxSteps := 1000000) (disch := omega) only [h0, h3, len_s, hlt, idx_s, ← hc, q1, q3, add_n, qaaz, qabz, qacz, qadz, qaez, qafz, qagz, qahz, qaiz, qajz, qakz, qalz, qamz, qanz, evOp, qaoz, qapz, qaqz, qarz, qasz, qatz, qauz, qavz,
 ↓reduceIte, Nat.reduceEqDiff, List.nil_append, List.cons_append, List.append_nil, List.map_cons, List.map_nil, qawz, qaxz, qayz, Option.map_some, Option.map_none, qazz, qbaz, qbbz, qbcz, qbdz, qbez, qbfz, qbgz, qbhz, qbiz, qbjz, qbkz, qblz, qbmz, qbnz, qboz,
 qbpz, qbqz, qbrz, qbsz, qbtz, qbuz, qbvz, qbwz, qbxz, qbyz, qbzz, qcaz, qcbz, qccz, qcdz, qcez, qcfz, qcgz, qchz, qciz, beq_true, beq_false, Bool.not_eq_true', decide_eq_true_eq, decide_eq_false_iff_not, decide_true, decide_false,
 Int.toNat_natCast, Int.ofNat_lt, Int.ofNat_le, Int.natCast_inj, Bool.false_eq_true, Bool.true_eq_false, qcjz, List.getElem?_cons_zero, List.getElem?_cons_succ, qckz, Int.reduceToNat, Int.reduceLE, true_and, and_true, reduceCtorEq, or_false, false_or, or_true, Option.some.injEq, exists_eq_left', Bool.not_true, Bool.not_false, ne_eq, Int.reduceEq, not_true_eq_false, not_false_eq_true, Int.reduceLT, UInt8.reduceLT, UInt8.reduceLE, UInt8.reduceToNat]
      exact loopQ_intro (m := l.length - (i + 1)) (by omega) (good (by simp [txC, q1, q3]) _ h0 rfl)
  · obtain rfl : i = l.length := by omega
    have ha := all_getD (p := txC) hall
    have hv := rValid_spec (st := s'.tok1) (x := .bys (.own s'.toks.length) l) (l := l) rfl (by omega)
    simp (maxSteps := 1000000) (disch := omega) only [h0, h3, hlt, len_s, freshT_eq, hv, qaaz, qabz, qacz, qadz, qaez, qafz, qagz, qahz, qaiz, qajz, qakz, qalz, qamz, qanz, evOp, qaoz, qapz, qaqz, qarz, qasz, qatz, qauz, qavz,
 ↓reduceIte, Nat.reduceEqDiff, List.nil_append, List.cons_append, List.append_nil, List.map_cons, List.map_nil, qawz, qaxz, qayz, Option.map_some, Option.map_none, qazz, qbaz, qbbz, qbcz, qbdz, qbez, qbfz, qbgz, qbhz, qbiz, qbjz, qbkz, qblz, qbmz, qbnz, qboz,
 qbpz, qbqz, qbrz, qbsz, qbtz, qbuz, qbvz, qbwz, qbxz, qbyz, qbzz, qcaz, qcbz, qccz, qcdz, qcez, qcfz, qcgz, qchz, qciz, beq_true, beq_false, Bool.not_eq_true', decide_eq_true_eq, decide_eq_false_iff_not, decide_true, decide_false,
 Int.toNat_natCast, Int.ofNat_lt, Int.ofNat_le, Int.natCast_inj, Bool.false_eq_true, Bool.true_eq_false, qcjz, List.getElem?_cons_zero, List.getElem?_cons_succ, qckz, Int.reduceToNat, Int.reduceLE, true_and, and_true, reduceCtorEq, or_false, false_or, or_true, Option.some.injEq, exists_eq_left', Bool.not_true, Bool.not_false, ne_eq, Int.reduceEq, not_true_eq_false, not_false_eq_true, Int.reduceLT, UInt8.reduceLT, UInt8.reduceLE, UInt8.reduceToNat]
    exact ⟨.bool (validOf l), rfl, by rw [show txB l = validOf l by simp [txB, ha]]; exact hk.tok1.leave rfl (fun _ _ => rfl)⟩
end Go.Ab

/-
  Lines that may be.
-/
namespace Go.Ab
set_option linter.unusedVariables false
set_option linter.unusedSimpArgs false
variable {st s : St} {e : Env}

/-- A line: its name, its parameters (as a value, as a list), its value. -/
structure Ln where
  n : List UInt8
  pv : PV
  ps : List Fld
  v : List UInt8
def lV (L : Ln) : PV := .agg [.str L.n, L.pv, .str L.v]
structure Ln.ok (L : Ln) : Prop where
  vs : L.pv.vs 2 = some (L.ps.map fV)
  ib : ∀ n, L.pv.inB n = true
  lf : leafOk L.pv = true
  tk : tokOf L.pv = none
  l1 : L.n.length ≤ 300
  l2 : L.v.length ≤ 5000
  l3 : L.ps.length ≤ 30
  l4 : ∀ p ∈ L.ps, p.1.length + p.2.length ≤ 500

/-- .. as it is read. -/
structure Ln.okR (L : Ln) : Prop where
  vs : L.pv.vs 2 = some (L.ps.map fV)
  ib : ∀ n, L.pv.inB n = true
  lf : leafOk L.pv = true
  l1 : L.n.length ≤ 1000000
  l2 : L.v.length ≤ 1000000
  l3 : L.ps.length ≤ 1000000
  l4 : ∀ p ∈ L.ps, p.1.length + p.2.length ≤ 1000000
theorem Ln.ok.r {L : Ln} (h : L.ok) : L.okR := ⟨h.vs, h.ib, h.lf, by have := h.l1; omega, by have := h.l2; omega, by have := h.l3; omega, fun p hp => by have := h.l4 p hp; omega⟩

def parOK (p : Fld) : Prop := nmB p.1 = true ∧ txB p.2 = true ∧ p.2.length ≤ 256 ∧ hasB p.2 [34] = false
def rtP (L : Ln) : Prop := nmB L.n = true ∧ txB L.v = true ∧ L.v.length ≤ 4096 ∧ L.ps.length ≤ 16 ∧ (∀ i, i < L.ps.length → parOK (L.ps.getD i ([], []))) ∧ ∀ i, i < L.ps.length → ∀ k, k < i → (L.ps.getD k ([], [])).1 ≠ (L.ps.getD i ([], [])).1
noncomputable def rtB (L : Ln) : Bool := @decide (rtP L) (Classical.propDecidable _)
theorem rtB_true {L : Ln} (h : rtP L) : rtB L = true := by unfold rtB; simp [h]
theorem rtB_false {L : Ln} (h : ¬ rtP L) : rtB L = false := by unfold rtB; simp [h]

/-! ### Boxes that stay -/
def At (s : St) (b : Nat) (cs : List PV) : Prop := s.boxes[b]? = some cs
theorem At.alloc {b : Nat} {cs z : List PV} {T : List Bool} {Lp : List LoopS} {lo : Nat} (h : At s b cs) : At ⟨s.boxes ++ [z], T, Lp, lo⟩ b cs := by
  unfold At at *
  have := (List.getElem?_eq_some_iff.1 h).1
  show (s.boxes ++ [z])[b]? = _
  rw [List.getElem?_append_left this]; exact h
theorem At.last {z : List PV} {T : List Bool} {Lp : List LoopS} {lo : Nat} : At ⟨s.boxes ++ [z], T, Lp, lo⟩ s.boxes.length z := by
  unfold At; simp
theorem At.load {b k : Nat} {cs : List PV} {v : PV} {r : List PV} (h : At s b cs) (hk : cs.drop k = v :: r) : loadPV s false 1 (.ptr b k) = some v := by
  unfold At at h
  simp [loadPV, h, hk, readCells]
theorem slc_vs {x : PV} {xs : List PV} {esz : Nat} {k : IntKind} {c : Nat} (h : x.vs esz = some xs) (he : esz ≠ 0) (hc : c ≤ xs.length) : ∃ y, slcPV esz x none (some (.int k (c : Int))) none = some y ∧ y.vs esz = some (xs.take c) := by
  rcases vs_cases h with ⟨rfl, rfl⟩ | ⟨t, rfl⟩
  · simp at hc; subst hc
    exact ⟨.nils, by simp [slcPV, bnd, intOf, he], by simp [PV.vs]⟩
  · exact ⟨.sl esz .no (xs.take c), by simp [slcPV, bnd, intOf, he, sufTok, hc], by simp [PV.vs]⟩

theorem box_l {L : Ln} (h : L.okR) {n : Nat} : (lV L).inB n = true ∧ (lV L).cells.all leafOk = true := by
  constructor
  · simp [lV, PV.inB, PV.inB.inBAll, h.ib]
  · show (leafOk (.str L.n) && (leafOk L.pv && (leafOk (.str L.v) && true))) = true
    rw [h.lf]; rfl

set_option maxHeartbeats 1000000 in
theorem sRightR_spec {L : Ln} (h : L.okR) : call prog (.fn 50 []) [lV L] st = some (.bool (rtB L), st) := by
  refine call_of_W prog_50 ?_
  unfold F_sheet_Right; dsimp only
  have hbx := box_l h (n := st.boxes.length)
  obtain ⟨q, hq⟩ : ∃ q, q = lV L := ⟨_, rfl⟩
  rw [← hq] at hbx
  have hqc : q.cells = [.str L.n, L.pv, .str L.v] := by rw [hq]; rfl
  rw [hqc] at hbx
  have hll := len_vs h.vs
  rw [List.length_map] at hll
  have hl3 := h.l3
  obtain ⟨b0, hb0⟩ : ∃ b0, b0 = st.boxes.length := ⟨_, rfl⟩
  refine W_cut (fun E S => Kept st S ∧ At S b0 [.str L.n, L.pv, .str L.v] ∧ E 1 = .ptr b0 0) ?_ ?_
  · rw [← hq]
    simp (maxSteps := 1000000) (disch := omega) only [hbx.1, hbx.2, and_self, allocPV, hqc, qaaz, qabz, qacz, qadz, qaez, qafz, qagz, qahz, qaiz, qajz, qakz, qalz, qamz, qanz, evOp, qaoz, qapz, qaqz, qarz, qasz, qatz, qauz, qavz,
 ↓reduceIte, Nat.reduceEqDiff, List.nil_append, List.cons_append, List.append_nil, List.map_cons, List.map_nil, qawz, qaxz, qayz, Option.map_some, Option.map_none, qazz, qbaz, qbbz, qbcz, qbdz, qbez, qbfz, qbgz, qbhz, qbiz, qbjz, qbkz, qblz, qbmz, qbnz, qboz,
 qbpz, qbqz, qbrz, qbsz, qbtz, qbuz, qbvz, qbwz, qbxz, qbyz, qbzz, qcaz, qcbz, qccz, qcdz, qcez, qcfz, qcgz, qchz, qciz, beq_true, beq_false, Bool.not_eq_true', decide_eq_true_eq, decide_eq_false_iff_not, decide_true, decide_false,
 Int.toNat_natCast, Int.ofNat_lt, Int.ofNat_le, Int.natCast_inj, Bool.false_eq_true, Bool.true_eq_false, qcjz, List.getElem?_cons_zero, List.getElem?_cons_succ, qckz, Int.reduceToNat, Int.reduceLE, true_and, and_true, reduceCtorEq, or_false, false_or, or_true, Option.some.injEq, exists_eq_left', Bool.not_true, Bool.not_false, ne_eq, Int.reduceEq, not_true_eq_false, not_false_eq_true, Int.reduceLT, UInt8.reduceLT, UInt8.reduceLE, UInt8.reduceToNat]
    refine ⟨Kept.start.alloc, ?_, by rw [hb0]⟩
    rw [hb0]; exact At.last
  clear hbx hqc hq
  rintro e S ⟨hk, hA, h1⟩
  have fin : ∀ (E : Env) (S : St) (b : Bool), Kept st S → rtB L = b → E 2 = .bool b → ∃ rv, resOf E S [.tmp 2] = some rv ∧ leave st S rv = (.bool (rtB L), st) := fun E S b k1 hb k2 =>
    ⟨.bool b, by simp [resOf, rvAll, rv1, k2, notTup, packRes], by rw [hb]; exact k1.leave rfl (fun _ _ => rfl)⟩
  have hld1 := fun (S : St) (hA : At S b0 [.str L.n, L.pv, .str L.v]) => hA.load (k := 1) (v := L.pv) (r := [.str L.v]) rfl
  have hld0 := fun (S : St) (hA : At S b0 [.str L.n, L.pv, .str L.v]) => hA.load (k := 0) (v := .str L.n) (r := [L.pv, .str L.v]) rfl
  have hld2 := fun (S : St) (hA : At S b0 [.str L.n, L.pv, .str L.v]) => hA.load (k := 2) (v := .str L.v) (r := []) rfl
  simp (maxSteps := 1000000) (disch := omega) only [h1, faddrPV, Nat.zero_add, hld1 S hA, hll, qaaz, qabz, qacz, qadz, qaez, qafz, qagz, qahz, qaiz, qajz, qakz, qalz, qamz, qanz, evOp, qaoz, qapz, qaqz, qarz, qasz, qatz, qauz, qavz,
 ↓reduceIte, Nat.reduceEqDiff, List.nil_append, List.cons_append, List.append_nil, List.map_cons, List.map_nil, qawz, qaxz, qayz, Option.map_some, Option.map_none, qazz, qbaz, qbbz, qbcz, qbdz, qbez, qbfz, qbgz, qbhz, qbiz, qbjz, qbkz, qblz, qbmz, qbnz, qboz,
 qbpz, qbqz, qbrz, qbsz, qbtz, qbuz, qbvz, qbwz, qbxz, qbyz, qbzz, qcaz, qcbz, qccz, qcdz, qcez, qcfz, qcgz, qchz, qciz, beq_true, beq_false, Bool.not_eq_true', decide_eq_true_eq, decide_eq_false_iff_not, decide_true, decide_false,
 Int.toNat_natCast, Int.ofNat_lt, Int.ofNat_le, Int.natCast_inj, Bool.false_eq_true, Bool.true_eq_false, qcjz, List.getElem?_cons_zero, List.getElem?_cons_succ, qckz, Int.reduceToNat, Int.reduceLE, true_and, and_true, reduceCtorEq, or_false, false_or, or_true, Option.some.injEq, exists_eq_left', Bool.not_true, Bool.not_false, ne_eq, Int.reduceEq, not_true_eq_false, not_false_eq_true, Int.reduceLT, UInt8.reduceLT, UInt8.reduceLE, UInt8.reduceToNat]
  obtain ⟨I, hI⟩ : ∃ I : Nat → Env → St → Prop, I = fun z E S => ∃ i, z = L.ps.length - i ∧ i ≤ L.ps.length ∧ Kept st S ∧ At S b0 [.str L.n, L.pv, .str L.v] ∧ (∀ j, j < i → parOK (L.ps.getD j ([], [])) ∧ ∀ k, k < j → (L.ps.getD k ([], [])).1 ≠ (L.ps.getD j ([], [])).1) ∧ E 1 = .ptr b0 0 ∧ E 8 = L.pv ∧ E 9 = .int .i64 (L.ps.length : Int) ∧ E 10 = .int .i64 (i : Int) := ⟨_, rfl⟩
  refine W_loop I ?_ (n := L.ps.length) (by
    rw [hI]
    exact ⟨0, rfl, by omega, hk, hA, fun j hj => by omega, h1, rfl, rfl, rfl⟩)
  clear hk hA h1
  intro z e S hh
  rw [hI] at hh
  obtain ⟨i, rfl, hi, hk, hA, hall, h1, h8, h9, h10⟩ := hh
  by_cases hlt : i < L.ps.length
  · obtain ⟨f, hfe⟩ : ∃ f, f = L.ps.getD i ([], []) := ⟨_, rfl⟩
    have hfm : f ∈ L.ps := by rw [hfe]; simp [List.getD, hlt]
    have hf4 := h.l4 f hfm
    have hnot : ¬ parOK f → ¬ rtP L := fun hn hp => hn (by rw [hfe]; exact hp.2.2.2.2.1 i hlt)
    have hnm : ∀ S : St, call prog (.fn 64 []) [.str f.1] S = some (.bool (nmB f.1), S) := fun S => sName_spec (by omega)
    have htx : ∀ S : St, call prog (.fn 65 []) [.str f.2, .int .i64 256] S = some (.bool (txB f.2 && decide (f.2.length ≤ 256)), S) := fun S => sText_spec (m := 256) (by omega)
    have hco : ∀ S : St, call prog (.fn 66 []) [.str f.2, .str [34]] S = some (.bool (hasB f.2 [34]), S) := fun S => Contains_spec (by omega)
    have hk2 := hk.alloc' (z := [.str f.1, .str f.2])
    have hA2 := hA.alloc (z := [.str f.1, .str f.2]) (T := S.toks) (Lp := S.loops) (lo := S.low)
    cases q1 : nmB f.1 with
    | false =>
      rw [q1] at hnm
      simp (maxSteps := 1000000) (disch := omega) only [h1, h8, h9, h10, hlt, iaddr_f h.vs, ← hfe, load_f2, allocPV, store_f, faddrPV, Nat.add_zero, Nat.zero_add, load_b0, load_b1, hnm, qaaz, qabz, qacz, qadz, qaez, qafz, qagz, qahz, qaiz, qajz, qakz, qalz, qamz, qanz, evOp, qaoz, qapz, qaqz, qarz, qasz, qatz, qauz, qavz,
 ↓reduceIte, Nat.reduceEqDiff, List.nil_append, List.cons_append, List.append_nil, List.map_cons, List.map_nil, qawz, qaxz, qayz, Option.map_some, Option.map_none, qazz, qbaz, qbbz, qbcz, qbdz, qbez, qbfz, qbgz, qbhz, qbiz, qbjz, qbkz, qblz, qbmz, qbnz, qboz,
 qbpz, qbqz, qbrz, qbsz, qbtz, qbuz, qbvz, qbwz, qbxz, qbyz, qbzz, qcaz, qcbz, qccz, qcdz, qcez, qcfz, qcgz, qchz, qciz, beq_true, beq_false, Bool.not_eq_true', decide_eq_true_eq, decide_eq_false_iff_not, decide_true, decide_false,
 Int.toNat_natCast, Int.ofNat_lt, Int.ofNat_le, Int.natCast_inj, Bool.false_eq_true, Bool.true_eq_false, qcjz, List.getElem?_cons_zero, List.getElem?_cons_succ, qckz, Int.reduceToNat, Int.reduceLE, true_and, and_true, reduceCtorEq, or_false, false_or, or_true, Option.some.injEq, exists_eq_left', Bool.not_true, Bool.not_false, ne_eq, Int.reduceEq, not_true_eq_false, not_false_eq_true, Int.reduceLT, UInt8.reduceLT, UInt8.reduceLE, UInt8.reduceToNat]
      exact fin _ _ false hk2 (rtB_false (hnot fun hp => by rw [hp.1] at q1; cases q1)) rfl
    | true =>
    rw [q1] at hnm
    cases q2 : (txB f.2 && decide (f.2.length ≤ 256)) with
    | false =>
      rw [q2] at htx
      simp (maxSteps := 1000000) (disch := omega) only [h1, h8, h9, h10, hlt, iaddr_f h.vs, ← hfe, load_f2, allocPV, store_f, faddrPV, Nat.add_zero, Nat.zero_add, load_b0, load_b1, hnm, htx, qaaz, qabz, qacz, qadz, qaez, qafz, qagz, qahz, qaiz, qajz, qakz, qalz, qamz, qanz, evOp, qaoz, qapz, qaqz, qarz, qasz, qatz, qauz, qavz,
 ↓reduceIte, Nat.reduceEqDiff, List.nil_append, List.cons_append, List.append_nil, List.map_cons, List.map_nil, qawz, qaxz, qayz, Option.map_some, Option.map_none, qazz, qbaz, qbbz, qbcz, qbdz, qbez, qbfz, qbgz, qbhz, qbiz, qbjz, qbkz, qblz, qbmz, qbnz, qboz,
 qbpz, qbqz, qbrz, qbsz, qbtz, qbuz, qbvz, qbwz, qbxz, qbyz, qbzz, qcaz, qcbz, qccz, qcdz, qcez, qcfz, qcgz, qchz, qciz, beq_true, beq_false, Bool.not_eq_true', decide_eq_true_eq, decide_eq_false_iff_not, decide_true, decide_false,
 Int.toNat_natCast, Int.ofNat_lt, Int.ofNat_le, Int.natCast_inj, Bool.false_eq_true, Bool.true_eq_false, qcjz, List.getElem?_cons_zero, List.getElem?_cons_succ, qckz, Int.reduceToNat, Int.reduceLE, true_and, and_true, reduceCtorEq, or_false, false_or, or_true, Option.some.injEq, exists_eq_left', Bool.not_true, Bool.not_false, ne_eq, Int.reduceEq, not_true_eq_false, not_false_eq_true, Int.reduceLT, UInt8.reduceLT, UInt8.reduceLE, UInt8.reduceToNat]
      exact fin _ _ false hk2 (rtB_false (hnot fun hp => by rw [hp.2.1] at q2; simp [hp.2.2.1] at q2)) rfl
    | true =>
    rw [q2] at htx
    cases q3 : hasB f.2 [34] with
    | true =>
      rw [q3] at hco
      simp (maxSteps := 1000000) (disch := omega) only [h1, h8, h9, h10, hlt, iaddr_f h.vs, ← hfe, load_f2, allocPV, store_f, faddrPV, Nat.add_zero, Nat.zero_add, load_b0, load_b1, hnm, htx, hco, qaaz, qabz, qacz, qadz, qaez, qafz, qagz, qahz, qaiz, qajz, qakz, qalz, qamz, qanz, evOp, qaoz, qapz, qaqz, qarz, qasz, qatz, qauz, qavz,
 ↓reduceIte, Nat.reduceEqDiff, List.nil_append, List.cons_append, List.append_nil, List.map_cons, List.map_nil, qawz, qaxz, qayz, Option.map_some, Option.map_none, qazz, qbaz, qbbz, qbcz, qbdz, qbez, qbfz, qbgz, qbhz, qbiz, qbjz, qbkz, qblz, qbmz, qbnz, qboz,
 qbpz, qbqz, qbrz, qbsz, qbtz, qbuz, qbvz, qbwz, qbxz, qbyz, qbzz, qcaz, qcbz, qccz, qcdz, qcez, qcfz, qcgz, qchz, qciz, beq_true, beq_false, Bool.not_eq_true', decide_eq_true_eq, decide_eq_false_iff_not, decide_true, decide_false,
 Int.toNat_natCast, Int.ofNat_lt, Int.ofNat_le, Int.natCast_inj, Bool.false_eq_true, Bool.true_eq_false, qcjz, List.getElem?_cons_zero, List.getElem?_cons_succ, qckz, Int.reduceToNat, Int.reduceLE, true_and, and_true, reduceCtorEq, or_false, false_or, or_true, Option.some.injEq, exists_eq_left', Bool.not_true, Bool.not_false, ne_eq, Int.reduceEq, not_true_eq_false, not_false_eq_true, Int.reduceLT, UInt8.reduceLT, UInt8.reduceLE, UInt8.reduceToNat]
      exact fin _ _ false hk2 (rtB_false (hnot fun hp => by rw [hp.2.2.2] at q3; cases q3)) rfl
    | false =>
    rw [q3] at hco
    have hpar : parOK f := by
      simp only [Bool.and_eq_true, decide_eq_true_eq] at q2
      exact ⟨q1, q2.1, q2.2, q3⟩
    obtain ⟨y, hy1, hy2⟩ := slc_vs (k := .i64) (c := i) h.vs (by omega) (by simpa using hi)
    rw [← List.map_take] at hy2
    have hly := len_vs hy2
    rw [List.length_map, List.length_take, Nat.min_eq_left hi] at hly
    simp (maxSteps := 1000000) (disch := omega) only [h1, h8, h9, h10, hlt, iaddr_f h.vs, ← hfe, load_f2, allocPV, store_f, faddrPV, Nat.add_zero, Nat.zero_add, load_b0, load_b1, hnm, htx, hco, hld1 _ hA2, hy1, hly, qaaz, qabz, qacz, qadz, qaez, qafz, qagz, qahz, qaiz, qajz, qakz, qalz, qamz, qanz, evOp, qaoz, qapz, qaqz, qarz, qasz, qatz, qauz, qavz,
 ↓reduceIte, Nat.reduceEqDiff, List.nil_append, List.cons_append, List.append_nil, List.map_cons, List.map_nil, qawz, qaxz, qayz, Option.map_some, Option.map_none, qazz, qbaz, qbbz, qbcz, qbdz, qbez, qbfz, qbgz, qbhz, qbiz, qbjz, qbkz, qblz, qbmz, qbnz, qboz,
 qbpz, qbqz, qbrz, qbsz, qbtz, qbuz, qbvz, qbwz, qbxz, qbyz, qbzz, qcaz, qcbz, qccz, qcdz, qcez, qcfz, qcgz, qchz, qciz, beq_true, beq_false, Bool.not_eq_true', decide_eq_true_eq, decide_eq_false_iff_not, decide_true, decide_false,
 Int.toNat_natCast, Int.ofNat_lt, Int.ofNat_le, Int.natCast_inj, Bool.false_eq_true, Bool.true_eq_false, qcjz, List.getElem?_cons_zero, List.getElem?_cons_succ, qckz, Int.reduceToNat, Int.reduceLE, true_and, and_true, reduceCtorEq, or_false, false_or, or_true, Option.some.injEq, exists_eq_left', Bool.not_true, Bool.not_false, ne_eq, Int.reduceEq, not_true_eq_false, not_false_eq_true, Int.reduceLT, UInt8.reduceLT, UInt8.reduceLE, UInt8.reduceToNat]
    obtain ⟨b1, hb1⟩ : ∃ b1, b1 = S.boxes.length := ⟨_, rfl⟩
    obtain ⟨II, hII⟩ : ∃ II : Nat → Env → St → Prop, II = fun z E S => ∃ k, z = i - k ∧ k ≤ i ∧ Kept st S ∧ At S b0 [.str L.n, L.pv, .str L.v] ∧ At S b1 [.str f.1, .str f.2] ∧ (∀ j, j < k → (L.ps.getD j ([], [])).1 ≠ f.1) ∧ E 1 = .ptr b0 0 ∧ E 4 = .ptr b1 0 ∧ E 8 = L.pv ∧ E 9 = .int .i64 (L.ps.length : Int) ∧ E 10 = .int .i64 (i : Int) ∧ E 33 = y ∧ E 34 = .int .i64 (i : Int) ∧ E 35 = .int .i64 (k : Int) := ⟨_, rfl⟩
    refine W_loop II ?_ (n := i) (by
      rw [hII]
      exact ⟨0, rfl, by omega, hk2, hA2, by rw [hb1]; exact At.last, fun j hj => by omega, h1, by rw [hb1]; rfl, h8, h9, h10, rfl, rfl, rfl⟩)
    clear hk hA hk2 hA2 h1 h8 h9 h10
    intro z e S hh
    rw [hII] at hh
    obtain ⟨k, rfl, hki, hk, hA, hB, hdif, h1, h4, h8, h9, h10, h33, h34, h35⟩ := hh
    have hldB := hB.load (k := 0) (v := .str f.1) (r := [.str f.2]) rfl
    by_cases hkt : k < i
    · obtain ⟨g, hge⟩ : ∃ g, g = L.ps.getD k ([], []) := ⟨_, rfl⟩
      have hgt : (L.ps.take i).getD k ([], []) = g := by
        rw [hge]; simp [List.getD, List.getElem?_take, hkt]
      have hiy := iaddr_f (k := .i64) (c := (k : Int)) hy2 (by omega) (by rw [Int.toNat_natCast, List.length_take, Nat.min_eq_left hi]; exact hkt)
      rw [Int.toNat_natCast, hgt] at hiy
      have hk3 := hk.alloc' (z := [.str g.1, .str g.2])
      have hA3 := hA.alloc (z := [.str g.1, .str g.2]) (T := S.toks) (Lp := S.loops) (lo := S.low)
      have hB3 := hB.alloc (z := [.str g.1, .str g.2]) (T := S.toks) (Lp := S.loops) (lo := S.low)
      have hldB3 := hB3.load (k := 0) (v := .str f.1) (r := [.str f.2]) rfl
      by_cases hgf : g.1 = f.1
      · simp (maxSteps := 1000000) (disch := omega) only [h1, h4, h8, h9, h10, h33, h34, h35, hkt, hiy, load_f2, allocPV, store_f, faddrPV, Nat.add_zero, Nat.zero_add, load_b0, hldB3, eq_true hgf, qaaz, qabz, qacz, qadz, qaez, qafz, qagz, qahz, qaiz, qajz, qakz, qalz, qamz, qanz, evOp, qaoz, qapz, qaqz, qarz, qasz, qatz, qauz, qavz,
 ↓reduceIte, Nat.reduceEqDiff, List.nil_append, List.cons_append, List.append_nil, List.map_cons, List.map_nil, qawz, qaxz, qayz, Option.map_some, Option.map_none, qazz, qbaz, qbbz, qbcz, qbdz, qbez, qbfz, qbgz, qbhz, qbiz, qbjz, qbkz, qblz, qbmz, qbnz, qboz,
 qbpz, qbqz, qbrz, qbsz, qbtz, qbuz, qbvz, qbwz, qbxz, qbyz, qbzz, qcaz, qcbz, qccz, qcdz, qcez, qcfz, qcgz, qchz, qciz, beq_true, beq_false, Bool.not_eq_true', decide_eq_true_eq, decide_eq_false_iff_not, decide_true, decide_false,
 Int.toNat_natCast, Int.ofNat_lt, Int.ofNat_le, Int.natCast_inj, Bool.false_eq_true, Bool.true_eq_false, qcjz, List.getElem?_cons_zero, List.getElem?_cons_succ, qckz, Int.reduceToNat, Int.reduceLE, true_and, and_true, reduceCtorEq, or_false, false_or, or_true, Option.some.injEq, exists_eq_left', Bool.not_true, Bool.not_false, ne_eq, Int.reduceEq, not_true_eq_false, not_false_eq_true, Int.reduceLT, UInt8.reduceLT, UInt8.reduceLE, UInt8.reduceToNat]
        exact fin _ _ false hk3 (rtB_false fun hp => hp.2.2.2.2.2 i hlt k hkt (by rw [← hge, ← hfe]; exact hgf)) rfl
      · simp (maxSteps := 1000000) (disch := omega) only [h1, h4, h8, h9, h10, h33, h34, h35, hkt, hiy, load_f2, allocPV, store_f, faddrPV, Nat.add_zero, Nat.zero_add, load_b0, hldB3, hgf, add_n, qaaz, qabz, qacz, qadz, qaez, qafz, qagz, qahz, qaiz, qajz, qakz, qalz, qamz, qanz, evOp, qaoz, qapz, qaqz, qarz, qasz, qatz, qauz, qavz,
 ↓reduceIte, Nat.reduceEqDiff, List.nil_append, List.cons_append, List.append_nil, List.map_cons, List.map_nil, qawz, qaxz, qayz, Option.map_some, Option.map_none, qazz, qbaz, qbbz, qbcz, qbdz, qbez, qbfz, qbgz, qbhz, qbiz, qbjz, qbkz, qblz, qbmz, qbnz, qboz,
 qbpz, qbqz, qbrz, qbsz, qbtz, qbuz, qbvz, qbwz, qbxz, qbyz, qbzz, qcaz, qcbz, qccz, qcdz, qcez, qcfz, qcgz, qchz, qciz, beq_true, beq_false, Bool.not_eq_true', decide_eq_true_eq, decide_eq_false_iff_not, decide_true, decide_false,
 Int.toNat_natCast, Int.ofNat_lt, Int.ofNat_le, Int.natCast_inj, Bool.false_eq_true, Bool.true_eq_false, qcjz, List.getElem?_cons_zero, List.getElem?_cons_succ, qckz, Int.reduceToNat, Int.reduceLE, true_and, and_true, reduceCtorEq, or_false, false_or, or_true, Option.some.injEq, exists_eq_left', Bool.not_true, Bool.not_false, ne_eq, Int.reduceEq, not_true_eq_false, not_false_eq_true, Int.reduceLT, UInt8.reduceLT, UInt8.reduceLE, UInt8.reduceToNat]
        refine loopQ_intro (m := i - (k + 1)) (by omega) ?_
        rw [hII]
        refine ⟨k + 1, rfl, by omega, hk3, hA3, hB3, fun j hj => ?_, h1, h4, h8, h9, h10, h33, h34, rfl⟩
        by_cases hjk : j = k
        · subst hjk; rw [← hge]; exact hgf
        · exact hdif j (by omega)
    · obtain rfl : k = i := by omega
      simp (maxSteps := 1000000) (disch := omega) only [h1, h4, h8, h9, h10, h33, h34, h35, hkt, add_n, qaaz, qabz, qacz, qadz, qaez, qafz, qagz, qahz, qaiz, qajz, qakz, qalz, qamz, qanz, evOp, qaoz, qapz, qaqz, qarz, qasz, qatz, qauz, qavz,
 ↓reduceIte, Nat.reduceEqDiff, List.nil_append, List.cons_append, List.append_nil, List.map_cons, List.map_nil, qawz, qaxz, qayz, Option.map_some, Option.map_none, qazz, qbaz, qbbz, qbcz, qbdz, qbez, qbfz, qbgz, qbhz, qbiz, qbjz, qbkz, qblz, qbmz, qbnz, qboz,
 qbpz, qbqz, qbrz, qbsz, qbtz, qbuz, qbvz, qbwz, qbxz, qbyz, qbzz, qcaz, qcbz, qccz, qcdz, qcez, qcfz, qcgz, qchz, qciz, beq_true, beq_false, Bool.not_eq_true', decide_eq_true_eq, decide_eq_false_iff_not, decide_true, decide_false,
 Int.toNat_natCast, Int.ofNat_lt, Int.ofNat_le, Int.natCast_inj, Bool.false_eq_true, Bool.true_eq_false, qcjz, List.getElem?_cons_zero, List.getElem?_cons_succ, qckz, Int.reduceToNat, Int.reduceLE, true_and, and_true, reduceCtorEq, or_false, false_or, or_true, Option.some.injEq, exists_eq_left', Bool.not_true, Bool.not_false, ne_eq, Int.reduceEq, not_true_eq_false, not_false_eq_true, Int.reduceLT, UInt8.reduceLT, UInt8.reduceLE, UInt8.reduceToNat]
      refine loopQ_intro (m := L.ps.length - (k + 1)) (by omega) ?_
      rw [hI]
      refine ⟨k + 1, rfl, by omega, hk, hA, fun j hj => ?_, h1, h8, h9, rfl⟩
      by_cases hji : j = k
      · subst hji
        refine ⟨by rw [← hfe]; exact hpar, fun k' hk' => by rw [← hfe]; exact hdif k' hk'⟩
      · exact hall j (by omega)
  · obtain rfl : i = L.ps.length := by omega
    have hnm : ∀ S : St, call prog (.fn 64 []) [.str L.n] S = some (.bool (nmB L.n), S) := fun S => sName_spec (by have := h.l1; omega)
    have htx : ∀ S : St, call prog (.fn 65 []) [.str L.v, .int .i64 4096] S = some (.bool (txB L.v && decide (L.v.length ≤ 4096)), S) := fun S => sText_spec (m := 4096) (by have := h.l2; omega)
    cases q1 : nmB L.n with
    | false =>
      rw [q1] at hnm
      simp (maxSteps := 1000000) (disch := omega) only [h1, h8, h9, h10, hlt, faddrPV, Nat.zero_add, hld0 S hA, hld1 S hA, hld2 S hA, hnm, hll, qaaz, qabz, qacz, qadz, qaez, qafz, qagz, qahz, qaiz, qajz, qakz, qalz, qamz, qanz, evOp, qaoz, qapz, qaqz, qarz, qasz, qatz, qauz, qavz,
 ↓reduceIte, Nat.reduceEqDiff, List.nil_append, List.cons_append, List.append_nil, List.map_cons, List.map_nil, qawz, qaxz, qayz, Option.map_some, Option.map_none, qazz, qbaz, qbbz, qbcz, qbdz, qbez, qbfz, qbgz, qbhz, qbiz, qbjz, qbkz, qblz, qbmz, qbnz, qboz,
 qbpz, qbqz, qbrz, qbsz, qbtz, qbuz, qbvz, qbwz, qbxz, qbyz, qbzz, qcaz, qcbz, qccz, qcdz, qcez, qcfz, qcgz, qchz, qciz, beq_true, beq_false, Bool.not_eq_true', decide_eq_true_eq, decide_eq_false_iff_not, decide_true, decide_false,
 Int.toNat_natCast, Int.ofNat_lt, Int.ofNat_le, Int.natCast_inj, Bool.false_eq_true, Bool.true_eq_false, qcjz, List.getElem?_cons_zero, List.getElem?_cons_succ, qckz, Int.reduceToNat, Int.reduceLE, true_and, and_true, reduceCtorEq, or_false, false_or, or_true, Option.some.injEq, exists_eq_left', Bool.not_true, Bool.not_false, ne_eq, Int.reduceEq, not_true_eq_false, not_false_eq_true, Int.reduceLT, UInt8.reduceLT, UInt8.reduceLE, UInt8.reduceToNat]
      exact fin _ _ false hk (rtB_false fun hp => by rw [hp.1] at q1; cases q1) rfl
    | true =>
    rw [q1] at hnm
    cases q2 : (txB L.v && decide (L.v.length ≤ 4096)) with
    | false =>
      rw [q2] at htx
      simp (maxSteps := 1000000) (disch := omega) only [h1, h8, h9, h10, hlt, faddrPV, Nat.zero_add, hld0 S hA, hld1 S hA, hld2 S hA, hnm, htx, hll, qaaz, qabz, qacz, qadz, qaez, qafz, qagz, qahz, qaiz, qajz, qakz, qalz, qamz, qanz, evOp, qaoz, qapz, qaqz, qarz, qasz, qatz, qauz, qavz,
 ↓reduceIte, Nat.reduceEqDiff, List.nil_append, List.cons_append, List.append_nil, List.map_cons, List.map_nil, qawz, qaxz, qayz, Option.map_some, Option.map_none, qazz, qbaz, qbbz, qbcz, qbdz, qbez, qbfz, qbgz, qbhz, qbiz, qbjz, qbkz, qblz, qbmz, qbnz, qboz,
 qbpz, qbqz, qbrz, qbsz, qbtz, qbuz, qbvz, qbwz, qbxz, qbyz, qbzz, qcaz, qcbz, qccz, qcdz, qcez, qcfz, qcgz, qchz, qciz, beq_true, beq_false, Bool.not_eq_true', decide_eq_true_eq, decide_eq_false_iff_not, decide_true, decide_false,
 Int.toNat_natCast, Int.ofNat_lt, Int.ofNat_le, Int.natCast_inj, Bool.false_eq_true, Bool.true_eq_false, qcjz, List.getElem?_cons_zero, List.getElem?_cons_succ, qckz, Int.reduceToNat, Int.reduceLE, true_and, and_true, reduceCtorEq, or_false, false_or, or_true, Option.some.injEq, exists_eq_left', Bool.not_true, Bool.not_false, ne_eq, Int.reduceEq, not_true_eq_false, not_false_eq_true, Int.reduceLT, UInt8.reduceLT, UInt8.reduceLE, UInt8.reduceToNat]
      exact fin _ _ false hk (rtB_false fun hp => by rw [hp.2.1] at q2; simp [hp.2.2.1] at q2) rfl
    | true =>
    rw [q2] at htx
    simp only [Bool.and_eq_true, decide_eq_true_eq] at q2
    by_cases q3 : L.ps.length ≤ 16
    · have e3 : (L.ps.length : Int) ≤ 16 := by omega
      simp (maxSteps := 1000000) (disch := omega) only [h1, h8, h9, h10, hlt, faddrPV, Nat.zero_add, hld0 S hA, hld1 S hA, hld2 S hA, hnm, htx, hll, e3, qaaz, qabz, qacz, qadz, qaez, qafz, qagz, qahz, qaiz, qajz, qakz, qalz, qamz, qanz, evOp, qaoz, qapz, qaqz, qarz, qasz, qatz, qauz, qavz,
 ↓reduceIte, Nat.reduceEqDiff, List.nil_append, List.cons_append, List.append_nil, List.map_cons, List.map_nil, qawz, qaxz, qayz, Option.map_some, Option.map_none, qazz, qbaz, qbbz, qbcz, qbdz, qbez, qbfz, qbgz, qbhz, qbiz, qbjz, qbkz, qblz, qbmz, qbnz, qboz,
 qbpz, qbqz, qbrz, qbsz, qbtz, qbuz, qbvz, qbwz, qbxz, qbyz, qbzz, qcaz, qcbz, qccz, qcdz, qcez, qcfz, qcgz, qchz, qciz, beq_true, beq_false, Bool.not_eq_true', decide_eq_true_eq, decide_eq_false_iff_not, decide_true, decide_false,
 Int.toNat_natCast, Int.ofNat_lt, Int.ofNat_le, Int.natCast_inj, Bool.false_eq_true, Bool.true_eq_false, qcjz, List.getElem?_cons_zero, List.getElem?_cons_succ, qckz, Int.reduceToNat, Int.reduceLE, true_and, and_true, reduceCtorEq, or_false, false_or, or_true, Option.some.injEq, exists_eq_left', Bool.not_true, Bool.not_false, ne_eq, Int.reduceEq, not_true_eq_false, not_false_eq_true, Int.reduceLT, UInt8.reduceLT, UInt8.reduceLE, UInt8.reduceToNat]
      exact fin _ _ true hk (rtB_true ⟨q1, q2.1, q2.2, q3, fun i hi => (hall i hi).1, fun i hi => (hall i hi).2⟩) rfl
    · have e3 : ¬ (L.ps.length : Int) ≤ 16 := by omega
      simp (maxSteps := 1000000) (disch := omega) only [h1, h8, h9, h10, hlt, faddrPV, Nat.zero_add, hld0 S hA, hld1 S hA, hld2 S hA, hnm, htx, hll, e3, qaaz, qabz, qacz, qadz, qaez, qafz, qagz, qahz, qaiz, qajz, qakz, qalz, qamz, qanz, evOp, qaoz, qapz, qaqz, qarz, qasz, qatz, qauz, qavz,
 ↓reduceIte, Nat.reduceEqDiff, List.nil_append, List.cons_append, List.append_nil, List.map_cons, List.map_nil, qawz, qaxz, qayz, Option.map_some, Option.map_none, qazz, qbaz, qbbz, qbcz, qbdz, qbez, qbfz, qbgz, qbhz, qbiz, qbjz, qbkz, qblz, qbmz, qbnz, qboz,
 qbpz, qbqz, qbrz, qbsz, qbtz, qbuz, qbvz, qbwz, qbxz, qbyz, qbzz, qcaz, qcbz, qccz, qcdz, qcez, qcfz, qcgz, qchz, qciz, beq_true, beq_false, Bool.not_eq_true', decide_eq_true_eq, decide_eq_false_iff_not, decide_true, decide_false,
 Int.toNat_natCast, Int.ofNat_lt, Int.ofNat_le, Int.natCast_inj, Bool.false_eq_true, Bool.true_eq_false, qcjz, List.getElem?_cons_zero, List.getElem?_cons_succ, qckz, Int.reduceToNat, Int.reduceLE, true_and, and_true, reduceCtorEq, or_false, false_or, or_true, Option.some.injEq, exists_eq_left', Bool.not_true, Bool.not_false, ne_eq, Int.reduceEq, not_true_eq_false, not_false_eq_true, Int.reduceLT, UInt8.reduceLT, UInt8.reduceLE, UInt8.reduceToNat]
      exact fin _ _ false hk (rtB_false fun hp => q3 hp.2.2.2.1) rfl
end Go.Ab
