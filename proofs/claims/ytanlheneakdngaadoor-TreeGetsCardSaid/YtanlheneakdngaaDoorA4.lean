/-
  Names and texts of a calendar's lines.
-/
import Derived.Test.YtanlheneakdngaaDoorA3
import Derived.KernelRfl
set_option linter.unusedVariables false
set_option linter.unusedSimpArgs false
namespace Go.Ab
variable {st s : St} {e : Env}

def nmC (c : UInt8) : Bool := (decide (65 ≤ c) && decide (c ≤ 90)) || (decide (48 ≤ c) && decide (c ≤ 57)) || decide (c = 45)
def nmB (l : List UInt8) : Bool := decide (1 ≤ l.length) && decide (l.length ≤ 64) && l.all nmC
def txC (c : UInt8) : Bool := !(decide (c < 32) && !decide (c = 9)) && !decide (c = 127)
def txB (l : List UInt8) : Bool := l.all txC && validOf l

theorem sName_spec {l : List UInt8} (hl : l.length ≤ 1000000) : call prog (.fn 64 []) [.str l] st = some (.bool (nmB l), st) := by
  refine call_of_W prog_64 ?_
  unfold F_sheet_isName; dsimp only
  simp (maxSteps := 1000000) (disch := omega) only [len_s, qaaz, qabz, qadz, qajz, qalz, evOp, qaoz, qapz, qarz, qatz, qavz,
 ↓reduceIte, List.append_nil, qawz, Option.map_some, qazz, reduceCtorEq]
  obtain ⟨I, hI⟩ : ∃ I : Nat → Env → St → Prop, I = fun k e s' => ∃ (i : Nat), k = l.length - i ∧ i ≤ l.length ∧ Kept st s' ∧ (∀ j, j < i → nmC (l.getD j 0) = true) ∧ e 0 = .str l ∧ e 6 = .int .i64 (l.length : Int) ∧ e 7 = .int .i64 (i : Int) := ⟨_, rfl⟩
  refine W_loop I ?_ (n := l.length) (by
    rw [hI]
    exact ⟨0, rfl, by omega, Kept.start, fun j h => by omega, rfl, rfl, rfl⟩)
  intro k e s' hh
  rw [hI] at hh
  obtain ⟨i, rfl, hi, hk, hall, h0, h6, h7⟩ := hh
  by_cases hlt : i < l.length
  · obtain ⟨c, hc⟩ : ∃ c, c = l.getD i 0 := ⟨_, rfl⟩
    have bad : nmC c = false → ∀ E : Env, E 2 = .bool false → ∃ rv, resOf E s' [.tmp 2] = some rv ∧ leave st s' rv = (.bool (nmB l), st) := fun h E k2 =>
      ⟨.bool false, by simp [resOf, rvAll, rv1, k2, notTup, packRes], by
        rw [show nmB l = false by simp only [nmB, all_bad (p := nmC) hlt (by rw [← hc]; exact h), Bool.and_false]]
        exact hk.leave rfl (fun _ _ => rfl)⟩
    have good : nmC c = true → ∀ E : Env, E 0 = .str l → E 6 = .int .i64 (l.length : Int) → E 7 = .int .i64 ((i + 1 : Nat) : Int) → I (l.length - (i + 1)) E s' := fun h E k0 k6 k7 => by
      rw [hI]
      refine ⟨i + 1, rfl, by omega, hk, fun j hj => ?_, k0, k6, k7⟩
      by_cases hji : j = i
      · subst hji; rw [← hc]; exact h
      · exact hall j (by omega)
    by_cases q1 : 65 ≤ c
    · by_cases q2 : c ≤ 90
      · simp (maxSteps := 1000000) (disch := omega) only [h0, h6, h7, hlt, idx_s, ← hc, q1, q2, add_n, qaaz, qabz, qacz, qadz, qaez, qajz, qakz, qalz, qamz, qanz, evOp, qaoz, qapz, qarz, qatz, qavz,
 ↓reduceIte, Nat.reduceEqDiff, Option.map_some, qazz, qbdz, qbhz, qbpz, qbyz, qcaz, qcfz, beq_true, beq_false, decide_true, Int.toNat_natCast, Int.ofNat_lt, Bool.false_eq_true, Int.reduceToNat, reduceCtorEq, Bool.not_true]
        exact loopQ_intro (m := l.length - (i + 1)) (by omega) (good (by simp [nmC, q1, q2]) _ h0 h6 rfl)
      · by_cases q3 : 48 ≤ c
        · by_cases q4 : c ≤ 57
          · simp (maxSteps := 1000000) (disch := omega) only [h0, h6, h7, hlt, idx_s, ← hc, q1, q2, q3, q4, add_n, qaaz, qabz, qacz, qadz, qaez, qajz, qakz, qalz, qamz, qanz, evOp, qaoz, qapz, qarz, qatz, qavz,
 ↓reduceIte, Nat.reduceEqDiff, Option.map_some, qazz, qbdz, qbhz, qbpz, qbyz, qcaz, qcfz, beq_true, beq_false, decide_true, decide_false,
 Int.toNat_natCast, Int.ofNat_lt, Bool.false_eq_true, Int.reduceToNat, reduceCtorEq, Bool.not_true, Bool.not_false]
            exact loopQ_intro (m := l.length - (i + 1)) (by omega) (good (by simp [nmC, q3, q4]) _ h0 h6 rfl)
          · by_cases q5 : c = 45
            · simp (maxSteps := 1000000) (disch := omega) only [h0, h6, h7, hlt, idx_s, ← hc, q1, q2, q3, q4, eq_true q5, add_n, qaaz, qabz, qacz, qadz, qaez, qajz, qakz, qalz, qamz, qanz, evOp, qaoz, qapz, qarz, qatz, qavz,
 ↓reduceIte, Nat.reduceEqDiff, Option.map_some, qazz, qbdz, qbhz, qbpz, qbvz, qbyz, qcaz, qcfz, beq_true, beq_false, decide_true, decide_false,
 Int.toNat_natCast, Int.ofNat_lt, Bool.false_eq_true, Int.reduceToNat, reduceCtorEq, Bool.not_true, Bool.not_false]
              exact loopQ_intro (m := l.length - (i + 1)) (by omega) (good (by simp [nmC, q5]) _ h0 h6 rfl)
            · simp (maxSteps := 1000000) (disch := omega) only [h0, h6, h7, hlt, idx_s, ← hc, q1, q2, q3, q4, q5, qaaz, qabz, qacz, qadz, qaez, qaiz, qajz, qakz, qalz, qamz, qanz, evOp, qaoz, qapz, qarz, qatz, qavz,
 ↓reduceIte, Nat.reduceEqDiff, Option.map_some, qazz, qbaz, qbez, qbhz, qbiz, qblz, qbpz, qbvz, qbyz, qcaz, qcfz, beq_true, beq_false, decide_true, decide_false,
 Int.toNat_natCast, Int.ofNat_lt, Bool.false_eq_true, reduceCtorEq, Bool.not_false]
              exact bad (by simp [nmC, q2, q4, q5]) _ rfl
        · by_cases q5 : c = 45
          · simp (maxSteps := 1000000) (disch := omega) only [h0, h6, h7, hlt, idx_s, ← hc, q1, q2, q3, eq_true q5, add_n, qaaz, qabz, qacz, qadz, qaez, qajz, qakz, qalz, qamz, qanz, evOp, qaoz, qapz, qarz, qatz, qavz,
 ↓reduceIte, Nat.reduceEqDiff, Option.map_some, qazz, qbdz, qbhz, qbpz, qbvz, qbyz, qcaz, qcfz, beq_true, beq_false, decide_true, decide_false,
 Int.toNat_natCast, Int.ofNat_lt, Bool.false_eq_true, Int.reduceToNat, reduceCtorEq, Bool.not_true, Bool.not_false]
            exact loopQ_intro (m := l.length - (i + 1)) (by omega) (good (by simp [nmC, q5]) _ h0 h6 rfl)
          · simp (maxSteps := 1000000) (disch := omega) only [h0, h6, h7, hlt, idx_s, ← hc, q1, q2, q3, q5, qaaz, qabz, qacz, qadz, qaez, qaiz, qajz, qakz, qalz, qamz, qanz, evOp, qaoz, qapz, qarz, qatz, qavz,
 ↓reduceIte, Nat.reduceEqDiff, Option.map_some, qazz, qbaz, qbez, qbhz, qbiz, qblz, qbpz, qbvz, qbyz, qcaz, qcfz, beq_true, beq_false, decide_true, decide_false,
 Int.toNat_natCast, Int.ofNat_lt, Bool.false_eq_true, reduceCtorEq, Bool.not_false]
            exact bad (by simp [nmC, q2, q3, q5]) _ rfl
    · by_cases q3 : 48 ≤ c
      · by_cases q4 : c ≤ 57
        · simp (maxSteps := 1000000) (disch := omega) only [h0, h6, h7, hlt, idx_s, ← hc, q1, q3, q4, add_n, qaaz, qabz, qacz, qadz, qaez, qajz, qakz, qalz, qamz, qanz, evOp, qaoz, qapz, qarz, qatz, qavz,
 ↓reduceIte, Nat.reduceEqDiff, Option.map_some, qazz, qbdz, qbhz, qbpz, qbyz, qcaz, qcfz, beq_true, beq_false, decide_true, decide_false,
 Int.toNat_natCast, Int.ofNat_lt, Bool.false_eq_true, Int.reduceToNat, reduceCtorEq, Bool.not_true, Bool.not_false]
          exact loopQ_intro (m := l.length - (i + 1)) (by omega) (good (by simp [nmC, q3, q4]) _ h0 h6 rfl)
        · by_cases q5 : c = 45
          · simp (maxSteps := 1000000) (disch := omega) only [h0, h6, h7, hlt, idx_s, ← hc, q1, q3, q4, eq_true q5, add_n, qaaz, qabz, qacz, qadz, qaez, qajz, qakz, qalz, qamz, qanz, evOp, qaoz, qapz, qarz, qatz, qavz,
 ↓reduceIte, Nat.reduceEqDiff, Option.map_some, qazz, qbdz, qbhz, qbpz, qbvz, qbyz, qcaz, qcfz, beq_true, beq_false, decide_true, decide_false,
 Int.toNat_natCast, Int.ofNat_lt, Bool.false_eq_true, Int.reduceToNat, reduceCtorEq, Bool.not_true, Bool.not_false]
            exact loopQ_intro (m := l.length - (i + 1)) (by omega) (good (by simp [nmC, q5]) _ h0 h6 rfl)
          · simp (maxSteps := 1000000) (disch := omega) only [h0, h6, h7, hlt, idx_s, ← hc, q1, q3, q4, q5, qaaz, qabz, qacz, qadz, qaez, qaiz, qajz, qakz, qalz, qamz, qanz, evOp, qaoz, qapz, qarz, qatz, qavz,
 ↓reduceIte, Nat.reduceEqDiff, Option.map_some, qazz, qbaz, qbez, qbhz, qbiz, qblz, qbpz, qbvz, qbyz, qcaz, qcfz, beq_true, beq_false, decide_true, decide_false,
 Int.toNat_natCast, Int.ofNat_lt, Bool.false_eq_true, reduceCtorEq, Bool.not_false]
            exact bad (by simp [nmC, q1, q4, q5]) _ rfl
      · by_cases q5 : c = 45
        · simp (maxSteps := 1000000) (disch := omega) only [h0, h6, h7, hlt, idx_s, ← hc, q1, q3, eq_true q5, add_n, qaaz, qabz, qacz, qadz, qaez, qajz, qakz, qalz, qamz, qanz, evOp, qaoz, qapz, qarz, qatz, qavz,
 ↓reduceIte, Nat.reduceEqDiff, Option.map_some, qazz, qbdz, qbhz, qbpz, qbvz, qcaz, qcfz, beq_true, beq_false, decide_true, decide_false,
 Int.toNat_natCast, Int.ofNat_lt, Bool.false_eq_true, Int.reduceToNat, reduceCtorEq, Bool.not_true, Bool.not_false]
          exact loopQ_intro (m := l.length - (i + 1)) (by omega) (good (by simp [nmC, q5]) _ h0 h6 rfl)
        · simp (maxSteps := 1000000) (disch := omega) only [h0, h6, h7, hlt, idx_s, ← hc, q1, q3, q5, qaaz, qabz, qacz, qadz, qaez, qaiz, qajz, qakz, qalz, qamz, qanz, evOp, qaoz, qapz, qarz, qatz, qavz,
 ↓reduceIte, Nat.reduceEqDiff, Option.map_some, qazz, qbaz, qbez, qbhz, qbiz, qblz, qbpz, qbvz, qcaz, qcfz, beq_true, beq_false, decide_true, decide_false,
 Int.toNat_natCast, Int.ofNat_lt, Bool.false_eq_true, reduceCtorEq, Bool.not_false]
          exact bad (by simp [nmC, q1, q3, q5]) _ rfl
  · obtain rfl : i = l.length := by omega
    have ha := all_getD (p := nmC) hall
    by_cases g0 : l = []
    · simp (maxSteps := 1000000) (disch := omega) only [h0, h6, h7, hlt, eq_true g0, qaaz, qabz, qacz, qagz, qaiz, qajz, qakz, qalz, qamz, qanz, evOp, qaoz, qapz, qarz, qatz, qavz,
 ↓reduceIte, Nat.reduceEqDiff, Option.map_some, qazz, qbbz, qbfz, qbhz, qbjz, qblz, qbpz, qccz, beq_true, decide_false,
 Int.ofNat_lt, Bool.false_eq_true, reduceCtorEq, ne_eq, not_true_eq_false]
      exact ⟨.bool false, rfl, by rw [show nmB l = false by simp [nmB, g0]]; exact hk.leave rfl (fun _ _ => rfl)⟩
    · have hp := List.length_pos_iff.2 g0
      by_cases g2 : l.length ≤ 64
      · have e2 : (l.length : Int) ≤ 64 := by omega
        simp (maxSteps := 1000000) (disch := omega) only [h0, h6, h7, hlt, g0, len_s, e2, qaaz, qabz, qacz, qagz, qaiz, qajz, qakz, qalz, qamz, qanz, evOp, qaoz, qapz, qarz, qatz, qavz,
 ↓reduceIte, Nat.reduceEqDiff, Option.map_some, qazz, qbbz, qbfz, qbhz, qbjz, qblz, qbpz, qbqz, qccz, beq_true, decide_true, decide_false,
 Int.ofNat_lt, Bool.false_eq_true, reduceCtorEq, ne_eq, not_false_eq_true]
        exact ⟨.bool true, rfl, by rw [show nmB l = true by simp only [nmB, ha, Bool.and_true, Bool.and_eq_true, decide_eq_true_eq]; omega]; exact hk.leave rfl (fun _ _ => rfl)⟩
      · have e2 : ¬ (l.length : Int) ≤ 64 := by omega
        simp (maxSteps := 1000000) (disch := omega) only [h0, h6, h7, hlt, g0, len_s, e2, qaaz, qabz, qacz, qagz, qaiz, qajz, qakz, qalz, qamz, qanz, evOp, qaoz, qapz, qarz, qatz, qavz,
 ↓reduceIte, Nat.reduceEqDiff, Option.map_some, qazz, qbbz, qbfz, qbhz, qbjz, qblz, qbpz, qbqz, qccz, beq_true, decide_true, decide_false,
 Int.ofNat_lt, Bool.false_eq_true, reduceCtorEq, ne_eq, not_false_eq_true]
        exact ⟨.bool false, rfl, by rw [show nmB l = false by simp [nmB, g2]]; exact hk.leave rfl (fun _ _ => rfl)⟩
theorem sText_spec {l : List UInt8} {m : Nat} (hl : l.length ≤ 1000000) : call prog (.fn 65 []) [.str l, .int .i64 (m : Int)] st = some (.bool (txB l && decide (l.length ≤ m)), st) := by
  refine call_of_W prog_65 ?_
  unfold F_sheet_isText; dsimp only
  simp (maxSteps := 1000000) (disch := omega) only [len_s, qaaz, qabz, qadz, qajz, qalz, evOp, qaoz, qapz, qarz, qatz, qavz,
 ↓reduceIte, List.append_nil, qawz, Option.map_some, qazz, reduceCtorEq]
  obtain ⟨I, hI⟩ : ∃ I : Nat → Env → St → Prop, I = fun k e s' => ∃ (i : Nat), k = l.length - i ∧ i ≤ l.length ∧ Kept st s' ∧ (∀ j, j < i → txC (l.getD j 0) = true) ∧ e 0 = .str l ∧ e 1 = .int .i64 (m : Int) ∧ e 7 = .int .i64 (l.length : Int) ∧ e 8 = .int .i64 (i : Int) := ⟨_, rfl⟩
  refine W_loop I ?_ (n := l.length) (by
    rw [hI]
    exact ⟨0, rfl, by omega, Kept.start, fun j h => by omega, rfl, rfl, rfl, rfl⟩)
  intro k e s' hh
  rw [hI] at hh
  obtain ⟨i, rfl, hi, hk, hall, h0, h1, h7, h8⟩ := hh
  by_cases hlt : i < l.length
  · obtain ⟨c, hc⟩ : ∃ c, c = l.getD i 0 := ⟨_, rfl⟩
    have bad : txC c = false → ∀ E : Env, E 4 = .bool false → ∃ rv, resOf E s' [.tmp 4] = some rv ∧ leave st s' rv = (.bool (txB l && decide (l.length ≤ m)), st) := fun h E k2 =>
      ⟨.bool false, by simp [resOf, rvAll, rv1, k2, notTup, packRes], by
        rw [show txB l = false by simp only [txB, all_bad (p := txC) hlt (by rw [← hc]; exact h), Bool.false_and], Bool.false_and]
        exact hk.leave rfl (fun _ _ => rfl)⟩
    have good : txC c = true → ∀ E : Env, E 0 = .str l → E 1 = .int .i64 (m : Int) → E 7 = .int .i64 (l.length : Int) → E 8 = .int .i64 ((i + 1 : Nat) : Int) → I (l.length - (i + 1)) E s' := fun h E k0 k1 k7 k8 => by
      rw [hI]
      refine ⟨i + 1, rfl, by omega, hk, fun j hj => ?_, k0, k1, k7, k8⟩
      by_cases hji : j = i
      · subst hji; rw [← hc]; exact h
      · exact hall j (by omega)
    by_cases q1 : c < 32
    · by_cases q2 : c = 9
      · have q3 : ¬ c = 127 := by rintro rfl; exact absurd q1 (by decide)
        simp (maxSteps := 1000000) (disch := omega) only [h0, h7, h8, hlt, idx_s, ← hc, eq_true q1, eq_true q2, q3, add_n, qaaz, qabz, qacz, qadz, qaez, qajz, qakz, qalz, qamz, qanz, evOp, qaoz, qapz, qarz, qatz, qavz,
 ↓reduceIte, Nat.reduceEqDiff, Option.map_some, qazz, qbdz, qbhz, qbpz, qbvz, qbwz, qbxz, beq_true, beq_false, decide_true, decide_false,
 Int.toNat_natCast, Int.ofNat_lt, Bool.false_eq_true, Int.reduceToNat, reduceCtorEq, Bool.not_false, ne_eq, not_true_eq_false]
        exact loopQ_intro (m := l.length - (i + 1)) (by omega) (good (by simp [txC, q2]) _ h0 h1 h7 rfl)
      · simp (maxSteps := 1000000) (disch := omega) only [h0, h7, h8, hlt, idx_s, ← hc, eq_true q1, q2, qaaz, qabz, qacz, qadz, qaez, qaiz, qajz, qakz, qalz, qamz, qanz, evOp, qaoz, qapz, qarz, qatz, qavz,
 ↓reduceIte, Nat.reduceEqDiff, Option.map_some, qazz, qbaz, qbez, qbhz, qbiz, qblz, qbpz, qbwz, qbxz, beq_true, beq_false, decide_true, Int.toNat_natCast, Int.ofNat_lt, Bool.false_eq_true, reduceCtorEq, Bool.not_true, ne_eq, not_false_eq_true]
        exact bad (by simp [txC, q1, q2]) _ rfl
    · by_cases q3 : c = 127
      · simp (maxSteps := 1000000) (disch := omega) only [h0, h7, h8, hlt, idx_s, ← hc, q1, eq_true q3, qaaz, qabz, qacz, qadz, qaez, qaiz, qajz, qakz, qalz, qamz, qanz, evOp, qaoz, qapz, qarz, qatz, qavz,
 ↓reduceIte, Nat.reduceEqDiff, Option.map_some, qazz, qbaz, qbez, qbhz, qbiz, qblz, qbpz, qbvz, qbxz, beq_true, beq_false, decide_true, decide_false,
 Int.toNat_natCast, Int.ofNat_lt, Bool.false_eq_true, reduceCtorEq, Bool.not_false]
        exact bad (by simp [txC, q3]) _ rfl
      · simp (maxSteps := 1000000) (disch := omega) only [h0, h7, h8, hlt, idx_s, ← hc, q1, q3, add_n, qaaz, qabz, qacz, qadz, qaez, qajz, qakz, qalz, qamz, qanz, evOp, qaoz, qapz, qarz, qatz, qavz,
 ↓reduceIte, Nat.reduceEqDiff, Option.map_some, qazz, qbdz, qbhz, qbpz, qbvz, qbxz, beq_true, beq_false, decide_true, decide_false,
 Int.toNat_natCast, Int.ofNat_lt, Bool.false_eq_true, Int.reduceToNat, reduceCtorEq, Bool.not_false]
        exact loopQ_intro (m := l.length - (i + 1)) (by omega) (good (by simp [txC, q1, q3]) _ h0 h1 h7 rfl)
  · obtain rfl : i = l.length := by omega
    have ha := all_getD (p := txC) hall
    by_cases g1 : l.length ≤ m
    · have hv := uValid_spec (st := s'.tok1) (x := .bys (.own s'.toks.length) l) (l := l) rfl (by omega)
      simp (maxSteps := 1000000) (disch := omega) only [h0, h1, h7, h8, hlt, len_s, g1, freshT_eq, hv, qaaz, qabz, qacz, qagz, qaiz, qajz, qakz, qalz, qamz, qanz, evOp, qaoz, qaqz, qarz, qatz, qavz,
 ↓reduceIte, Nat.reduceEqDiff, List.map_cons, List.map_nil, Option.map_some, qazz, qbbz, qbfz, qbhz, qbjz, qblz, qbpz, qbqz, beq_true, decide_true, decide_false,
 Int.ofNat_lt, Int.ofNat_le, Bool.false_eq_true, reduceCtorEq]
      exact ⟨.bool (validOf l), rfl, by rw [show (txB l && true) = validOf l by simp [txB, ha]]; exact hk.tok1.leave rfl (fun _ _ => rfl)⟩
    · simp (maxSteps := 1000000) (disch := omega) only [h0, h1, h7, h8, hlt, len_s, g1, qaaz, qabz, qacz, qagz, qaiz, qajz, qakz, qalz, qamz, qanz, evOp, qaoz, qapz, qarz, qatz, qavz,
 ↓reduceIte, Nat.reduceEqDiff, Option.map_some, qazz, qbbz, qbfz, qbhz, qbjz, qblz, qbpz, qbqz, beq_true, decide_false,
 Int.ofNat_lt, Int.ofNat_le, Bool.false_eq_true, reduceCtorEq]
      exact ⟨.bool false, rfl, by rw [Bool.and_false]; exact hk.leave rfl (fun _ _ => rfl)⟩

end Go.Ab
/-
  Lines that may be.
-/
namespace Go.Ab
variable {st s : St} {e : Env}

structure Ln where
  n : List UInt8
  pv : PV
  ps : List Fld
  v : List UInt8
def lV (L : Ln) : PV := .agg [.str L.n, L.pv, .str L.v]
structure Ln.ok (L : Ln) : Prop where
  vs : L.pv.vs 2 = some (L.ps.map fV)
  ib : ∀ n, L.pv.inB n = true
  lf : leafOk L.pv = true
  tk : tokOf L.pv = none
  l1 : L.n.length ≤ 300
  l2 : L.v.length ≤ 5000
  l3 : L.ps.length ≤ 30
  l4 : ∀ p ∈ L.ps, p.1.length + p.2.length ≤ 500

structure Ln.okR (L : Ln) : Prop where
  vs : L.pv.vs 2 = some (L.ps.map fV)
  ib : ∀ n, L.pv.inB n = true
  lf : leafOk L.pv = true
  l1 : L.n.length ≤ 1000000
  l2 : L.v.length ≤ 1000000
  l3 : L.ps.length ≤ 1000000
  l4 : ∀ p ∈ L.ps, p.1.length + p.2.length ≤ 1000000
theorem Ln.ok.r {L : Ln} (h : L.ok) : L.okR := ⟨h.vs, h.ib, h.lf, by have := h.l1; omega, by have := h.l2; omega, by have := h.l3; omega, fun p hp => by have := h.l4 p hp; omega⟩

def parOK (p : Fld) : Prop := nmB p.1 = true ∧ txB p.2 = true ∧ p.2.length ≤ 256 ∧ hasB p.2 [34] = false
def rtP (L : Ln) : Prop := nmB L.n = true ∧ txB L.v = true ∧ L.v.length ≤ 4096 ∧ L.ps.length ≤ 16 ∧ (∀ i, i < L.ps.length → parOK (L.ps.getD i ([], []))) ∧ ∀ i, i < L.ps.length → ∀ k, k < i → (L.ps.getD k ([], [])).1 ≠ (L.ps.getD i ([], [])).1
noncomputable def rtB (L : Ln) : Bool := @decide (rtP L) (Classical.propDecidable _)
theorem rtB_true {L : Ln} (h : rtP L) : rtB L = true := by unfold rtB; simp [h]
theorem rtB_false {L : Ln} (h : ¬ rtP L) : rtB L = false := by unfold rtB; simp [h]

def At (s : St) (b : Nat) (cs : List PV) : Prop := s.boxes[b]? = some cs
theorem At.alloc {b : Nat} {cs z : List PV} {T : List Bool} {Lp : List LoopS} {lo : Nat} (h : At s b cs) : At ⟨s.boxes ++ [z], T, Lp, lo⟩ b cs := by
  unfold At at *
  have := (List.getElem?_eq_some_iff.1 h).1
  show (s.boxes ++ [z])[b]? = _
  rw [List.getElem?_append_left this]; exact h
theorem At.last {z : List PV} {T : List Bool} {Lp : List LoopS} {lo : Nat} : At ⟨s.boxes ++ [z], T, Lp, lo⟩ s.boxes.length z := by
  unfold At; simp
theorem At.load {b k : Nat} {cs : List PV} {v : PV} {r : List PV} (h : At s b cs) (hk : cs.drop k = v :: r) : loadPV s false 1 (.ptr b k) = some v := by
  unfold At at h
  simp [loadPV, h, hk, readCells]
theorem slc_vs {x : PV} {xs : List PV} {esz : Nat} {k : IntKind} {c : Nat} (h : x.vs esz = some xs) (he : esz ≠ 0) (hc : c ≤ xs.length) : ∃ y, slcPV esz x none (some (.int k (c : Int))) none = some y ∧ y.vs esz = some (xs.take c) := by
  rcases vs_cases h with ⟨rfl, rfl⟩ | ⟨t, rfl⟩
  · simp at hc; subst hc
    exact ⟨.nils, by simp [slcPV, bnd, intOf, he], by simp [PV.vs]⟩
  · exact ⟨.sl esz .no (xs.take c), by simp [slcPV, bnd, intOf, he, sufTok, hc], by simp [PV.vs]⟩

theorem box_l {L : Ln} (h : L.okR) {n : Nat} : (lV L).inB n = true ∧ (lV L).cells.all leafOk = true := by
  constructor
  · simp [lV, PV.inB, PV.inB.inBAll, h.ib]
  · show (leafOk (.str L.n) && (leafOk L.pv && (leafOk (.str L.v) && true))) = true
    rw [h.lf]; rfl

set_option maxHeartbeats 1000000 in
theorem sRightR_spec {L : Ln} (h : L.okR) : call prog (.fn 50 []) [lV L] st = some (.bool (rtB L), st) := by
  refine call_of_W prog_50 ?_
  unfold F_sheet_Right; dsimp only
  have hbx := box_l h (n := st.boxes.length)
  obtain ⟨q, hq⟩ : ∃ q, q = lV L := ⟨_, rfl⟩
  rw [← hq] at hbx
  have hqc : q.cells = [.str L.n, L.pv, .str L.v] := by rw [hq]; rfl
  rw [hqc] at hbx
  have hll := len_vs h.vs
  rw [List.length_map] at hll
  have hl3 := h.l3
  obtain ⟨b0, hb0⟩ : ∃ b0, b0 = st.boxes.length := ⟨_, rfl⟩
  refine W_cut (fun E S => Kept st S ∧ At S b0 [.str L.n, L.pv, .str L.v] ∧ E 1 = .ptr b0 0) ?_ ?_
  · rw [← hq]
    simp (maxSteps := 1000000) (disch := omega) only [hbx.1, hbx.2, and_self, allocPV, hqc, qabz, qajz, qalz, evOp, qaoz, qapz, qarz, qatz, qavz,
 ↓reduceIte, Nat.reduceEqDiff, List.append_nil, qawz, true_and]
    refine ⟨Kept.start.alloc, ?_, by rw [hb0]⟩
    rw [hb0]; exact At.last
  clear hbx hqc hq
  rintro e S ⟨hk, hA, h1⟩
  have fin : ∀ (E : Env) (S : St) (b : Bool), Kept st S → rtB L = b → E 2 = .bool b → ∃ rv, resOf E S [.tmp 2] = some rv ∧ leave st S rv = (.bool (rtB L), st) := fun E S b k1 hb k2 =>
    ⟨.bool b, by simp [resOf, rvAll, rv1, k2, notTup, packRes], by rw [hb]; exact k1.leave rfl (fun _ _ => rfl)⟩
  have hld1 := fun (S : St) (hA : At S b0 [.str L.n, L.pv, .str L.v]) => hA.load (k := 1) (v := L.pv) (r := [.str L.v]) rfl
  have hld0 := fun (S : St) (hA : At S b0 [.str L.n, L.pv, .str L.v]) => hA.load (k := 0) (v := .str L.n) (r := [L.pv, .str L.v]) rfl
  have hld2 := fun (S : St) (hA : At S b0 [.str L.n, L.pv, .str L.v]) => hA.load (k := 2) (v := .str L.v) (r := []) rfl
  simp (maxSteps := 1000000) (disch := omega) only [h1, faddrPV, Nat.zero_add, hld1 S hA, hll, qaaz, qabz, qadz, qajz, qalz, evOp, qaoz, qapz, qarz, qatz, qavz,
 ↓reduceIte, Option.map_some, qazz]
  obtain ⟨I, hI⟩ : ∃ I : Nat → Env → St → Prop, I = fun z E S => ∃ i, z = L.ps.length - i ∧ i ≤ L.ps.length ∧ Kept st S ∧ At S b0 [.str L.n, L.pv, .str L.v] ∧ (∀ j, j < i → parOK (L.ps.getD j ([], [])) ∧ ∀ k, k < j → (L.ps.getD k ([], [])).1 ≠ (L.ps.getD j ([], [])).1) ∧ E 1 = .ptr b0 0 ∧ E 8 = L.pv ∧ E 9 = .int .i64 (L.ps.length : Int) ∧ E 10 = .int .i64 (i : Int) := ⟨_, rfl⟩
  refine W_loop I ?_ (n := L.ps.length) (by
    rw [hI]
    exact ⟨0, rfl, by omega, hk, hA, fun j hj => by omega, h1, rfl, rfl, rfl⟩)
  clear hk hA h1
  intro z e S hh
  rw [hI] at hh
  obtain ⟨i, rfl, hi, hk, hA, hall, h1, h8, h9, h10⟩ := hh
  by_cases hlt : i < L.ps.length
  · obtain ⟨f, hfe⟩ : ∃ f, f = L.ps.getD i ([], []) := ⟨_, rfl⟩
    have hfm : f ∈ L.ps := by rw [hfe]; simp [List.getD, hlt]
    have hf4 := h.l4 f hfm
    have hnot : ¬ parOK f → ¬ rtP L := fun hn hp => hn (by rw [hfe]; exact hp.2.2.2.2.1 i hlt)
    have hnm : ∀ S : St, call prog (.fn 64 []) [.str f.1] S = some (.bool (nmB f.1), S) := fun S => sName_spec (by omega)
    have htx : ∀ S : St, call prog (.fn 65 []) [.str f.2, .int .i64 256] S = some (.bool (txB f.2 && decide (f.2.length ≤ 256)), S) := fun S => sText_spec (m := 256) (by omega)
    have hco : ∀ S : St, call prog (.fn 66 []) [.str f.2, .str [34]] S = some (.bool (hasB f.2 [34]), S) := fun S => Contains_spec (by omega)
    have hk2 := hk.alloc' (z := [.str f.1, .str f.2])
    have hA2 := hA.alloc (z := [.str f.1, .str f.2]) (T := S.toks) (Lp := S.loops) (lo := S.low)
    cases q1 : nmB f.1 with
    | false =>
      rw [q1] at hnm
      simp (maxSteps := 1000000) (disch := omega) only [h8, h9, h10, hlt, iaddr_f h.vs, ← hfe, load_f2, allocPV, store_f, faddrPV, Nat.add_zero, load_b0, hnm, qaaz, qabz, qacz, qadz, qaez, qaiz, qajz, qakz, qalz, qamz, qanz, evOp, qaoz, qapz, qaqz, qarz, qatz, qauz, qavz,
 ↓reduceIte, Nat.reduceEqDiff, List.map_cons, List.map_nil, Option.map_some, qazz, qbaz, qbez, qbhz, qbiz, qblz, qbpz, qcfz, beq_false, decide_true, Int.toNat_natCast, Int.ofNat_lt, Bool.false_eq_true, Bool.not_true, Bool.not_false]
      exact fin _ _ false hk2 (rtB_false (hnot fun hp => by rw [hp.1] at q1; cases q1)) rfl
    | true =>
    rw [q1] at hnm
    cases q2 : (txB f.2 && decide (f.2.length ≤ 256)) with
    | false =>
      rw [q2] at htx
      simp (maxSteps := 1000000) (disch := omega) only [h8, h9, h10, hlt, iaddr_f h.vs, ← hfe, load_f2, allocPV, store_f, faddrPV, Nat.add_zero, Nat.zero_add, load_b0, load_b1, hnm, htx, qaaz, qabz, qacz, qadz, qaez, qaiz, qajz, qakz, qalz, qamz, qanz, evOp, qaoz, qapz, qaqz, qarz, qatz, qauz, qavz,
 ↓reduceIte, Nat.reduceEqDiff, List.map_cons, List.map_nil, Option.map_some, qazz, qbaz, qbez, qbhz, qbiz, qblz, qbpz, qcfz, beq_false, decide_true, Int.toNat_natCast, Int.ofNat_lt, Bool.false_eq_true, Bool.not_true, Bool.not_false]
      exact fin _ _ false hk2 (rtB_false (hnot fun hp => by rw [hp.2.1] at q2; simp [hp.2.2.1] at q2)) rfl
    | true =>
    rw [q2] at htx
    cases q3 : hasB f.2 [34] with
    | true =>
      rw [q3] at hco
      simp (maxSteps := 1000000) (disch := omega) only [h8, h9, h10, hlt, iaddr_f h.vs, ← hfe, load_f2, allocPV, store_f, faddrPV, Nat.add_zero, Nat.zero_add, load_b0, load_b1, hnm, htx, hco, qaaz, qabz, qacz, qadz, qaez, qaiz, qajz, qakz, qalz, qamz, qanz, evOp, qaoz, qapz, qaqz, qarz, qatz, qauz, qavz,
 ↓reduceIte, Nat.reduceEqDiff, List.map_cons, List.map_nil, Option.map_some, qazz, qbaz, qbez, qbhz, qbiz, qblz, qbpz, qcfz, beq_false, decide_true, Int.toNat_natCast, Int.ofNat_lt, Bool.false_eq_true, Bool.not_true, Bool.not_false]
      exact fin _ _ false hk2 (rtB_false (hnot fun hp => by rw [hp.2.2.2] at q3; cases q3)) rfl
    | false =>
    rw [q3] at hco
    have hpar : parOK f := by
      simp only [Bool.and_eq_true, decide_eq_true_eq] at q2
      exact ⟨q1, q2.1, q2.2, q3⟩
    obtain ⟨y, hy1, hy2⟩ := slc_vs (k := .i64) (c := i) h.vs (by omega) (by simpa using hi)
    rw [← List.map_take] at hy2
    have hly := len_vs hy2
    rw [List.length_map, List.length_take, Nat.min_eq_left hi] at hly
    simp (maxSteps := 1000000) (disch := omega) only [h1, h8, h9, h10, hlt, iaddr_f h.vs, ← hfe, load_f2, allocPV, store_f, faddrPV, Nat.add_zero, Nat.zero_add, load_b0, load_b1, hnm, htx, hco, hld1 _ hA2, hy1, hly, qaaz, qabz, qacz, qadz, qaez, qajz, qakz, qalz, qamz, qanz, evOp, qaoz, qapz, qaqz, qarz, qatz, qauz, qavz,
 ↓reduceIte, Nat.reduceEqDiff, List.map_cons, List.map_nil, Option.map_some, Option.map_none, qazz, qbhz, qbpz, qcfz, beq_false, decide_true, Int.toNat_natCast, Int.ofNat_lt, Bool.false_eq_true, Bool.not_true, Bool.not_false]
    obtain ⟨b1, hb1⟩ : ∃ b1, b1 = S.boxes.length := ⟨_, rfl⟩
    obtain ⟨II, hII⟩ : ∃ II : Nat → Env → St → Prop, II = fun z E S => ∃ k, z = i - k ∧ k ≤ i ∧ Kept st S ∧ At S b0 [.str L.n, L.pv, .str L.v] ∧ At S b1 [.str f.1, .str f.2] ∧ (∀ j, j < k → (L.ps.getD j ([], [])).1 ≠ f.1) ∧ E 1 = .ptr b0 0 ∧ E 4 = .ptr b1 0 ∧ E 8 = L.pv ∧ E 9 = .int .i64 (L.ps.length : Int) ∧ E 10 = .int .i64 (i : Int) ∧ E 33 = y ∧ E 34 = .int .i64 (i : Int) ∧ E 35 = .int .i64 (k : Int) := ⟨_, rfl⟩
    refine W_loop II ?_ (n := i) (by
      rw [hII]
      exact ⟨0, rfl, by omega, hk2, hA2, by rw [hb1]; exact At.last, fun j hj => by omega, h1, by rw [hb1]; rfl, h8, h9, h10, rfl, rfl, rfl⟩)
    clear hk hA hk2 hA2 h1 h8 h9 h10
    intro z e S hh
    rw [hII] at hh
    obtain ⟨k, rfl, hki, hk, hA, hB, hdif, h1, h4, h8, h9, h10, h33, h34, h35⟩ := hh
    have hldB := hB.load (k := 0) (v := .str f.1) (r := [.str f.2]) rfl
    by_cases hkt : k < i
    · obtain ⟨g, hge⟩ : ∃ g, g = L.ps.getD k ([], []) := ⟨_, rfl⟩
      have hgt : (L.ps.take i).getD k ([], []) = g := by
        rw [hge]; simp [List.getD, hkt]
      have hiy := iaddr_f (k := .i64) (c := (k : Int)) hy2 (by omega) (by rw [Int.toNat_natCast, List.length_take, Nat.min_eq_left hi]; exact hkt)
      rw [Int.toNat_natCast, hgt] at hiy
      have hk3 := hk.alloc' (z := [.str g.1, .str g.2])
      have hA3 := hA.alloc (z := [.str g.1, .str g.2]) (T := S.toks) (Lp := S.loops) (lo := S.low)
      have hB3 := hB.alloc (z := [.str g.1, .str g.2]) (T := S.toks) (Lp := S.loops) (lo := S.low)
      have hldB3 := hB3.load (k := 0) (v := .str f.1) (r := [.str f.2]) rfl
      by_cases hgf : g.1 = f.1
      · simp (maxSteps := 1000000) (disch := omega) only [h4, h33, h34, h35, hkt, hiy, load_f2, allocPV, store_f, faddrPV, Nat.add_zero, load_b0, hldB3, eq_true hgf, qaaz, qabz, qacz, qadz, qaez, qaiz, qajz, qalz, evOp, qaoz, qapz, qarz, qatz, qauz, qavz,
 ↓reduceIte, Nat.reduceEqDiff, Option.map_some, qazz, qbaz, qbez, qbhz, qbiz, qblz, qbpz, qcbz, decide_true, Int.ofNat_lt]
        exact fin _ _ false hk3 (rtB_false fun hp => hp.2.2.2.2.2 i hlt k hkt (by rw [← hge, ← hfe]; exact hgf)) rfl
      · simp (maxSteps := 1000000) (disch := omega) only [h4, h33, h34, h35, hkt, hiy, load_f2, allocPV, store_f, faddrPV, Nat.add_zero, load_b0, hldB3, hgf, add_n, qaaz, qabz, qacz, qadz, qaez, qajz, qalz, evOp, qaoz, qapz, qarz, qatz, qauz, qavz,
 ↓reduceIte, Nat.reduceEqDiff, Option.map_some, qazz, qbdz, qbhz, qbpz, qcbz, decide_true, decide_false,
 Int.ofNat_lt, Bool.false_eq_true, Int.reduceToNat]
        refine loopQ_intro (m := i - (k + 1)) (by omega) ?_
        rw [hII]
        refine ⟨k + 1, rfl, by omega, hk3, hA3, hB3, fun j hj => ?_, h1, h4, h8, h9, h10, h33, h34, rfl⟩
        by_cases hjk : j = k
        · subst hjk; rw [← hge]; exact hgf
        · exact hdif j (by omega)
    · obtain rfl : k = i := by omega
      simp (maxSteps := 1000000) (disch := omega) only [h10, h34, h35, hkt, add_n, qaaz, qabz, qacz, qagz, qajz, qalz, evOp, qaoz, qapz, qarz, qatz, qavz,
 ↓reduceIte, Nat.reduceEqDiff, Option.map_some, qazz, qbbz, qbdz, qbfz, qbhz, qbjz, qbpz, decide_false,
 Int.ofNat_lt, Bool.false_eq_true, Int.reduceToNat]
      refine loopQ_intro (m := L.ps.length - (k + 1)) (by omega) ?_
      rw [hI]
      refine ⟨k + 1, rfl, by omega, hk, hA, fun j hj => ?_, h1, h8, h9, rfl⟩
      by_cases hji : j = k
      · subst hji
        refine ⟨by rw [← hfe]; exact hpar, fun k' hk' => by rw [← hfe]; exact hdif k' hk'⟩
      · exact hall j (by omega)
  · obtain rfl : i = L.ps.length := by omega
    have hnm : ∀ S : St, call prog (.fn 64 []) [.str L.n] S = some (.bool (nmB L.n), S) := fun S => sName_spec (by have := h.l1; omega)
    have htx : ∀ S : St, call prog (.fn 65 []) [.str L.v, .int .i64 4096] S = some (.bool (txB L.v && decide (L.v.length ≤ 4096)), S) := fun S => sText_spec (m := 4096) (by have := h.l2; omega)
    cases q1 : nmB L.n with
    | false =>
      rw [q1] at hnm
      simp (maxSteps := 1000000) (disch := omega) only [h1, h9, h10, hlt, faddrPV, Nat.zero_add, hld0 S hA, hnm, qaaz, qabz, qacz, qagz, qaiz, qajz, qakz, qalz, qamz, qanz, evOp, qaoz, qapz, qaqz, qarz, qatz, qavz,
 ↓reduceIte, Nat.reduceEqDiff, List.map_cons, List.map_nil, Option.map_some, qazz, qbbz, qbfz, qbhz, qbjz, qblz, qbpz, beq_true, decide_false,
 Int.ofNat_lt, Bool.false_eq_true]
      exact fin _ _ false hk (rtB_false fun hp => by rw [hp.1] at q1; cases q1) rfl
    | true =>
    rw [q1] at hnm
    cases q2 : (txB L.v && decide (L.v.length ≤ 4096)) with
    | false =>
      rw [q2] at htx
      simp (maxSteps := 1000000) (disch := omega) only [h1, h9, h10, hlt, faddrPV, Nat.zero_add, hld0 S hA, hld2 S hA, hnm, htx, qaaz, qabz, qacz, qagz, qaiz, qajz, qakz, qalz, qamz, qanz, evOp, qaoz, qapz, qaqz, qarz, qatz, qavz,
 ↓reduceIte, Nat.reduceEqDiff, List.map_cons, List.map_nil, Option.map_some, qazz, qbbz, qbfz, qbhz, qbjz, qblz, qbpz, beq_true, decide_false,
 Int.ofNat_lt, Bool.false_eq_true]
      exact fin _ _ false hk (rtB_false fun hp => by rw [hp.2.1] at q2; simp [hp.2.2.1] at q2) rfl
    | true =>
    rw [q2] at htx
    simp only [Bool.and_eq_true, decide_eq_true_eq] at q2
    by_cases q3 : L.ps.length ≤ 16
    · have e3 : (L.ps.length : Int) ≤ 16 := by omega
      simp (maxSteps := 1000000) (disch := omega) only [h1, h9, h10, hlt, faddrPV, Nat.zero_add, hld0 S hA, hld1 S hA, hld2 S hA, hnm, htx, hll, e3, qaaz, qabz, qacz, qagz, qaiz, qajz, qakz, qalz, qamz, qanz, evOp, qaoz, qapz, qaqz, qarz, qatz, qavz,
 ↓reduceIte, Nat.reduceEqDiff, List.map_cons, List.map_nil, Option.map_some, qazz, qbbz, qbfz, qbhz, qbjz, qblz, qbpz, qbqz, beq_true, decide_true, decide_false,
 Int.ofNat_lt, Bool.false_eq_true]
      exact fin _ _ true hk (rtB_true ⟨q1, q2.1, q2.2, q3, fun i hi => (hall i hi).1, fun i hi => (hall i hi).2⟩) rfl
    · have e3 : ¬ (L.ps.length : Int) ≤ 16 := by omega
      simp (maxSteps := 1000000) (disch := omega) only [h1, h9, h10, hlt, faddrPV, Nat.zero_add, hld0 S hA, hld1 S hA, hld2 S hA, hnm, htx, hll, e3, qaaz, qabz, qacz, qagz, qaiz, qajz, qakz, qalz, qamz, qanz, evOp, qaoz, qapz, qaqz, qarz, qatz, qavz,
 ↓reduceIte, Nat.reduceEqDiff, List.map_cons, List.map_nil, Option.map_some, qazz, qbbz, qbfz, qbhz, qbjz, qblz, qbpz, qbqz, beq_true, decide_false,
 Int.ofNat_lt, Bool.false_eq_true]
      exact fin _ _ false hk (rtB_false fun hp => q3 hp.2.2.2.1) rfl
theorem sRight_spec {L : Ln} (h : L.ok) : call prog (.fn 50 []) [lV L] st = some (.bool (rtB L), st) := sRightR_spec h.r
end Go.Ab
/-
  Lines that may be, by the document.
-/
namespace Go.Ab
variable {st s : St} {e : Env}

theorem load_ch {a : PV} {r : List PV} : loadPV st false 1 (.cp (a :: r)) = some a := rfl

def quoteOf (v : List UInt8) : List UInt8 := if hasB v [59] = true ∨ hasB v [58] = true ∨ hasB v [44] = true then 34 :: (v ++ [34]) else v
def parOf (p : Fld) : List UInt8 := 59 :: (p.1 ++ 61 :: quoteOf p.2)
def textOfL (L : Ln) : List UInt8 := L.n ++ L.ps.flatMap parOf ++ 58 :: L.v
end Go.Ab
/-
  A line as a text.
-/
namespace Go.Ab
variable {st s : St} {e : Env}

theorem quote_len {v : List UInt8} : (quoteOf v).length ≤ v.length + 2 := by
  unfold quoteOf; split <;> simp
theorem parOf_len {p : Fld} : (parOf p).length ≤ p.1.length + p.2.length + 4 := by
  have := quote_len (v := p.2)
  unfold parOf; simp; omega
theorem pars_len : ∀ {ps : List Fld}, (∀ p ∈ ps, p.1.length + p.2.length ≤ 500) → (ps.flatMap parOf).length ≤ ps.length * 600 := by
  intro ps
  induction ps with
  | nil => intro _; simp
  | cons p r ih =>
    intro h
    have h1 := h p (by simp)
    have h2 := parOf_len (p := p)
    have h3 := ih (fun q hq => h q (by simp [hq]))
    simp only [List.flatMap_cons, List.length_append, List.length_cons]
    omega
theorem textL_len {L : Ln} (h : L.ok) : (textOfL L).length ≤ 23400 := by
  have h1 := pars_len h.l4
  have h2 := h.l1; have h3 := h.l2; have h4 := h.l3
  unfold textOfL
  simp only [List.length_append, List.length_cons]
  omega

set_option maxHeartbeats 1000000 in
theorem line_spec {L : Ln} (h : L.ok) : call prog (.fn 60 []) [lV L] st = some (.str (textOfL L), st) := by
  refine call_of_W prog_60 ?_
  unfold F_sheet_line; dsimp only
  have hbx := box_l h.r (n := st.boxes.length)
  obtain ⟨q, hq⟩ : ∃ q, q = lV L := ⟨_, rfl⟩
  rw [← hq] at hbx
  have hqc : q.cells = [.str L.n, L.pv, .str L.v] := by rw [hq]; rfl
  rw [hqc] at hbx
  have hll := len_vs h.vs
  rw [List.length_map] at hll
  have hl1 := h.l1; have hl2 := h.l2; have hl3 := h.l3
  obtain ⟨b0, hb0⟩ : ∃ b0, b0 = st.boxes.length := ⟨_, rfl⟩
  refine W_cut (fun E S => Kept st S ∧ At S b0 [.str L.n, L.pv, .str L.v] ∧ E 1 = .ptr b0 0) ?_ ?_
  · rw [← hq]
    simp (maxSteps := 1000000) (disch := omega) only [hbx.1, hbx.2, and_self, allocPV, hqc, qabz, qajz, qalz, evOp, qaoz, qapz, qarz, qatz, qavz,
 ↓reduceIte, Nat.reduceEqDiff, List.append_nil, qawz, true_and]
    refine ⟨Kept.start.alloc, ?_, by rw [hb0]⟩
    rw [hb0]; exact At.last
  clear hbx hqc hq
  rintro e S ⟨hk, hA, h1⟩
  have hld1 := fun (S : St) (hA : At S b0 [.str L.n, L.pv, .str L.v]) => hA.load (k := 1) (v := L.pv) (r := [.str L.v]) rfl
  have hld0 := fun (S : St) (hA : At S b0 [.str L.n, L.pv, .str L.v]) => hA.load (k := 0) (v := .str L.n) (r := [L.pv, .str L.v]) rfl
  have hld2 := fun (S : St) (hA : At S b0 [.str L.n, L.pv, .str L.v]) => hA.load (k := 2) (v := .str L.v) (r := []) rfl
  simp (maxSteps := 1000000) (disch := omega) only [h1, faddrPV, Nat.zero_add, hld0 S hA, hld1 S hA, hll, qaaz, qabz, qadz, qajz, qalz, evOp, qaoz, qapz, qarz, qatz, qavz,
 ↓reduceIte, Nat.reduceEqDiff, Option.map_some, qazz]
  obtain ⟨I, hI⟩ : ∃ I : Nat → Env → St → Prop, I = fun z E S => ∃ i, z = L.ps.length - i ∧ i ≤ L.ps.length ∧ Kept st S ∧ At S b0 [.str L.n, L.pv, .str L.v] ∧ E 1 = .ptr b0 0 ∧ E 3 = .str (L.n ++ (L.ps.take i).flatMap parOf) ∧ E 10 = L.pv ∧ E 11 = .int .i64 (L.ps.length : Int) ∧ E 12 = .int .i64 (i : Int) := ⟨_, rfl⟩
  refine W_loop I ?_ (n := L.ps.length) (by
    rw [hI]
    exact ⟨0, rfl, by omega, hk, hA, h1, by simp [upd], rfl, rfl, rfl⟩)
  clear hk hA h1
  intro z e S hh
  rw [hI] at hh
  obtain ⟨i, rfl, hi, hk, hA, h1, h3, h10, h11, h12⟩ := hh
  obtain ⟨out, hout⟩ : ∃ out, out = L.n ++ (L.ps.take i).flatMap parOf := ⟨_, rfl⟩
  rw [← hout] at h3
  have hol : out.length ≤ 20000 := by
    have := pars_len (ps := L.ps.take i) (fun p hp => h.l4 p (List.mem_of_mem_take hp))
    rw [hout, List.length_append]
    have h6 : (L.ps.take i).length ≤ 30 := by simp; omega
    omega
  by_cases hlt : i < L.ps.length
  · obtain ⟨f, hfe⟩ : ∃ f, f = L.ps.getD i ([], []) := ⟨_, rfl⟩
    have hfm : f ∈ L.ps := by rw [hfe]; simp [List.getD, hlt]
    have hf4 := h.l4 f hfm
    have hco : ∀ (c : UInt8) (S : St), call prog (.fn 66 []) [.str f.2, .str [c]] S = some (.bool (hasB f.2 [c]), S) := fun c S => Contains_spec (by omega)
    obtain ⟨b1, hb1⟩ : ∃ b1, b1 = S.boxes.length := ⟨_, rfl⟩
    obtain ⟨J, hJ⟩ : ∃ J : Env → St → Prop, J = fun E S => Kept st S ∧ At S b0 [.str L.n, L.pv, .str L.v] ∧ E 1 = .ptr b0 0 ∧ E 3 = .str out ∧ E 10 = L.pv ∧ E 11 = .int .i64 (L.ps.length : Int) ∧ E 12 = .int .i64 (i : Int) := ⟨_, rfl⟩
    refine W_cut (fun E S => J E S ∧ E 13 = .bool true) ?_ ?_
    · simp (maxSteps := 1000000) (disch := omega) only [h1, h3, h10, h11, h12, hlt, hJ, qabz, qajz, qalz, evOp, qaoz, qarz, qatz, qavz,
 ↓reduceIte, Nat.reduceEqDiff, Option.map_some, qbpz, decide_true, Int.ofNat_lt, true_and, and_true]
      exact ⟨hk, hA⟩
    rintro e' S' ⟨hj, h13⟩
    have hSb : True := trivial
    refine W_cut J ?_ ?_
    · simp (maxSteps := 1000000) (disch := omega) only [h13, qacz, qaez, qaoz, ↓reduceIte, qbhz, true_and]
      exact hj
    clear hk hA h1 h3 h10 h11 h12 hj h13 hb1
    intro e S hj
    rw [hJ] at hj
    obtain ⟨hk, hA, h1, h3, h10, h11, h12⟩ := hj
    rw [qaaz, qadz]
    refine W_cut (fun E S => J E S ∧ ∃ b1, At S b1 [.str f.1, .str f.2] ∧ E 5 = .ptr b1 0) ?_ ?_
    · simp (maxSteps := 1000000) (disch := omega) only [h1, h3, h10, h11, h12, iaddr_f h.vs, ← hfe, load_f2, allocPV, store_f, hJ, qabz, qajz, qalz, evOp, qaoz, qarz, qatz, qauz, qavz,
 ↓reduceIte, Nat.reduceEqDiff, Option.map_some, Int.toNat_natCast, true_and, and_true]
      exact ⟨⟨hk.alloc', hA.alloc⟩, S.boxes.length, At.last, rfl⟩
    clear hk hA h1 h3 h10 h11 h12
    rintro e S ⟨hj, b1, hB, h5⟩
    rw [hJ] at hj
    obtain ⟨hk, hA, h1, h3, h10, h11, h12⟩ := hj
    have hB0 := hB.load (k := 0) (v := .str f.1) (r := [.str f.2]) rfl
    have hB1 := hB.load (k := 1) (v := .str f.2) (r := []) rfl
    refine W_cut (fun E S' => S' = S ∧ J E S' ∧ E 5 = .ptr b1 0 ∧ E 6 = .str f.2) ?_ ?_
    · simp (maxSteps := 1000000) (disch := omega) only [h1, h3, h5, h10, h11, h12, faddrPV, Nat.zero_add, hB1, hJ, qabz, qajz, qalz, evOp, qaoz, qarz, qatz, qavz,
 ↓reduceIte, Nat.reduceEqDiff, Option.map_some, true_and, and_true]
      exact ⟨hk, hA⟩
    clear hk hA h1 h3 h5 h10 h11 h12
    rintro e S' ⟨rfl, hj, h5, h6⟩
    rw [hJ] at hj
    obtain ⟨hk, hA, h1, h3, h10, h11, h12⟩ := hj
    have ha1 : ∀ ek, binPV .add ek (.str [34]) (.str f.2) = some (.str (34 :: f.2)) := fun ek => adds (a := [34]) (b := f.2) (by simp; omega)
    have ha2 : ∀ ek, binPV .add ek (.str (34 :: f.2)) (.str [34]) = some (.str (34 :: (f.2 ++ [34]))) := fun ek => adds (a := 34 :: f.2) (b := [34]) (by simp; omega)
    refine W_cut (fun E S2 => S2 = S' ∧ J E S2 ∧ E 5 = .ptr b1 0 ∧ E 6 = .str (quoteOf f.2)) ?_ ?_
    · cases p1 : hasB f.2 [59] with
      | true =>
        have hqo : quoteOf f.2 = 34 :: (f.2 ++ [34]) := by simp [quoteOf, p1]
        rw [hqo]
        simp (maxSteps := 1000000) (disch := omega) only [h1, h3, h5, h6, h10, h11, h12, hco, p1, ha1, ha2, hJ, qaaz, qabz, qacz, qajz, qakz, qalz, qamz, qanz, evOp, qaoz, qapz, qaqz, qarz, qatz, qavz,
 ↓reduceIte, Nat.reduceEqDiff, List.map_cons, List.map_nil, Option.map_some, qazz, qbhz, beq_false, Bool.false_eq_true, true_and, and_true, Bool.not_true]
        exact ⟨hk, hA⟩
      | false =>
        cases p2 : hasB f.2 [58] with
        | true =>
          have hqo : quoteOf f.2 = 34 :: (f.2 ++ [34]) := by simp [quoteOf, p2]
          rw [hqo]
          simp (maxSteps := 1000000) (disch := omega) only [h1, h3, h5, h6, h10, h11, h12, hco, p1, p2, ha1, ha2, hJ, qaaz, qabz, qacz, qajz, qakz, qalz, qamz, qanz, evOp, qaoz, qapz, qaqz, qarz, qatz, qavz,
 ↓reduceIte, Nat.reduceEqDiff, List.map_cons, List.map_nil, Option.map_some, qazz, qbhz, beq_false, Bool.false_eq_true, true_and, and_true, Bool.not_true, Bool.not_false]
          exact ⟨hk, hA⟩
        | false =>
          cases p3 : hasB f.2 [44] with
          | true =>
            have hqo : quoteOf f.2 = 34 :: (f.2 ++ [34]) := by simp [quoteOf, p3]
            rw [hqo]
            simp (maxSteps := 1000000) (disch := omega) only [h1, h3, h5, h6, h10, h11, h12, hco, p1, p2, p3, ha1, ha2, hJ, qaaz, qabz, qacz, qajz, qakz, qalz, qamz, qanz, evOp, qaoz, qapz, qaqz, qarz, qatz, qavz,
 ↓reduceIte, Nat.reduceEqDiff, List.map_cons, List.map_nil, Option.map_some, qazz, qbhz, beq_false, Bool.false_eq_true, true_and, and_true, Bool.not_false]
            exact ⟨hk, hA⟩
          | false =>
            have hqo : quoteOf f.2 = f.2 := by simp [quoteOf, p1, p2, p3]
            rw [hqo]
            simp (maxSteps := 1000000) (disch := omega) only [h1, h3, h5, h6, h10, h11, h12, hco, p1, p2, p3, hJ, qaaz, qabz, qacz, qaez, qajz, qakz, qalz, qamz, qanz, evOp, qaoz, qapz, qaqz, qarz, qatz, qavz,
 ↓reduceIte, Nat.reduceEqDiff, List.map_cons, List.map_nil, qazz, qbhz, beq_false, Bool.false_eq_true, true_and, and_true, Bool.not_false]
            exact ⟨hk, hA⟩
    clear hk hA h1 h3 h5 h6 h10 h11 h12
    rintro e S2 ⟨rfl, hj, h5, h6⟩
    rw [hJ] at hj
    obtain ⟨hk, hA, h1, h3, h10, h11, h12⟩ := hj
    have hql := quote_len (v := f.2)
    have hb1' : ∀ ek, binPV .add ek (.str [59]) (.str f.1) = some (.str (59 :: f.1)) := fun ek => adds (a := [59]) (b := f.1) (by simp; omega)
    have hb2' : ∀ ek, binPV .add ek (.str (59 :: f.1)) (.str [61]) = some (.str (59 :: (f.1 ++ [61]))) := fun ek => adds (a := 59 :: f.1) (b := [61]) (by simp; omega)
    have hb3' : ∀ ek, binPV .add ek (.str (59 :: (f.1 ++ [61]))) (.str (quoteOf f.2)) = some (.str (parOf f)) := fun ek => by
      rw [adds (by simp; omega)]; simp [parOf]
    have hpl := parOf_len (p := f)
    have hb4' : ∀ ek, binPV .add ek (.str out) (.str (parOf f)) = some (.str (out ++ parOf f)) := fun ek => adds (by omega)
    simp (maxSteps := 1000000) (disch := omega) only [h3, h5, h6, h12, faddrPV, Nat.zero_add, hB0, hb1', hb2', hb3', hb4', add_n, qabz, qajz, qalz, evOp, qaoz, qapz, qarz, qatz, qavz,
 ↓reduceIte, Nat.reduceEqDiff, Option.map_some, qazz, qbdz, Int.reduceToNat]
    refine loopQ_intro (m := L.ps.length - (i + 1)) (by omega) ?_
    rw [hI]
    refine ⟨i + 1, rfl, by omega, hk, hA, h1, ?_, h10, h11, rfl⟩
    show PV.str (out ++ parOf f) = _
    rw [hout, take_getD' hlt, ← hfe, List.flatMap_append]
    simp
  · obtain rfl : i = L.ps.length := by omega
    have ha1 : ∀ ek, binPV .add ek (.str out) (.str [58]) = some (.str (out ++ [58])) := fun ek => adds (by simp; omega)
    have ha2 : ∀ ek, binPV .add ek (.str (out ++ [58])) (.str L.v) = some (.str (textOfL L)) := fun ek => by
      rw [adds (by simp; omega), hout, List.take_length]; simp [textOfL]
    simp (maxSteps := 1000000) (disch := omega) only [h1, h3, h11, h12, hlt, faddrPV, Nat.zero_add, hld2 S hA, ha1, ha2, qaaz, qabz, qacz, qagz, qaiz, qajz, qalz, evOp, qaoz, qapz, qarz, qatz, qavz,
 ↓reduceIte, Nat.reduceEqDiff, Option.map_some, qazz, qbbz, qbfz, qbhz, qbjz, qblz, qbpz, decide_false,
 Int.ofNat_lt, Bool.false_eq_true]
    exact ⟨.str (textOfL L), rfl, hk.leave rfl (fun _ _ => rfl)⟩
end Go.Ab
/-
  A line as a text, by the document.
-/
namespace Go.Ab
variable {st s : St} {e : Env}

end Go.Ab
/-
  Lines are written, folded.
-/
namespace Go.Ab
variable {st s : St} {e : Env}

theorem next_le4 {l : List UInt8} {p n : Nat} (h : nextOf l = some (p, n)) : n ≤ 4 := by
  by_cases hc : (l.getD 0 0).toNat < 128
  · unfold nextOf at h
    split at h
    · cases h
    · cases h; omega
  · obtain ⟨h1, -, -⟩ := next_succ hc h
    omega
theorem near {l : List UInt8} {m : Nat} (hm : m < l.length) : ∀ (k i : Nat), l.length + 1 - i ≤ k → i ≤ m → (∃ r, ptsOf k l i = .ok r) → ∃ j, i ≤ j ∧ j ≤ m ∧ m < j + 4 ∧ ¬ isCont (l.getD j 0) := by
  intro k
  induction k with
  | zero => intro i h1 h2; omega
  | succ k ih =>
    intro i h1 h2 ⟨r, hr⟩
    simp only [ptsOf] at hr
    rw [if_pos (by omega)] at hr
    cases hno : nextOf (l.drop i) with
    | none => rw [hno] at hr; cases hr
    | some pn =>
      obtain ⟨p, n⟩ := pn
      rw [hno] at hr
      simp only at hr
      obtain ⟨hn1, hn2, hn3⟩ := next_pos hno
      have hn4 := next_le4 hno
      obtain ⟨c1, -⟩ := next_cont hno
      rw [drop_get, Nat.add_zero] at c1
      by_cases hmi : m < i + n
      · exact ⟨i, Nat.le_refl _, h2, by omega, c1⟩
      · have hr2 : ∃ r, ptsOf k l (i + n) = .ok r := by
          cases h : ptsOf k l (i + n) with
          | ok r => exact ⟨r, rfl⟩
          | error j => rw [h] at hr; cases hr
        obtain ⟨j, j1, j2, j3, j4⟩ := ih (i + n) (by omega) (by omega) hr2
        exact ⟨j, by omega, j2, j3, j4⟩
theorem back_ge {l : List UInt8} {j : Nat} (hj : ¬ isCont (l.getD j 0)) : ∀ m, j ≤ m → j ≤ back l m := by
  intro m
  induction m with
  | zero => intro h; simp [back]; omega
  | succ m ih =>
    intro h
    simp only [back]
    split
    · rename_i hc
      by_cases hjm : j = m + 1
      · subst hjm; exact absurd hc.2 hj
      · exact ih (by omega)
    · exact h
theorem cut75 {l : List UInt8} (h : 75 < l.length) : 72 ≤ cutOf l 75 ∧ cutOf l 75 ≤ 75 := by
  unfold cutOf
  rw [Nat.min_eq_left (by omega)]
  split
  · rename_i hv
    have hok : ∃ r, ptsOf (l.length + 1) l 0 = .ok r := by
      unfold validOf at hv
      cases h : ptsOf (l.length + 1) l 0 with
      | ok r => exact ⟨r, rfl⟩
      | error j => rw [h] at hv; cases hv
    obtain ⟨j, -, j2, j3, j4⟩ := near h (l.length + 1) 0 (by omega) (by omega) hok
    have := back_ge j4 75 j2
    have := back_le (l := l) 75
    omega
  · omega

def crW (x : List UInt8) : List UInt8 := x ++ [13, 10]
def foldW : Nat → List UInt8 → List (List UInt8)
  | 0, l => [l]
  | k + 1, l => if 75 < l.length then l.take (cutOf l 75) :: foldW k (32 :: l.drop (cutOf l 75)) else [l]
def outL (L : Ln) : List UInt8 := (foldW (textOfL L).length (textOfL L)).flatMap crW
theorem foldW_len : ∀ (k : Nat) (l : List UInt8), l.length ≤ k → ((foldW k l).flatMap crW).length ≤ 2 * l.length + 2 := by
  intro k
  induction k with
  | zero => intro l h; simp [foldW, crW]; omega
  | succ k ih =>
    intro l h
    simp only [foldW]
    split
    · rename_i h75
      obtain ⟨c1, c2⟩ := cut75 h75
      have := ih (32 :: l.drop (cutOf l 75)) (by simp; omega)
      simp only [List.flatMap_cons, List.length_append, crW, List.length_cons, List.length_nil, List.length_take, List.length_drop] at this ⊢
      omega
    · simp [crW]; omega
theorem outL_len {L : Ln} (h : L.ok) : (outL L).length ≤ 50000 := by
  have h1 := foldW_len _ (textOfL L) (Nat.le_refl _)
  have h2 := textL_len h
  unfold outL; omega

theorem app32 {S : St} {v y : PV} {l d : List UInt8} (hk : Kept st S) (hm : Mine st S v l) (hy : y.by = some d) (hl : d.length + 1 ≤ room) :
    ∃ v' S', app8 S.tok1 (.bys (.own S.toks.length) [32]) y = some (v', S') ∧ Kept st S' ∧ Mine st S' v l ∧ v'.by = some (32 :: d) := by
  have hlive : Live S.tok1 (.bys (.own S.toks.length) [32]) [32] := .inr ⟨_, rfl, by simp [St.tok1]⟩
  have htl := hk.tl
  have hlt : S.tok1.toks.length = S.toks.length + 1 := by simp [St.tok1]
  obtain ⟨v', S', a1, a2, a3, a4, a5, a6, a7, a8, a9⟩ := app8_live hlive (src8_by (st := S.tok1) hy) (by simpa [Nat.add_comm] using hl)
  have hkeep : ∀ i, i < S.toks.length → S'.toks[i]? = S.tok1.toks[i]? := fun i hi => a7 i (by omega) (by simp [tokOf]; omega)
  refine ⟨v', S', a1, hk.tok1.of (by rw [a2]) a3 (by rw [a4]; exact hk.tok1.lw) (fun i hi => hkeep i (by omega)) (by omega), ⟨?_, hm.2⟩, a5.by⟩
  refine hm.tok1.1.move fun i hi => hkeep i ?_
  exact (hm.1.lt hi).1

def okLs (Ls : List Ln) : Prop := (∀ L ∈ Ls, L.ok) ∧ Ls.length ≤ 60
noncomputable def writeL (Ls : List Ln) : Int × List UInt8 := if Ls.all rtB = true then (0, Ls.flatMap outL) else (90, [])
def outW (st : St) (r : Int × List UInt8) : PV × St := if r.2 = [] then (.tup [.nils, .int .i64 r.1], st) else (.tup [.bys (.own st.toks.length) r.2, .int .i64 r.1], st.tok1)
theorem leave_outW {S : St} {v : PV} {l : List UInt8} {n : Int} (hk : Kept st S) (hm : Mine st S v l) (hn : l = [] → v = .nils) : leave st S (.tup [v, .int .i64 n]) = outW st (n, l) := by
  unfold outW
  by_cases hl : l = []
  · rw [if_pos hl, hn hl]
    exact hk.leave rfl (fun _ _ => rfl)
  · rw [if_neg hl]
    exact leave_mine2 hk hm hl
theorem outs_len : ∀ {Ls : List Ln}, (∀ L ∈ Ls, L.ok) → (Ls.flatMap outL).length ≤ Ls.length * 50000 := by
  intro Ls
  induction Ls with
  | nil => intro _; simp
  | cons L r ih =>
    intro h
    have h1 := outL_len (h L (by simp))
    have h2 := ih (fun g hg => h g (by simp [hg]))
    simp only [List.flatMap_cons, List.length_append, List.length_cons]
    omega
theorem Mine.alloc' {v : PV} {l : List UInt8} {B : List (List PV)} {Lp : List LoopS} {lo : Nat} (h : Mine st s v l) : Mine st ⟨B, s.toks, Lp, lo⟩ v l := ⟨h.1.move fun _ _ => rfl, h.2⟩
end Go.Ab
/-
  Lines are written, folded: the program's function.
-/
namespace Go.Ab
variable {st s : St} {e : Env}

def L0 : Ln := ⟨[], .nils, [], []⟩
theorem iaddr_L {x : PV} {Ls : List Ln} {k : IntKind} {c : Int} (h : x.vs 3 = some (Ls.map lV)) (h1 : 0 ≤ c) (h2 : c.toNat < Ls.length) : iaddrPV 3 x (.int k c) = some (.cp [.str (Ls.getD c.toNat L0).n, (Ls.getD c.toNat L0).pv, .str (Ls.getD c.toNat L0).v]) := by
  rw [iaddr_vs h h1 (by simpa using h2)]
  simp [List.getD, h2, lV, PV.cells]
theorem load_3 {a b c : PV} : loadPV st true 3 (.cp [a, b, c]) = some (.agg [a, b, c]) := rfl
theorem store_L {B : List (List PV)} {T : List Bool} {Lp : List LoopS} {lo : Nat} {L : Ln} (h : L.ok) : storePV ⟨B ++ [[.str [], .nils, .str []]], T, Lp, lo⟩ 3 (.ptr B.length 0) (.agg [.str L.n, L.pv, .str L.v]) = some ⟨B ++ [[.str L.n, L.pv, .str L.v]], T, Lp, lo⟩ := by
  unfold storePV
  simp only [get_app0]
  have h1 : (PV.agg [PV.str L.n, L.pv, PV.str L.v]).inB (B.length + 1) = true := (box_l h.r (n := B.length + 1)).1
  have h2 : (PV.agg [PV.str L.n, L.pv, PV.str L.v]).cells.all leafOk = true := (box_l h.r (n := 0)).2
  rw [if_pos ⟨rfl, by simp, h1, h2⟩]
  have h3 : hasTok (PV.agg [PV.str L.n, L.pv, PV.str L.v]).cells = false := by
    show ((tokOf (.str L.n)).isSome || ((tokOf L.pv).isSome || ((tokOf (.str L.v)).isSome || false))) = false
    rw [h.tk]; rfl
  rw [h3]
  simp [PV.cells, setCells]
theorem load_L {B : List (List PV)} {T : List Bool} {Lp : List LoopS} {lo : Nat} {a b c : PV} : loadPV ⟨B ++ [[a, b, c]], T, Lp, lo⟩ true 3 (.ptr B.length 0) = some (.agg [a, b, c]) := by
  simp [loadPV, readCells]
theorem take_getDL {l : List Ln} {i : Nat} (h : i < l.length) : l.take (i + 1) = l.take i ++ [l.getD i L0] := take_getD' h

set_option maxHeartbeats 1000000 in
theorem sWrite_big {x : PV} {Ls : List Ln} (hx : x.vs 3 = some (Ls.map lV)) (h : (∀ L ∈ Ls, L.ok) ∧ Ls.length ≤ 4096) : call prog (.fn 48 []) [x] st = some (outW st (writeL Ls)) := by
  refine call_of_W prog_48 ?_
  unfold F_sheet_Write; dsimp only
  have hlen := len_vs hx
  rw [List.length_map] at hlen
  have h60 := h.2
  have e4096 : ¬ (4096 : Int) < (Ls.length : Int) := by omega
  simp (maxSteps := 1000000) (disch := omega) only [hlen, e4096, qaaz, qabz, qacz, qadz, qaez, qajz, qalz, evOp, qaoz, qapz, qarz, qatz, qavz,
 ↓reduceIte, List.append_nil, qawz, Option.map_some, qazz, qbhz, qbrz, decide_false,
 Bool.false_eq_true, reduceCtorEq]
  obtain ⟨I, hI⟩ : ∃ I : Nat → Env → St → Prop, I = fun z E S => ∃ i v, z = Ls.length - i ∧ i ≤ Ls.length ∧ Kept st S ∧ Mine st S v ((Ls.take i).flatMap outL) ∧ ((Ls.take i).flatMap outL = [] → v = .nils) ∧ (∀ j, j < i → rtB (Ls.getD j L0) = true) ∧ E 4 = v ∧ E 12 = x ∧ E 13 = .int .i64 (Ls.length : Int) ∧ E 14 = .int .i64 (i : Int) := ⟨_, rfl⟩
  refine W_loop I ?_ (n := Ls.length) (by
    rw [hI]
    exact ⟨0, .nils, rfl, by omega, Kept.start, Mine.nil, fun _ => rfl, fun j hj => by omega, rfl, rfl, rfl, rfl⟩)
  intro z e S hh
  rw [hI] at hh
  obtain ⟨i, v, rfl, hi, hk, hm, hnil, hall, h4, h12, h13, h14⟩ := hh
  have hbl := outs_len (Ls := Ls.take i) (fun f hfm => h.1 f (List.mem_of_mem_take hfm))
  have hbl2 : ((Ls.take i).flatMap outL).length ≤ 300000000 := by
    have h0 : (Ls.take i).length ≤ 4096 := by simp; omega
    exact Nat.le_trans hbl (Nat.le_trans (Nat.mul_le_mul_right 50000 h0) (by decide))
  clear hbl
  by_cases hlt : i < Ls.length
  · obtain ⟨L, hLe⟩ : ∃ L, L = Ls.getD i L0 := ⟨_, rfl⟩
    have hLm : L ∈ Ls := by rw [hLe]; simp [List.getD, hlt]
    have hL := h.1 L hLm
    have hia := iaddr_L (k := .i64) (c := (i : Int)) hx (by omega) (by rw [Int.toNat_natCast]; exact hlt)
    rw [Int.toNat_natCast, ← hLe] at hia
    have hrt : ∀ S : St, call prog (.fn 50 []) [.agg [.str L.n, L.pv, .str L.v]] S = some (.bool (rtB L), S) := fun S => sRight_spec hL
    have hln : ∀ S : St, call prog (.fn 60 []) [.agg [.str L.n, L.pv, .str L.v]] S = some (.str (textOfL L), S) := fun S => line_spec hL
    have hk2 := hk.alloc' (z := [.str L.n, L.pv, .str L.v])
    cases hr : rtB L with
    | false =>
      rw [hr] at hrt
      have hw : writeL Ls = (90, []) := by
        have : Ls.all rtB = false := by
          rw [List.all_eq_false]; exact ⟨L, hLm, by rw [hr]; simp⟩
        simp [writeL, this]
      simp (maxSteps := 1000000) (disch := omega) only [h12, h13, h14, hlt, hia, load_3, allocPV, store_L hL, load_L, hrt, qaaz, qabz, qacz, qadz, qaez, qaiz, qajz, qalz, evOp, qaoz, qapz, qaqz, qarz, qatz, qauz, qavz,
 ↓reduceIte, Nat.reduceEqDiff, List.map_cons, List.map_nil, Option.map_some, qazz, qbaz, qbez, qbhz, qbiz, qblz, qbpz, qcfz, decide_true, Int.ofNat_lt, Bool.not_false]
      refine ⟨.tup [.nils, .int .i64 90], rfl, ?_⟩
      rw [hw]; exact hk2.leave rfl (fun _ _ => rfl)
    | true =>
    rw [hr] at hrt
    obtain ⟨T, hT⟩ : ∃ T, T = foldW (textOfL L).length (textOfL L) := ⟨_, rfl⟩
    obtain ⟨base, hbase⟩ : ∃ base, base = (Ls.take i).flatMap outL := ⟨_, rfl⟩
    rw [← hbase] at hm hbl2
    have htl := textL_len hL
    have hsn : (Ls.take (i + 1)).flatMap outL = base ++ T.flatMap crW := by
      rw [take_getDL hlt, ← hLe, List.flatMap_append, hbase, hT]; simp [outL]
    clear hbase hnil
    simp (maxSteps := 1000000) (disch := omega) only [h12, h13, h14, hlt, hia, load_3, allocPV, store_L hL, load_L, hrt, hln, freshT_eq, qaaz, qabz, qacz, qadz, qaez, qajz, qalz, evOp, qaoz, qaqz, qarz, qatz, qauz, qavz,
 ↓reduceIte, Nat.reduceEqDiff, List.map_cons, List.map_nil, Option.map_some, qazz, qbhz, qbpz, qcfz, decide_true, Int.ofNat_lt, Bool.false_eq_true, Bool.not_true]
    obtain ⟨II, hII⟩ : ∃ II : Nat → Env → St → Prop, II = fun z E S => ∃ m k v y acc, m.length = z ∧ m.length ≤ k ∧ (acc.flatMap crW).length + 2 * m.length ≤ 46800 ∧ Kept st S ∧ Mine st S v (base ++ acc.flatMap crW) ∧ T = acc ++ foldW k m ∧ y.by = some m ∧ E 4 = v ∧ E 7 = y ∧ E 12 = x ∧ E 13 = .int .i64 (Ls.length : Int) ∧ E 14 = .int .i64 (i : Int) := ⟨_, rfl⟩
    refine W_loop II ?_ (n := (textOfL L).length) (by
      rw [hII]
      exact ⟨textOfL L, (textOfL L).length, v, _, [], rfl, Nat.le_refl _, by simp; omega, hk2.tok1, by simpa using hm.alloc'.tok1, by rw [hT]; rfl, qcgz, h4, rfl, h12, h13, h14⟩)
    clear hk hk2 hm h4 h12 h13 h14
    intro z e S hh
    rw [hII] at hh
    obtain ⟨m, k, v, y, acc, rfl, hmk, hbd, hk, hm, hTT, hy, h4, h7, h12, h13, h14⟩ := hh
    by_cases h75 : 75 < m.length
    · have e75 : (75 : Int) < (m.length : Int) := by omega
      obtain ⟨k, rfl⟩ : ∃ k', k = k' + 1 := ⟨k - 1, by omega⟩
      simp only [foldW, h75, if_true] at hTT
      obtain ⟨c1, c2⟩ := cut75 h75
      obtain ⟨c, hc⟩ : ∃ c, c = cutOf m 75 := ⟨_, rfl⟩
      have hcut : ∀ S : St, call prog (.fn 61 []) [y, .int .i64 75] S = some (.int .i64 (c : Int), S) := fun S => by
        rw [hc]; exact uCut_spec (m := 75) hy (by omega)
      rw [← hc] at c1 c2 hTT
      have hhi := slc_hi (k := .i64) (c := (c : Int)) hy (by omega) (by rw [Int.toNat_natCast]; omega)
      have hlo := slc_lo (k := .i64) (c := (c : Int)) hy (by omega) (by rw [Int.toNat_natCast]; omega)
      rw [Int.toNat_natCast] at hhi hlo
      obtain ⟨v1, S1, a1, k1, m1⟩ := hk.app8 (y := y.takeB c) (m := m.take c) hm (src8_by (takeB_by hy)) (by simp only [List.length_append, List.length_take, room]; omega)
      obtain ⟨v2, S2, a2, k2, m2⟩ := k1.app8 (y := .str [13, 10]) (m := [13, 10]) m1 rfl (by simp only [List.length_append, List.length_take, List.length_cons, List.length_nil, room]; omega)
      obtain ⟨y3, S3, a3, k3, m3, hy3⟩ := app32 k2 m2 (dropB_by (i := c) hy) (by simp only [List.length_drop, room]; omega)
      simp (maxSteps := 1000000) (disch := omega) only [h4, h7, len_by hy, e75, hcut, hhi, hlo, a1, a2, lit8_1, freshT_eq, a3, qaaz, qabz, qacz, qadz, qaez, qajz, qalz, evOp, qaoz, qapz, qaqz, qarz, qatz, qavz,
 ↓reduceIte, Nat.reduceEqDiff, List.map_cons, List.map_nil, Option.map_some, Option.map_none, qazz, qbdz, qbhz, qbrz, decide_true]
      refine loopQ_intro (m := (32 :: m.drop c).length) (by simp; omega) ?_
      rw [hII]
      refine ⟨32 :: m.drop c, k, v2, y3, acc ++ [m.take c], rfl, by simp; omega, ?_, k3, ?_, ?_, hy3, rfl, rfl, h12, h13, h14⟩
      · simp only [List.flatMap_append, List.flatMap_cons, List.flatMap_nil, List.append_nil, crW, List.length_append, List.length_cons, List.length_nil, List.length_take, List.length_drop]; omega
      · rw [List.flatMap_append]; simpa [crW] using m3
      · rw [hTT]; simp
    · have e75 : ¬ (75 : Int) < (m.length : Int) := by omega
      have hTf : T = acc ++ [m] := by
        rw [hTT]
        cases k with
        | zero => rfl
        | succ k => simp only [foldW, h75, if_false]
      obtain ⟨v1, S1, a1, k1, m1⟩ := hk.app8 (y := y) (m := m) hm (src8_by hy) (by simp only [List.length_append, room]; omega)
      obtain ⟨v2, S2, a2, k2, m2⟩ := k1.app8 (y := .str [13, 10]) (m := [13, 10]) m1 rfl (by simp only [List.length_append, List.length_cons, List.length_nil, room]; omega)
      simp (maxSteps := 1000000) (disch := omega) only [h4, h7, h14, len_by hy, e75, a1, a2, add_n, qaaz, qabz, qacz, qagz, qajz, qalz, evOp, qaoz, qapz, qarz, qatz, qavz,
 ↓reduceIte, Nat.reduceEqDiff, Option.map_some, qazz, qbbz, qbdz, qbfz, qbhz, qbjz, qbrz, decide_false,
 Bool.false_eq_true, Int.reduceToNat]
      refine loopQ_intro (m := Ls.length - (i + 1)) (by omega) ?_
      rw [hI]
      have hfin : base ++ T.flatMap crW = base ++ acc.flatMap crW ++ m ++ [13, 10] := by rw [hTf]; simp [crW]
      refine ⟨i + 1, v2, rfl, by omega, k2, by rw [hsn, hfin]; exact m2, fun hz => ?_, fun j hj => ?_, rfl, h12, h13, rfl⟩
      · rw [hsn, hfin] at hz
        have := congrArg List.length hz
        simp at this
      · by_cases hji : j = i
        · subst hji; rw [← hLe]; exact hr
        · exact hall j (by omega)
  · obtain rfl : i = Ls.length := by omega
    rw [List.take_length] at hm hnil
    have hw : writeL Ls = (0, Ls.flatMap outL) := by
      have : Ls.all rtB = true := by
        rw [List.all_eq_true]
        intro L hL
        obtain ⟨j, hj, rfl⟩ := List.mem_iff_getElem.1 hL
        have := hall j hj
        simpa [List.getD, hj] using this
      simp [writeL, this]
    simp (maxSteps := 1000000) (disch := omega) only [h4, h13, h14, hlt, qaaz, qabz, qacz, qagz, qaiz, qajz, qalz, evOp, qaoz, qapz, qarz, qatz, qavz,
 ↓reduceIte, Nat.reduceEqDiff, Option.map_some, qazz, qbbz, qbfz, qbhz, qbjz, qblz, qbpz, decide_false,
 Int.ofNat_lt, Bool.false_eq_true]
    refine ⟨.tup [v, .int .i64 0], ?_, ?_⟩
    · have hnt : notTup v = true := by rcases hm.1 with ⟨rfl, _⟩ | ⟨i, rfl, _⟩ <;> rfl
      simp [resOf, rvAll, rv1, qavz, hnt, packRes]
      rfl
    · rw [hw]; exact leave_outW hk hm hnil
theorem sWrite_spec {x : PV} {Ls : List Ln} (hx : x.vs 3 = some (Ls.map lV)) (h : okLs Ls) : call prog (.fn 48 []) [x] st = some (outW st (writeL Ls)) := sWrite_big hx ⟨h.1, by have := h.2; omega⟩
end Go.Ab
/-
  Lines are written, folded: the document's function.
-/
namespace Go.Ab
variable {st s : St} {e : Env}

end Go.Ab
/-
  How big lines are; the law SheetWrites.
-/
namespace Go.Ab
variable {st s : St} {e : Env}

structure Ln.raw (L : Ln) : Prop where
  vs : L.pv.vs 2 = some (L.ps.map fV)
  ib : ∀ n, L.pv.inB n = true
  lf : leafOk L.pv = true
  tk : tokOf L.pv = none
  l1 : L.n.length ≤ 4000000000000000000
  l2 : L.v.length ≤ 4000000000000000000
  l3 : L.ps.length ≤ 9223372036854775807
  l4 : ∀ p ∈ L.ps, p.1.length ≤ 4000000000000000000 ∧ p.2.length ≤ 4000000000000000000
def bndL (L : Ln) (i : Nat) : Prop := L.ps.length ≤ 30 ∧ L.n.length ≤ 300 ∧ L.v.length ≤ 5000 ∧ (5 < i → L.v.length ≤ 300) ∧ ∀ k, k < L.ps.length → (L.ps.getD k ([], [])).1.length + (L.ps.getD k ([], [])).2.length ≤ 500
def smallL (Ls : List Ln) : Prop := Ls.length ≤ 60 ∧ ∀ i, i < Ls.length → bndL (Ls.getD i L0) i
noncomputable def greatB (Ls : List Ln) : Bool := @decide (¬ smallL Ls) (Classical.propDecidable _)
theorem great_t {Ls : List Ln} (h : ¬ smallL Ls) : greatB Ls = true := by unfold greatB; simp [h]
theorem great_f {Ls : List Ln} (h : smallL Ls) : greatB Ls = false := by unfold greatB; simp [h]
set_option maxHeartbeats 1000000 in
theorem Great10_spec {x : PV} {Ls : List Ln} (hx : x.vs 3 = some (Ls.map lV)) (hr : ∀ L ∈ Ls, L.raw) (hl : Ls.length ≤ 9223372036854775807) : call prog (.fn 47 []) [x] st = some (.bool (greatB Ls), st) := by
  refine call_of_W prog_47 ?_
  unfold F_posthornlaw10_Great; dsimp only
  have hlen := len_vs hx
  rw [List.length_map] at hlen
  have fin : ∀ (E : Env) (S : St) (b : Bool), Kept st S → greatB Ls = b → E 2 = .bool b → ∃ rv, resOf E S [.tmp 2] = some rv ∧ leave st S rv = (.bool (greatB Ls), st) := fun E S b k1 hb k2 =>
    ⟨.bool b, by simp [resOf, rvAll, rv1, k2, notTup, packRes], by rw [hb]; exact k1.leave rfl (fun _ _ => rfl)⟩
  by_cases h60 : 60 < Ls.length
  · have e1 : (60 : Int) < (Ls.length : Int) := by omega
    simp (maxSteps := 1000000) (disch := omega) only [hlen, e1, qaaz, qabz, qacz, qaiz, qajz, qalz, evOp, qaoz, qapz, qarz, qatz, qavz,
 ↓reduceIte, List.append_nil, qawz, Option.map_some, qazz, qbaz, qbhz, qblz, qbrz, decide_true, reduceCtorEq]
    exact fin _ _ true Kept.start (great_t fun h => by have := h.1; omega) rfl
  have e1 : ¬ (60 : Int) < (Ls.length : Int) := by omega
  simp (maxSteps := 1000000) (disch := omega) only [hlen, e1, qaaz, qabz, qacz, qadz, qaez, qajz, qalz, evOp, qaoz, qapz, qarz, qatz, qavz,
 ↓reduceIte, List.append_nil, qawz, Option.map_some, qazz, qbhz, qbrz, decide_false,
 Bool.false_eq_true, reduceCtorEq]
  obtain ⟨I, hI⟩ : ∃ I : Nat → Env → St → Prop, I = fun z E S => ∃ i, z = Ls.length - i ∧ i ≤ Ls.length ∧ Kept st S ∧ (∀ j, j < i → bndL (Ls.getD j L0) j) ∧ E 0 = x ∧ E 3 = .int .i64 (i : Int) := ⟨_, rfl⟩
  refine W_loop I ?_ (n := Ls.length) (by
    rw [hI]
    exact ⟨0, rfl, by omega, Kept.start, fun j hj => by omega, rfl, rfl⟩)
  intro z e S hh
  rw [hI] at hh
  obtain ⟨i, rfl, hi, hk, hall, h0, h3⟩ := hh
  by_cases hlt : i < Ls.length
  · obtain ⟨L, hLe⟩ : ∃ L, L = Ls.getD i L0 := ⟨_, rfl⟩
    have hLm : L ∈ Ls := by rw [hLe]; simp [List.getD, hlt]
    have hL := hr L hLm
    have hia := iaddr_L (k := .i64) (c := (i : Int)) hx (by omega) (by rw [Int.toNat_natCast]; exact hlt)
    rw [Int.toNat_natCast, ← hLe] at hia
    have hlp := len_vs hL.vs
    rw [List.length_map] at hlp
    have no : ¬ bndL L i → greatB Ls = true := fun hn => great_t fun h => hn (by rw [hLe]; exact h.2 i hlt)
    have hd1 : ∀ (a b c : PV), List.drop 1 [a, b, c] = [b, c] := fun _ _ _ => rfl
    have hd2 : ∀ (a b c : PV), List.drop 2 [a, b, c] = [c] := fun _ _ _ => rfl
    by_cases q1 : 30 < L.ps.length
    · have g1 : (30 : Int) < (L.ps.length : Int) := by omega
      simp (maxSteps := 1000000) (disch := omega) only [h0, h3, hlen, hlt, hia, faddrPV, hd1, load_ch, hlp, g1, qaaz, qabz, qacz, qadz, qaez, qaiz, qajz, qakz, qalz, qamz, qanz, evOp, qaoz, qapz, qarz, qatz, qavz,
 ↓reduceIte, Nat.reduceEqDiff, Option.map_some, qazz, qbaz, qbez, qbhz, qbiz, qblz, qbpz, qbrz, beq_false, decide_true, Int.ofNat_lt, Bool.false_eq_true, reduceCtorEq, Bool.not_true]
      exact fin _ _ true hk (no fun h => by have := h.1; omega) rfl
    have g1 : ¬ (30 : Int) < (L.ps.length : Int) := by omega
    by_cases q2 : 300 < L.n.length
    · have g2 : (300 : Int) < (L.n.length : Int) := by omega
      simp (maxSteps := 1000000) (disch := omega) only [h0, h3, hlen, hlt, hia, faddrPV, List.drop_zero, hd1, load_ch, hlp, g1, len_s, g2, qaaz, qabz, qacz, qadz, qaez, qaiz, qajz, qakz, qalz, qamz, qanz, evOp, qaoz, qapz, qarz, qatz, qavz,
 ↓reduceIte, Nat.reduceEqDiff, Option.map_some, qazz, qbaz, qbez, qbhz, qbiz, qblz, qbpz, qbrz, beq_false, decide_true, decide_false,
 Int.ofNat_lt, Bool.false_eq_true, reduceCtorEq, Bool.not_true, Bool.not_false]
      exact fin _ _ true hk (no fun h => by have := h.2.1; omega) rfl
    have g2 : ¬ (300 : Int) < (L.n.length : Int) := by omega
    by_cases q3 : 5000 < L.v.length
    · have g3 : (5000 : Int) < (L.v.length : Int) := by omega
      simp (maxSteps := 1000000) (disch := omega) only [h0, h3, hlen, hlt, hia, faddrPV, List.drop_zero, hd1, hd2, load_ch, hlp, g1, len_s, g2, g3, qaaz, qabz, qacz, qadz, qaez, qaiz, qajz, qakz, qalz, qamz, qanz, evOp, qaoz, qapz, qarz, qatz, qavz,
 ↓reduceIte, Nat.reduceEqDiff, Option.map_some, qazz, qbaz, qbez, qbhz, qbiz, qblz, qbpz, qbrz, qciz, beq_false, decide_true, decide_false,
 Int.ofNat_lt, Bool.false_eq_true, reduceCtorEq, Bool.not_true, Bool.not_false]
      exact fin _ _ true hk (no fun h => by have := h.2.2.1; omega) rfl
    have g3 : ¬ (5000 : Int) < (L.v.length : Int) := by omega
    obtain ⟨II, hII⟩ : ∃ II : Nat → Env → St → Prop, II = fun z E S => ∃ k, z = L.ps.length - k ∧ k ≤ L.ps.length ∧ Kept st S ∧ (∀ j, j < k → (L.ps.getD j ([], [])).1.length + (L.ps.getD j ([], [])).2.length ≤ 500) ∧ E 0 = x ∧ E 3 = .int .i64 (i : Int) ∧ E 4 = .int .i64 (k : Int) := ⟨_, rfl⟩
    have inner : (5 < i → L.v.length ≤ 300) → ∀ (z : Nat) (e : Env) (S : St), II z e S → True := fun _ _ _ _ _ => trivial
    by_cases q5 : 5 < i ∧ 300 < L.v.length
    · have g4 : (5 : Int) < (i : Int) := by omega
      have g5 : (300 : Int) < (L.v.length : Int) := by omega
      simp (maxSteps := 1000000) (disch := omega) only [h0, h3, hlen, hlt, hia, faddrPV, List.drop_zero, hd1, hd2, load_ch, hlp, g1, len_s, g2, g3, g4, g5, qaaz, qabz, qacz, qadz, qaez, qaiz, qajz, qakz, qalz, qamz, qanz, evOp, qaoz, qapz, qarz, qatz, qavz,
 ↓reduceIte, Nat.reduceEqDiff, Option.map_some, qazz, qbaz, qbez, qbhz, qbiz, qblz, qbpz, qbrz, qciz, beq_true, beq_false, decide_true, decide_false,
 Int.ofNat_lt, Bool.false_eq_true, reduceCtorEq, Bool.not_false]
      exact fin _ _ true hk (no fun h => by have := h.2.2.2.1 q5.1; omega) rfl
    have q5' : 5 < i → L.v.length ≤ 300 := fun h => by
      apply Classical.byContradiction
      intro hn
      exact q5 ⟨h, by omega⟩
    by_cases q4 : 5 < i
    have g4 : (5 : Int) < (i : Int) := by omega
    have g5 : ¬ (300 : Int) < (L.v.length : Int) := by have := q5' q4; omega
    simp (maxSteps := 1000000) (disch := omega) only [h0, h3, hlen, hlt, hia, faddrPV, List.drop_zero, hd1, hd2, load_ch, hlp, g1, len_s, g2, g3, g4, g5, qaaz, qabz, qacz, qadz, qaez, qajz, qakz, qalz, qamz, qanz, evOp, qaoz, qapz, qarz, qatz, qavz,
 ↓reduceIte, Nat.reduceEqDiff, Option.map_some, qazz, qbhz, qbpz, qbrz, qciz, beq_true, beq_false, decide_true, decide_false,
 Int.ofNat_lt, Bool.false_eq_true, reduceCtorEq, Bool.not_false]
    rotate_left
    have g4 : ¬ (5 : Int) < (i : Int) := by omega
    simp (maxSteps := 1000000) (disch := omega) only [h0, h3, hlen, hlt, hia, faddrPV, List.drop_zero, hd1, hd2, load_ch, hlp, g1, len_s, g2, g3, g4, qaaz, qabz, qacz, qadz, qaez, qajz, qakz, qalz, qamz, qanz, evOp, qaoz, qapz, qarz, qatz, qavz,
 ↓reduceIte, Nat.reduceEqDiff, Option.map_some, qazz, qbhz, qbpz, qbrz, qciz, beq_true, beq_false, decide_true, decide_false,
 Int.ofNat_lt, Bool.false_eq_true, reduceCtorEq, Bool.not_false]
    all_goals
      refine W_loop II ?_ (n := L.ps.length) (by
        rw [hII]
        exact ⟨0, rfl, by omega, hk, fun j hj => by omega, h0, h3, rfl⟩)
      clear hk h0 h3
      intro z e S hh
      rw [hII] at hh
      obtain ⟨k, rfl, hkl, hk, hdif, h0, h3, h4⟩ := hh
      by_cases hkt : k < L.ps.length
      · obtain ⟨f, hfe⟩ : ∃ f, f = L.ps.getD k ([], []) := ⟨_, rfl⟩
        have hfl := hL.l4 f (by rw [hfe]; simp [List.getD, hkt])
        have hif := iaddr_f (k := .i64) (c := (k : Int)) hL.vs (by omega) (by rw [Int.toNat_natCast]; exact hkt)
        rw [Int.toNat_natCast, ← hfe] at hif
        have hdf : ∀ (a b : PV), List.drop 1 [a, b] = [b] := fun _ _ => rfl
        by_cases hs : 500 < f.1.length + f.2.length
        · have gs : (500 : Int) < ((f.1.length + f.2.length : Nat) : Int) := by omega
          simp (maxSteps := 1000000) (disch := omega) only [h0, h3, h4, hia, faddrPV, List.drop_zero, hd1, hdf, load_ch, hlp, hkt, hif, len_s, add_n, gs, qaaz, qabz, qacz, qadz, qaez, qaiz, qajz, qalz, evOp, qaoz, qapz, qarz, qatz, qavz,
 ↓reduceIte, Nat.reduceEqDiff, Option.map_some, qazz, qbaz, qbez, qbhz, qbiz, qblz, qbpz, qbrz, qciz, decide_true, Int.toNat_natCast, Int.ofNat_lt, reduceCtorEq]
          exact fin _ _ true hk (no fun h => by have := h.2.2.2.2 k hkt; rw [← hfe] at this; omega) rfl
        · have gs : ¬ (500 : Int) < ((f.1.length + f.2.length : Nat) : Int) := by omega
          simp (maxSteps := 1000000) (disch := omega) only [h0, h3, h4, hia, faddrPV, List.drop_zero, hd1, hdf, load_ch, hlp, hkt, hif, len_s, add_n, gs, qaaz, qabz, qacz, qadz, qaez, qajz, qalz, evOp, qaoz, qapz, qarz, qatz, qavz,
 ↓reduceIte, Nat.reduceEqDiff, Option.map_some, qazz, qbdz, qbhz, qbpz, qbrz, qciz, decide_true, decide_false,
 Int.toNat_natCast, Int.ofNat_lt, Bool.false_eq_true, Int.reduceToNat, reduceCtorEq]
          refine loopQ_intro (m := L.ps.length - (k + 1)) (by omega) ?_
          rw [hII]
          refine ⟨k + 1, rfl, by omega, hk, fun j hj => ?_, h0, h3, rfl⟩
          by_cases hjk : j = k
          · subst hjk; rw [← hfe]; omega
          · exact hdif j (by omega)
      · obtain rfl : k = L.ps.length := by omega
        simp (maxSteps := 1000000) (disch := omega) only [h0, h3, h4, hia, faddrPV, hd1, load_ch, hlp, hkt, add_n, qaaz, qabz, qacz, qagz, qajz, qalz, evOp, qaoz, qapz, qarz, qatz, qavz,
 ↓reduceIte, Nat.reduceEqDiff, Option.map_some, qazz, qbbz, qbdz, qbfz, qbhz, qbjz, qbpz, decide_false,
 Int.ofNat_lt, Bool.false_eq_true, Int.reduceToNat, reduceCtorEq]
        refine loopQ_intro (m := Ls.length - (i + 1)) (by omega) ?_
        rw [hI]
        refine ⟨i + 1, rfl, by omega, hk, fun j hj => ?_, h0, rfl⟩
        by_cases hji : j = i
        · subst hji; rw [← hLe]
          exact ⟨by omega, by omega, by omega, q5', hdif⟩
        · exact hall j (by omega)
  · obtain rfl : i = Ls.length := by omega
    simp (maxSteps := 1000000) (disch := omega) only [h0, h3, hlen, hlt, qaaz, qabz, qacz, qagz, qaiz, qajz, qalz, evOp, qaoz, qapz, qarz, qatz, qavz,
 ↓reduceIte, Nat.reduceEqDiff, Option.map_some, qazz, qbbz, qbfz, qbhz, qbjz, qblz, qbpz, decide_false,
 Int.ofNat_lt, Bool.false_eq_true, reduceCtorEq]
    exact fin _ _ false hk (great_f ⟨by omega, hall⟩) rfl
end Go.Ab
/-
  The law SheetWrites.
-/
namespace Go.Ab
variable {st s : St} {e : Env}

end Go.Ab
/-
  An argument of lines, opened.
-/
namespace Go.Ab

def strs2 (P : Program) (t : TypeId) : Bool := match fieldsT P t with
  | some fs => fs.toList.map (fun f => isStrT P f.type) == [true, true]
  | none => false
theorem HasTy.two {P : Program} {t : TypeId} {q : PV} (h : HasTy P t q) (hs0 : strs2 P t = true) : ∃ f : Fld, q = fV f ∧ f.1.length ≤ reachBytes ∧ f.2.length ≤ reachBytes := by
  unfold strs2 fieldsT at hs0
  obtain ⟨fs, ht⟩ : ∃ fs, P.underlying t = some (.struct fs) := by
    cases ht : P.underlying t with
    | none => simp [ht] at hs0
    | some d => cases d <;> first | exact ⟨_, rfl⟩ | (simp [ht] at hs0; done)
  simp only [ht, beq_iff_eq] at hs0
  obtain ⟨fl⟩ := fs
  have hlen : fl.length = 2 := by simpa using congrArg List.length hs0
  match fl, hlen, hs0 with
  | [f0, f1], _, hs0 =>
    simp only [List.map_cons, List.map_nil, List.cons.injEq, and_true] at hs0
    have hs := And.intro (isStrT_eq hs0.1) (isStrT_eq hs0.2)
    cases h with
    | agg xs ht' hl hx =>
      rw [ht] at ht'; cases ht'
      match xs, hl with
      | [x0, x1], _ =>
        obtain ⟨a, rfl, ha⟩ := HasTy.strR (hx 0 f0 x0 rfl rfl) hs.1
        obtain ⟨b, rfl, hb⟩ := HasTy.strR (hx 1 f1 x1 rfl rfl) hs.2
        exact ⟨(a, b), rfl, ha, hb⟩
    | bool _ ht' => rw [ht] at ht'; cases ht'
    | int _ ht' => rw [ht] at ht'; cases ht'
    | u8 _ ht' => rw [ht] at ht'; cases ht'
    | str _ ht' => rw [ht] at ht'; cases ht'
    | nils ht' => rw [ht] at ht'; cases ht'
    | bys _ ht' => rw [ht] at ht'; cases ht'
    | sl _ ht' => rw [ht] at ht'; cases ht'
theorem HasTy.twos {P : Program} {t e : TypeId} {q : PV} (h : HasTy P t q) (ht : P.underlying t = some (.slice e)) (hc : P.cellsOf e = 2) (hs : strs2 P e = true) :
    ∃ l : List Fld, q.vs 2 = some (l.map fV) ∧ (∀ f ∈ l, f.1.length ≤ reachBytes ∧ f.2.length ≤ reachBytes) ∧ l.length ≤ maxLen ∧ (∀ n, q.inB n = true) ∧ leafOk q = true ∧ tokOf q = none ∧ q.cells = [q] := by
  cases h with
  | nils ht' => exact ⟨[], rfl, fun f h => (by cases h), by simp, fun n => rfl, rfl, rfl, rfl⟩
  | bys _ ht' he' => rw [ht] at ht'; cases ht'; simp [strs2, fieldsT, he'] at hs
  | sl xs ht' he' hl hx =>
    rw [ht] at ht'; cases ht'
    have : ∀ xs : List PV, (∀ x ∈ xs, HasTy P e x) → ∃ l : List Fld, xs = l.map fV ∧ ∀ f ∈ l, f.1.length ≤ reachBytes ∧ f.2.length ≤ reachBytes := by
      intro xs
      induction xs with
      | nil => intro _; exact ⟨[], rfl, fun f h => (by cases h)⟩
      | cons x r ih =>
        intro hx
        obtain ⟨f, rfl, hf⟩ := HasTy.two (hx x (by simp)) hs
        obtain ⟨l, rfl, hl⟩ := ih (fun y hy => hx y (by simp [hy]))
        refine ⟨f :: l, rfl, fun g hg => ?_⟩
        rcases List.mem_cons.1 hg with rfl | hg
        · exact hf
        · exact hl g hg
    obtain ⟨l, rfl, hl2⟩ := this xs hx
    exact ⟨l, by simp [PV.vs, hc], hl2, by simpa using hl, fun n => rfl, rfl, rfl, rfl⟩
  | bool _ ht' => rw [ht] at ht'; cases ht'
  | int _ ht' => rw [ht] at ht'; cases ht'
  | u8 _ ht' => rw [ht] at ht'; cases ht'
  | str _ ht' => rw [ht] at ht'; cases ht'
  | agg _ ht' => rw [ht] at ht'; cases ht'

def lineT (P : Program) (t ep : TypeId) : Bool := match fieldsT P t with
  | some fs => match fs.toList with
    | [f0, f1, f2] => isStrT P f0.type && (sliceElem P f1.type == some ep) && isStrT P f2.type && strs2 P ep && (P.cellsOf ep == 2)
    | _ => false
  | none => false
theorem HasTy.line {P : Program} {t ep : TypeId} {q : PV} (h : HasTy P t q) (hs0 : lineT P t ep = true) : ∃ L : Ln, q = lV L ∧ L.raw := by
  unfold lineT fieldsT at hs0
  obtain ⟨fs, ht⟩ : ∃ fs, P.underlying t = some (.struct fs) := by
    cases ht : P.underlying t with
    | none => simp [ht] at hs0
    | some d => cases d <;> first | exact ⟨_, rfl⟩ | (simp [ht] at hs0; done)
  simp only [ht] at hs0
  obtain ⟨fl⟩ := fs
  match fl, hs0 with
  | [f0, f1, f2], hs0 =>
    simp only [Bool.and_eq_true, beq_iff_eq] at hs0
    obtain ⟨⟨⟨⟨s0, s1⟩, s2⟩, s3⟩, s4⟩ := hs0
    have hu1 : P.underlying f1.type = some (.slice ep) := by
      unfold sliceElem at s1
      split at s1
      · rename_i e he; rw [he]; cases s1; rfl
      · cases s1
    cases h with
    | agg xs ht' hl hx =>
      rw [ht] at ht'; cases ht'
      match xs, hl with
      | [x0, x1, x2], _ =>
        obtain ⟨a, rfl, ha⟩ := HasTy.strR (hx 0 f0 x0 rfl rfl) (isStrT_eq s0)
        obtain ⟨l, l1, l2, l3, l4, l5, l6, l7⟩ := HasTy.twos (hx 1 f1 x1 rfl rfl) hu1 s4 s3
        obtain ⟨b, rfl, hb⟩ := HasTy.strR (hx 2 f2 x2 rfl rfl) (isStrT_eq s2)
        have hR : reachBytes ≤ 4000000000000000000 := by decide
        refine ⟨⟨a, x1, l, b⟩, ?_, ⟨l1, l4, l5, l6, Nat.le_trans ha hR, Nat.le_trans hb hR, Nat.le_trans l3 (by decide), fun p hp => ⟨Nat.le_trans (l2 p hp).1 hR, Nat.le_trans (l2 p hp).2 hR⟩⟩⟩
        simp only [lV, flat, List.flatMap_cons, List.flatMap_nil, l7]
        rfl
    | bool _ ht' => rw [ht] at ht'; cases ht'
    | int _ ht' => rw [ht] at ht'; cases ht'
    | u8 _ ht' => rw [ht] at ht'; cases ht'
    | str _ ht' => rw [ht] at ht'; cases ht'
    | nils ht' => rw [ht] at ht'; cases ht'
    | bys _ ht' => rw [ht] at ht'; cases ht'
    | sl _ ht' => rw [ht] at ht'; cases ht'
theorem HasTy.lines {P : Program} {t e ep : TypeId} {q : PV} (h : HasTy P t q) (ht : P.underlying t = some (.slice e)) (hc : P.cellsOf e = 3) (hs : lineT P e ep = true) :
    ∃ l : List Ln, q.vs 3 = some (l.map lV) ∧ (∀ L ∈ l, L.raw) ∧ l.length ≤ 9223372036854775807 := by
  cases h with
  | nils ht' => exact ⟨[], rfl, fun f h => (by cases h), by simp⟩
  | bys _ ht' he' => rw [ht] at ht'; cases ht'; simp [lineT, fieldsT, he'] at hs
  | sl xs ht' he' hl hx =>
    rw [ht] at ht'; cases ht'
    have : ∀ xs : List PV, (∀ x ∈ xs, HasTy P e x) → ∃ l : List Ln, xs = l.map lV ∧ ∀ L ∈ l, L.raw := by
      intro xs
      induction xs with
      | nil => intro _; exact ⟨[], rfl, fun f h => (by cases h)⟩
      | cons x r ih =>
        intro hx
        obtain ⟨f, rfl, hf⟩ := HasTy.line (hx x (by simp)) hs
        obtain ⟨l, rfl, hl⟩ := ih (fun y hy => hx y (by simp [hy]))
        refine ⟨f :: l, rfl, fun g hg => ?_⟩
        rcases List.mem_cons.1 hg with rfl | hg
        · exact hf
        · exact hl g hg
    obtain ⟨l, rfl, hl2⟩ := this xs hx
    exact ⟨l, by simp [PV.vs, hc], hl2, Nat.le_trans (by simpa using hl) (by decide)⟩
  | bool _ ht' => rw [ht] at ht'; cases ht'
  | int _ ht' => rw [ht] at ht'; cases ht'
  | u8 _ ht' => rw [ht] at ht'; cases ht'
  | str _ ht' => rw [ht] at ht'; cases ht'
  | agg _ ht' => rw [ht] at ht'; cases ht'
end Go.Ab
/-
  Texts without blanks at their ends; values of fields.
-/
namespace Go.Ab
variable {st s : St} {e : Env}

end Go.Ab
/-
  The document's trimming; values; small letters; fields of a name, by the document.
-/
namespace Go.Ab
variable {st s : St} {e : Env}

end Go.Ab
/-
  Values of fields; small letters and fields of a name, by the document.
-/
namespace Go.Ab
variable {st s : St} {e : Env}

theorem Grew.kept (h : Grew st s) : Kept st s := ⟨by rw [h.bx]; simp, h.lp, by rw [h.lw]; exact Nat.le_refl _, h.tk⟩
end Go.Ab
/-
  Rules that part the ways of a run: each way under what it was taken for.
-/
namespace Go.Ab
variable {A : AP} {st : St} {e : Env}

end Go.Ab
/-
  strings.Cut.
-/
namespace Go.Ab
variable {st : St} {e : Env}

theorem faP {n k b : Nat} : faddrPV n (.ptr b k) = some (.ptr b (k + n)) := rfl
end Go.Ab
/-
  Helpers: how a call ends, cuts of which a first part may return.
-/
namespace Go.Ab
variable {st s : St} {e : Env}

theorem ret1 {a : Nat} {v : PV} (ha : e a = v) (hnt : notTup v = true) (hk : Kept st s) (hf : Flat v) : ∃ rv, resOf e s [.tmp a] = some rv ∧ leave st s rv = (v, st) :=
  ⟨v, by simp [resOf, rvAll, rv1, ha, hnt, packRes], hk.leave' hf⟩
theorem retB {a : Nat} {b c : Bool} (ha : e a = .bool b) (hk : Kept st s) (hb : b = c) : ∃ rv, resOf e s [.tmp a] = some rv ∧ leave st s rv = (.bool c, st) := by
  subst hb; exact ret1 ha rfl hk ⟨fun _ => rfl, fun _ _ => rfl⟩
theorem retI {a : Nat} {k : IntKind} {b c : Int} (ha : e a = .int k b) (hk : Kept st s) (hb : b = c) : ∃ rv, resOf e s [.tmp a] = some rv ∧ leave st s rv = (.int k c, st) := by
  subst hb; exact ret1 ha rfl hk ⟨fun _ => rfl, fun _ _ => rfl⟩
theorem ret3 {a b c : Nat} {v w u : PV} (ha : e a = v) (hb : e b = w) (hc : e c = u) (h1 : notTup v = true) (h2 : notTup w = true) (h3 : notTup u = true) (hk : Kept st s) (hf : Flat (.tup [v, w, u])) : ∃ rv, resOf e s [.tmp a, .tmp b, .tmp c] = some rv ∧ leave st s rv = (.tup [v, w, u], st) :=
  ⟨.tup [v, w, u], by simp [resOf, rvAll, rv1, ha, hb, hc, h1, h2, h3, packRes], hk.leave' hf⟩
def endX (st : St) (rs : List RV) (R : PV × St → Prop) : Ex → Env → St → Prop := fun x e1 st1 => (x = .normal ∨ x = .ret) ∧ ∃ rv, resOf e1 st1 rs = some rv ∧ R (leave st st1 rv)
theorem call_ex {f : Nat} {args : List PV} {fn : ACFn} {R : PV × St → Prop} (hA : prog f = some (.code fn))
    (h : W prog fn.body (env0 args) { st with low := st.boxes.length } (endX st fn.results R)) : ∃ r, call prog (.fn f []) args st = some r ∧ R r := by
  obtain ⟨⟨x, e1, st1⟩, h1, h2, rv, h3, h4⟩ := h
  refine ⟨_, ?_, h4⟩
  rw [call_fn hA, List.append_nil, h1]
  rcases h2 with rfl | rfl
  · simp only [finish]; simp only at h3 h4; rw [h3]; rfl
  · simp only [finish]; simp only at h3 h4; rw [h3]; rfl
theorem Kept.box {S : St} {z : List PV} (h : Kept st S) (hbx : S.boxes.length = st.boxes.length + 1) : Kept st ⟨st.boxes ++ [z], S.toks, S.loops, S.low⟩ := ⟨by simp, h.lp, h.lw, h.tk⟩
theorem Kept.toks {T : List Bool} (h : Kept st s) : Kept st ⟨s.boxes, s.toks ++ T, s.loops, s.low⟩ := by
  refine ⟨h.bx, h.lp, h.lw, ?_⟩
  have h1 := h.tk
  have h2 : st.toks.length ≤ s.toks.length := by have := congrArg List.length h1; simp at this; omega
  simp only [List.take_append_of_le_length h2]
  exact h1
end Go.Ab
/-
  Rows of one's own in a state that keeps what the caller has.
-/
namespace Go.Ab
variable {st s : St} {e : Env}

theorem Kept.appV {esz : Nat} {v u w : PV} {xs : List PV} (hk : Kept st s) (h : Own st s esz v xs) (hl : xs.length + 1 ≤ room) :
    ∃ v' s', Ab.appV esz s.tok1 v (.sl esz (.own s.toks.length) [u]) = some (v', s') ∧ Kept st s' ∧ Own st s' esz v' (xs ++ [u]) ∧ s'.boxes = s.boxes := by
  have hk1 := hk.tok1
  have hg : GrewAt s.tok1.boxes st.toks s.tok1.loops s.tok1.low s.tok1 := ⟨rfl, rfl, rfl, hk1.tk⟩
  have h1 := h.tok1
  obtain ⟨g2, o2⟩ := Own.app (ys := xs ++ [u]) hg h1
  refine ⟨_, _, appV_own h1 hl, ⟨?_, ?_, ?_, g2.tk⟩, o2, g2.bx⟩
  · rw [g2.bx]; exact hk1.bx
  · rw [g2.lp]; exact hk1.lp
  · rw [g2.lw]; exact hk1.lw
theorem Kept.leaveOwn1 {esz : Nat} {v : PV} {xs : List PV} (hk : Kept st s) (h : Own st s esz v xs) (hne : xs = [] → v = .nils) : Ab.leave st s v = (newSl st esz xs, newS st xs.isEmpty) := by
  have e1 := hk.bx; have e2 := hk.lp; have e3 := hk.tk
  rcases h with ⟨rfl, rfl⟩ | ⟨i, rfl, h2, h3⟩
  · simp [Ab.leave, PV.inB, hk.lw, keepRes, keepVal, keepLeaf, newSl, newS, e1, e2, e3]
  · by_cases hx : xs = []
    · have := hne hx; cases this
    · simp [Ab.leave, PV.inB, hk.lw, keepRes, keepVal, keepLeaf, keepTok, newSl, newS, hx, h3, show ¬ i < st.toks.length by omega, e1, e2, e3, St.tok1]
theorem own_nt {esz : Nat} {v : PV} {xs : List PV} (h : Own st s esz v xs) : notTup v = true := by rcases h with ⟨rfl, _⟩ | ⟨i, rfl, _⟩ <;> rfl
end Go.Ab
/-
  Addresses: plain.
-/
namespace Go.Ab

abbrev Bs := List UInt8
def alnC (c : UInt8) : Bool := (decide (97 ≤ c) && decide (c ≤ 122)) || (decide (65 ≤ c) && decide (c ≤ 90)) || (decide (48 ≤ c) && decide (c ≤ 57))
def signs : Bs := [33, 35, 36, 37, 38, 39, 42, 43, 45, 47, 61, 63, 94, 95, 123, 124, 125, 126, 96]
def atC (c : UInt8) : Bool := alnC c || signs.contains c
def labC (c : UInt8) : Bool := alnC c || decide (c = 45)
abbrev Adr := Bs × Bs × Bs
def locC (c : UInt8) : Prop := atC c = true ∨ c = 46
def domC (c : UInt8) : Prop := labC c = true ∨ c = 46
structure RightA (a : Adr) : Prop where
  lc : ∀ c ∈ a.2.1, locC c
  ln : a.2.1 ≠ []
  dc : ∀ c ∈ a.2.2, domC c
  dn : a.2.2 ≠ []
  nl : a.1.length ≤ 128
  ll : a.2.1.length ≤ 64
  dl : a.2.2.length ≤ 253
end Go.Ab
/-
  Lines' folds are undone: bytes are replaced.
-/
namespace Go.Ab
set_option maxRecDepth 20000
variable {st s : St} {e : Env}

def rep3 (x : UInt8) (q : Bs) : Bs → Bs
  | a :: b :: c :: r => if a = 13 ∧ b = 10 ∧ c = x then q ++ rep3 x q r else a :: rep3 x q (b :: c :: r)
  | l => l
termination_by l => l.length
def cnt3 (x : UInt8) : Bs → Nat
  | a :: b :: c :: r => if a = 13 ∧ b = 10 ∧ c = x then 1 + cnt3 x r else cnt3 x (b :: c :: r)
  | _ => 0
termination_by l => l.length
theorem rep3_yes {x : UInt8} {q r : Bs} : rep3 x q (13 :: 10 :: x :: r) = q ++ rep3 x q r := by rw [rep3, if_pos ⟨rfl, rfl, rfl⟩]
theorem rep3_no {x a b c : UInt8} {q r : Bs} (h : ¬ (a = 13 ∧ b = 10 ∧ c = x)) : rep3 x q (a :: b :: c :: r) = a :: rep3 x q (b :: c :: r) := by rw [rep3, if_neg h]
theorem rep3_nil {x : UInt8} {q : Bs} : rep3 x q [] = [] := by unfold rep3; rfl
theorem rep3_one {x a : UInt8} {q : Bs} : rep3 x q [a] = [a] := by unfold rep3; rfl
theorem rep3_two {x a b : UInt8} {q : Bs} : rep3 x q [a, b] = [a, b] := by unfold rep3; rfl
theorem cnt3_yes {x : UInt8} {r : Bs} : cnt3 x (13 :: 10 :: x :: r) = 1 + cnt3 x r := by rw [cnt3, if_pos ⟨rfl, rfl, rfl⟩]
theorem cnt3_no {x a b c : UInt8} {r : Bs} (h : ¬ (a = 13 ∧ b = 10 ∧ c = x)) : cnt3 x (a :: b :: c :: r) = cnt3 x (b :: c :: r) := by rw [cnt3, if_neg h]
theorem cnt3_nil {x : UInt8} : cnt3 x [] = 0 := by unfold cnt3; rfl
theorem cnt3_one {x a : UInt8} : cnt3 x [a] = 0 := by unfold cnt3; rfl
theorem cnt3_two {x a b : UInt8} : cnt3 x [a, b] = 0 := by unfold cnt3; rfl

theorem pre3 {x a b c : UInt8} {r : Bs} : ([13, 10, x] : Bs).isPrefixOf (a :: b :: c :: r) = decide (a = 13 ∧ b = 10 ∧ c = x) := by
  by_cases h : a = 13 ∧ b = 10 ∧ c = x
  · obtain ⟨rfl, rfl, rfl⟩ := h
    simp [List.isPrefixOf]
  · rw [decide_eq_false h, Bool.eq_false_iff]
    intro q
    simp only [List.isPrefixOf, Bool.and_true, Bool.and_eq_true, beq_iff_eq] at q
    exact h ⟨q.1.symm, q.2.1.symm, q.2.2.symm⟩
theorem idx3 {x : UInt8} {q : Bs} : ∀ (k : Nat) (l : Bs), l.length ≤ k → (Lib.index l [13, 10, x] = -1 ∧ rep3 x q l = l ∧ cnt3 x l = 0) ∨
    (∃ i : Nat, Lib.index l [13, 10, x] = (i : Int) ∧ i + 3 ≤ l.length ∧ rep3 x q l = l.take i ++ (q ++ rep3 x q (l.drop (i + 3))) ∧ cnt3 x l = 1 + cnt3 x (l.drop (i + 3))) := by
  intro k
  induction k with
  | zero =>
    intro l h
    have : l = [] := List.eq_nil_of_length_eq_zero (by omega)
    subst this
    exact .inl ⟨rfl, rep3_nil, cnt3_nil⟩
  | succ k ih =>
    intro l h
    match l with
    | [] => exact .inl ⟨rfl, rep3_nil, cnt3_nil⟩
    | [a] => exact .inl ⟨by simp [Lib.index, List.isPrefixOf], rep3_one, cnt3_one⟩
    | [a, b] => exact .inl ⟨by simp [Lib.index, List.isPrefixOf], rep3_two, cnt3_two⟩
    | a :: b :: c :: r =>
      by_cases hp : a = 13 ∧ b = 10 ∧ c = x
      · obtain ⟨rfl, rfl, rfl⟩ := hp
        refine .inr ⟨0, ?_, by simp, by rw [rep3_yes]; simp, by rw [cnt3_yes]; simp⟩
        rw [Lib.index, pre3, if_pos (by simp)]; rfl
      · have hx : Lib.index (a :: b :: c :: r) [13, 10, x] = if Lib.index (b :: c :: r) [13, 10, x] == -1 then -1 else Lib.index (b :: c :: r) [13, 10, x] + 1 := by
          rw [Lib.index, pre3, if_neg (by simpa using hp)]
        rw [hx, rep3_no hp, cnt3_no hp]
        rcases ih (b :: c :: r) (by simp at h ⊢; omega) with ⟨h1, h2, h3⟩ | ⟨i, h1, h2, h3, h4⟩
        · exact .inl ⟨by rw [h1]; rfl, by rw [h2], h3⟩
        · refine .inr ⟨i + 1, ?_, by simp at h2 ⊢; omega, ?_, ?_⟩
          · rw [h1, if_neg (by simp)]; first | rfl | omega
          · rw [h3]; rfl
          · rw [h4]; rfl
theorem rep3_len {x : UInt8} {q : Bs} : ∀ (k : Nat) (l : Bs), l.length ≤ k → (rep3 x q l).length + 3 * cnt3 x l = l.length + q.length * cnt3 x l := by
  intro k
  induction k with
  | zero =>
    intro l h
    have : l = [] := List.eq_nil_of_length_eq_zero (by omega)
    subst this
    rw [rep3_nil, cnt3_nil]; simp
  | succ k ih =>
    intro l h
    match l with
    | [] => rw [rep3_nil, cnt3_nil]; simp
    | [a] => rw [rep3_one, cnt3_one]; simp
    | [a, b] => rw [rep3_two, cnt3_two]; simp
    | a :: b :: c :: r =>
      by_cases hp : a = 13 ∧ b = 10 ∧ c = x
      · obtain ⟨rfl, rfl, rfl⟩ := hp
        have := ih r (by simp at h; omega)
        rw [rep3_yes, cnt3_yes, List.length_append]; simp only [Nat.mul_add, Nat.mul_one, List.length_cons]; omega
      · have := ih (b :: c :: r) (by simp at h ⊢; omega)
        rw [rep3_no hp, cnt3_no hp]; simp at this ⊢; omega

def unfV : Bs → Bs
  | a :: b :: c :: r => if a = 13 ∧ b = 10 ∧ (c = 32 ∨ c = 9) then unfV r else a :: unfV (b :: c :: r)
  | l => l
termination_by l => l.length
theorem rep9_head {l : Bs} {c : UInt8} {t : Bs} (h : rep3 9 [13, 10, 32] l = c :: t) : ∃ t', l = c :: t' := by
  match l with
  | [] => rw [rep3_nil] at h; cases h
  | [a] => rw [rep3_one] at h; exact ⟨[], by rw [(List.cons.inj h).1]⟩
  | [a, b] => rw [rep3_two] at h; exact ⟨[b], by rw [(List.cons.inj h).1]⟩
  | a :: b :: d :: r =>
    by_cases hp : a = 13 ∧ b = 10 ∧ d = 9
    · obtain ⟨rfl, rfl, rfl⟩ := hp
      rw [rep3_yes] at h; exact ⟨_, by rw [← (List.cons.inj h).1]⟩
    · rw [rep3_no hp] at h; exact ⟨_, by rw [(List.cons.inj h).1]⟩
theorem rep9_cons {a : UInt8} {l : Bs} (h : a ≠ 13) : rep3 9 [13, 10, 32] (a :: l) = a :: rep3 9 [13, 10, 32] l := by
  match l with
  | [] => rw [rep3_nil, rep3_one]
  | [b] => rw [rep3_one, rep3_two]
  | b :: c :: r => rw [rep3_no (fun q => h q.1)]
theorem unf_eq : ∀ (k : Nat) (l : Bs), l.length ≤ k → rep3 32 [] (rep3 9 [13, 10, 32] l) = unfV l := by
  intro k
  induction k with
  | zero =>
    intro l h
    have : l = [] := List.eq_nil_of_length_eq_zero (by omega)
    subst this
    rw [rep3_nil, rep3_nil]; unfold unfV; rfl
  | succ k ih =>
    intro l h
    match l with
    | [] => rw [rep3_nil, rep3_nil]; unfold unfV; rfl
    | [a] => rw [rep3_one, rep3_one]; unfold unfV; rfl
    | [a, b] => rw [rep3_two, rep3_two]; unfold unfV; rfl
    | a :: b :: c :: r =>
      rw [unfV]
      have ihr := ih r (by simp at h; omega)
      by_cases hp : a = 13 ∧ b = 10 ∧ (c = 32 ∨ c = 9)
      · rw [if_pos hp]
        obtain ⟨rfl, rfl, rfl | rfl⟩ := hp
        · rw [rep3_no (by decide), rep9_cons (by decide), rep9_cons (by decide), rep3_yes, List.nil_append]; exact ihr
        · rw [rep3_yes]
          show rep3 32 [] (13 :: 10 :: 32 :: _) = _
          rw [rep3_yes, List.nil_append]; exact ihr
      · rw [if_neg hp]
        have ih2 := ih (b :: c :: r) (by simp at h ⊢; omega)
        rw [rep3_no (fun q => hp ⟨q.1, q.2.1, .inr q.2.2⟩), ← ih2]
        generalize hR : rep3 9 [13, 10, 32] (b :: c :: r) = R
        match R, hR with
        | [], _ => rw [rep3_one, rep3_nil]
        | [x], _ => rw [rep3_two, rep3_one]
        | x :: y :: t, hR =>
          rw [rep3_no]
          rintro ⟨q1, q2, q3⟩
          subst q1 q2 q3
          obtain ⟨t1, h1⟩ := rep9_head hR
          obtain ⟨rfl, rfl⟩ := List.cons.inj h1
          rw [rep9_cons (by decide)] at hR
          obtain ⟨t2, h2⟩ := rep9_head (List.cons.inj hR).2
          exact hp ⟨rfl, rfl, .inl (List.cons.inj h2).1⟩
end Go.Ab
/-
  Lines' folds are undone, walked.
-/
namespace Go.Ab
set_option maxRecDepth 20000
variable {st s : St} {e : Env}

theorem bIndex_spec {y v : PV} {l p : Bs} (hy : y.by = some l) (hv : v.by = some p) (hl : l.length ≤ 100000000) (hp : p.length ≤ 100) : call prog (.fn 32 []) [y, v] st = some (.int .i64 (Lib.index l p), st) := by
  rw [call_prim prog_32]
  simp only [List.append_nil, pBytesIndex, hy, hv]
  rw [if_pos ⟨by omega, by omega⟩]; rfl

set_option maxHeartbeats 2000000 in
theorem Count_spec {y v : PV} {l : Bs} {x : UInt8} (hy : y.by = some l) (hv : v.by = some [13, 10, x]) (hl : l.length ≤ 10000000) : call prog (.fn 104 []) [y, v] st = some (.int .i64 ((cnt3 x l : Nat) : Int), st) := by
  refine call_of_W prog_104 ?_
  unfold F_bytes_Count; dsimp only
  have hlp : lenPV false v = some (.int .i64 3) := by rw [len_by hv]; rfl
  simp (maxSteps := 1000000) (disch := omega) only [hlp, qaaz, qabz, qacz, qadz, qaez, qajz, qalz, evOp, qaoz, qapz, qarz, qatz, qavz,
 ↓reduceIte, Nat.reduceEqDiff, List.append_nil, qawz, qaxz, Option.map_some, qazz, qbhz, qbtz, decide_false,
 Bool.false_eq_true, Int.reduceEq]
  obtain ⟨Q0, hQ0⟩ : ∃ Q0 : Ex → Env → St → Prop, Q0 = endQ st [.tmp 4] (.int .i64 ((cnt3 x l : Nat) : Int), st) := ⟨_, rfl⟩
  rw [← hQ0]
  obtain ⟨I, hI⟩ : ∃ I : Nat → Env → St → Prop, I = fun k E S => ∃ (r : Bs) (z : PV) (n : Nat), k = r.length ∧ r.length ≤ l.length ∧ S = (⟨st.boxes, st.toks, st.loops, st.boxes.length⟩ : St) ∧ z.by = some r ∧ n + cnt3 x r = cnt3 x l ∧ n + r.length ≤ l.length ∧ E 0 = z ∧ E 1 = v ∧ E 5 = .int .i64 (n : Int) := ⟨_, rfl⟩
  refine W_loop I ?_ (n := l.length) (by
    rw [hI]; exact ⟨l, y, 0, rfl, Nat.le_refl _, rfl, hy, by omega, by omega, rfl, rfl, rfl⟩)
  intro k E S hh
  rw [hI] at hh
  obtain ⟨r, z, n, rfl, hr, hS, hz, hc, hn, h0, h1, h5⟩ := hh
  rw [hS]; clear hS S
  have hix := fun S : St => bIndex_spec (st := S) hz hv (by omega) (by simp)
  rcases idx3 (x := x) (q := []) r.length r (Nat.le_refl _) with ⟨i1, i2, i3⟩ | ⟨i, i1, i2, i3, i4⟩
  · rw [i1] at hix
    simp (maxSteps := 1000000) (disch := omega) only [h0, h1, h5, hix, Int.reduceNeg, qaaz, qabz, qacz, qadz, qaiz, qajz, qalz, evOp, qaoz, qapz, qaqz, qarz, qatz, qavz,
 ↓reduceIte, Nat.reduceEqDiff, List.map_cons, List.map_nil, Option.map_some, qazz, qbaz, qbez, qbhz, qbiz, qbtz, decide_true]
    rw [hQ0, qblz]
    exact retI rfl Kept.start (by omega)
  · rw [i1] at hix
    have hi0 : ¬ (i : Int) = -1 := by omega
    have hsl : slcPV 1 z (some (.int .i64 ((i + 3 : Nat) : Int))) none none = some (z.dropB (i + 3)) := by rw [slc_lo hz (by omega) (by omega), Int.toNat_natCast]
    have ad : binPV .add .no (.int .i64 (i : Int)) (.int .i64 3) = some (.int .i64 ((i + 3 : Nat) : Int)) := by rw [add_i (by omega) (by omega)]; congr 2
    simp (maxSteps := 1000000) (disch := omega) only [h0, h1, h5, hix, hi0, hlp, ad, hsl, add_n, loopQ_normal, Int.reduceNeg, qaaz, qabz, qacz, qadz, qaez, qajz, qalz, evOp, qaoz, qapz, qaqz, qarz, qatz, qavz,
 ↓reduceIte, Nat.reduceEqDiff, List.map_cons, List.map_nil, Option.map_some, Option.map_none, qazz, qbdz, qbhz, qbtz, decide_false,
 Bool.false_eq_true, Int.reduceToNat, reduceCtorEq]
    refine ⟨(r.drop (i + 3)).length, by simp; omega, ?_⟩
    rw [hI]
    exact ⟨r.drop (i + 3), z.dropB (i + 3), n + 1, rfl, by simp; omega, rfl, dropB_by hz, by omega, by simp; omega, rfl, h1, rfl⟩

def fillB (done : Bs) (k : Nat) : List PV := done.map .b8 ++ List.replicate k (.b8 0)
theorem setCells_mid (vs : List PV) : ∀ (a b : List PV), vs.length ≤ b.length → setCells (a ++ b) a.length vs = a ++ vs ++ b.drop vs.length := by
  induction vs with
  | nil => intro a b _; simp [setCells]
  | cons v vs ih =>
    intro a b h
    match b, h with
    | w :: b, h =>
      rw [setCells]
      have e1 : (a ++ w :: b).set a.length v = (a ++ [v]) ++ b := by
        rw [List.set_append_right _ _ (Nat.le_refl _)]; simp
      have := ih (a ++ [v]) b (by simpa using h)
      rw [List.length_append] at this
      rw [e1]
      show setCells (a ++ [v] ++ b) (a.length + 1) vs = _
      rw [show a.length + 1 = a.length + [v].length from rfl, this]; simp
theorem copy_fit {B : List (List PV)} {tk : List Bool} {lp : List LoopS} {lo : Nat} {done m : Bs} {k : Nat} {y : PV} (hy : y.by = some m) (hm : m.length ≤ k) :
    copyPV ⟨B ++ [fillB done k], tk, lp, lo⟩ (.ms B.length done.length k) y = some (.int .i64 ((m.length : Nat) : Int), ⟨B ++ [fillB (done ++ m) (k - m.length)], tk, lp, lo⟩) := by
  have hlen : (fillB done k).length = done.length + k := by simp [fillB]
  have hset : setCells (fillB done k) done.length (m.map .b8) = fillB (done ++ m) (k - m.length) := by
    unfold fillB
    have := setCells_mid (m.map .b8) (done.map .b8) (List.replicate k (.b8 0)) (by simpa using hm)
    rw [List.length_map] at this
    rw [this]; simp
  simp only [copyPV, src8_by hy]
  simp only [List.getElem?_append_right (Nat.le_refl _), Nat.sub_self, List.getElem?_cons_zero, hlen, Nat.le_refl, if_true, Nat.min_eq_left hm, List.take_of_length_le hm, hset]
  simp
theorem slc_ms {b N w : Nat} (h : w ≤ N) : slcPV 1 (.ms b 0 N) (some (.int .i64 (w : Int))) none none = some (.ms b w (N - w)) := by
  simp [slcPV, bnd, intOf, h]
theorem slc_ms0 {b N : Nat} : slcPV 1 (.ms b 0 N) (some (.int .i64 0)) (some (.int .i64 (N : Int))) none = some (.ms b 0 N) := by
  simp [slcPV, bnd, intOf]
theorem mulI {ek : EK} {a c : Int} (h1 : -9223372036854775808 ≤ a * c) (h2 : a * c < 9223372036854775808) : binPV .mul ek (.int .i64 a) (.int .i64 c) = some (.int .i64 (a * c)) := by
  simp only [binPV, binI, reduceIte, Option.some.injEq]
  rw [wrap64 h1 h2]

def repOK (st : St) (m : Bs) (r : PV × St) : Prop := ∃ T, r.2 = ⟨st.boxes, st.toks ++ T, st.loops, st.low⟩ ∧ r.1.by = some m
theorem leaveB1 {S : St} {w : PV} {l : Bs} (hg : Grew st S) (hw : OwnB st S w l) : repOK st l (leave st S w) := by
  obtain ⟨hb, hl, hlw, ht⟩ := hg
  rcases hw with ⟨rfl, rfl⟩ | ⟨i, rfl, hi1, hi2⟩
  · refine ⟨[], ?_, ?_⟩
    · simp [leave, PV.inB, hlw, hb, hl, ht, keepRes, keepVal, keepLeaf]
    · simp [leave, PV.inB, hlw, hb, hl, ht, keepRes, keepVal, keepLeaf, PV.by]
  · refine ⟨[true], ?_, ?_⟩
    · simp [leave, PV.inB, hlw, hb, hl, ht, keepRes, keepVal, keepLeaf, keepTok, hi2, show ¬ i < st.toks.length by omega]
    · simp [leave, PV.inB, hlw, hb, hl, ht, keepRes, keepVal, keepLeaf, keepTok, hi2, show ¬ i < st.toks.length by omega, PV.by]
theorem leaveB2 {w : PV} {l : Bs} {T : List Bool} (hw : w.by = some l) : repOK st l (leave st ⟨st.boxes, st.toks ++ T, st.loops, st.boxes.length⟩ w) := by
  rcases by_cases' hw with ⟨rfl, rfl⟩ | ⟨t, rfl⟩
  · refine ⟨[], ?_, ?_⟩
    · simp [leave, PV.inB, keepRes, keepVal, keepLeaf]
    · simp [leave, PV.inB, keepRes, keepVal, keepLeaf, PV.by]
  · have hb : (leave st ⟨st.boxes, st.toks ++ T, st.loops, st.boxes.length⟩ (.bys t l)).2.toks.take st.toks.length = st.toks ∧ (leave st ⟨st.boxes, st.toks ++ T, st.loops, st.boxes.length⟩ (.bys t l)).2.boxes = st.boxes ∧ (leave st ⟨st.boxes, st.toks ++ T, st.loops, st.boxes.length⟩ (.bys t l)).2.loops = st.loops ∧ (leave st ⟨st.boxes, st.toks ++ T, st.loops, st.boxes.length⟩ (.bys t l)).2.low = st.low ∧ (leave st ⟨st.boxes, st.toks ++ T, st.loops, st.boxes.length⟩ (.bys t l)).1.by = some l := by
      simp [leave, PV.inB, keepRes, keepVal, keepLeaf, PV.by]
    obtain ⟨b1, b2, b3, b4, b5⟩ := hb
    generalize leave st ⟨st.boxes, st.toks ++ T, st.loops, st.boxes.length⟩ (.bys t l) = r at *
    obtain ⟨v, B, K, L, lo⟩ := r
    simp only at b1 b2 b3 b4 b5
    subst b2 b3 b4
    refine ⟨K.drop st.toks.length, ?_, b5⟩
    have := List.take_append_drop st.toks.length K
    rw [b1] at this
    rw [this]
theorem bytes_fill (l : Bs) : bytesOf (fillB l 0) = some l := by
  unfold fillB
  simp only [List.replicate_zero, List.append_nil]
  induction l with
  | nil => rfl
  | cons c l ih => simp [bytesOf, ih]
theorem leave_fill {m : Bs} {T : List Bool} : repOK st m (leave st ⟨st.boxes ++ [fillB m 0], st.toks ++ T, st.loops, st.boxes.length⟩ (.ms st.boxes.length 0 m.length)) := by
  have h1 : (PV.ms st.boxes.length 0 m.length).inB st.boxes.length = false := by simp [PV.inB]
  have h3 : (fillB m 0).length = m.length := by simp [fillB]
  have h2 : src8 ⟨st.boxes ++ [fillB m 0], st.toks ++ T, st.loops, st.boxes.length⟩ (.ms st.boxes.length 0 m.length) = some m := by
    simp only [src8, List.getElem?_append_right (Nat.le_refl _), Nat.sub_self, List.getElem?_cons_zero, h3, Nat.zero_add, Nat.le_refl, if_true, List.drop_zero]
    rw [← h3, List.take_length]; exact bytes_fill m
  refine ⟨[], ?_, ?_⟩
  · simp only [leave, h1, h2, Nat.le_refl, if_true]; simp
  · simp only [leave, h1, h2, Nat.le_refl, if_true]; simp [PV.by]

set_option maxHeartbeats 8000000 in
theorem Replace_spec {y v u : PV} {l q : Bs} {x : UInt8} (hy : y.by = some l) (hv : v.by = some [13, 10, x]) (hu : u.by = some q) (hq : q.length = 3 ∨ q = []) (hl : l.length ≤ 10000000) :
    ∃ r, call prog (.fn 103 []) [y, v, u, .int .i64 (-1)] st = some r ∧ repOK st (rep3 x q l) r := by
  refine call_ex prog_103 ?_
  unfold F_bytes_Replace; dsimp only
  obtain ⟨Q0, hQ0⟩ : ∃ Q0 : Ex → Env → St → Prop, Q0 = endX st [.tmp 8] (repOK st (rep3 x q l)) := ⟨_, rfl⟩
  rw [← hQ0]
  have hlp : lenPV false v = some (.int .i64 3) := by rw [len_by hv]; rfl
  have hcn := fun S : St => Count_spec (st := S) hy hv hl
  have hroom : room = 68719476736 := rfl
  obtain ⟨n, hn⟩ : ∃ n, n = cnt3 x l := ⟨_, rfl⟩
  rw [← hn] at hcn
  have hlen := rep3_len (x := x) (q := q) l.length l (Nat.le_refl _)
  obtain ⟨T, hT⟩ : ∃ T, T = rep3 x q l := ⟨_, rfl⟩
  rw [← hT, ← hn] at hlen
  have hnl : n ≤ l.length := by
    have := rep3_len (x := x) (q := []) l.length l (Nat.le_refl _)
    rw [← hn] at this; simp at this; omega
  have hTl : T.length ≤ l.length := by rcases hq with h | h <;> (rw [h] at hlen; simp at hlen; omega)
  by_cases hn0 : n = 0
  · have hn0' : ((n : Nat) : Int) = 0 := by omega
    have hid : rep3 x q l = l := by
      rcases idx3 (x := x) (q := q) l.length l (Nat.le_refl _) with ⟨_, i2, _⟩ | ⟨i, i1, i2, i3, i4⟩
      · exact i2
      · omega
    have fin : ∀ (E : Env) (w : PV) (S : St), Grew st S → OwnB st S w l → E 8 = w → Q0 .ret E S := fun E w S hg hw h8 => by
      rw [hQ0]
      have hnt : notTup w = true := by rcases hw with ⟨rfl, _⟩ | ⟨i, rfl, _⟩ <;> rfl
      refine ⟨.inr rfl, w, by simp [resOf, rvAll, rv1, h8, hnt, packRes], ?_⟩
      rw [hid]; exact leaveB1 hg hw
    by_cases hl0 : l = []
    · have ha : ∀ S : St, app8 S .nils y = some (.nils, S) := fun S => app8_nil rfl (by rw [hy, hl0])
      simp (maxSteps := 1000000) (disch := omega) only [hcn, eq_true hn0', ha, Int.reduceNeg, qaaz, qabz, qacz, qaiz, qajz, qalz, evOp, qaoz, qapz, qaqz, qarz, qatz, qavz,
 ↓reduceIte, Nat.reduceEqDiff, List.map_cons, List.map_nil, qawz, qaxz, Option.map_some, qazz, qbaz, qbhz, qbtz, qbuz, decide_true, reduceCtorEq, ne_eq, not_false_eq_true]
      exact fin _ .nils _ Grew.start (.inl ⟨rfl, hl0⟩) rfl
    · have ha : app8 ⟨st.boxes, st.toks, st.loops, st.boxes.length⟩ .nils y = some (.bys (.own st.toks.length) ([] ++ l), (⟨st.boxes, st.toks, st.loops, st.boxes.length⟩ : St).tok1) := app8_own (st := st) (.inl ⟨rfl, rfl⟩) hy hl0 (by simp; omega)
      simp (maxSteps := 1000000) (disch := omega) only [hcn, eq_true hn0', ha, Int.reduceNeg, qaaz, qabz, qacz, qaiz, qajz, qalz, evOp, qaoz, qapz, qaqz, qarz, qatz, qavz,
 ↓reduceIte, Nat.reduceEqDiff, List.nil_append, List.map_cons, List.map_nil, qawz, qaxz, Option.map_some, qazz, qbaz, qbhz, qbtz, qbuz, decide_true, reduceCtorEq, ne_eq, not_false_eq_true]
      exact fin _ (.bys (.own st.toks.length) l) _ Grew.start.tok1 (.inr ⟨_, rfl, Nat.le_refl _, by simp [St.tok1]⟩) rfl
  · have hn0' : ¬ ((n : Nat) : Int) = 0 := by omega
    have hpe : (n : Int) * ((q.length : Int) - 3) = (T.length : Int) - (l.length : Int) := by
      rcases hq with h | h
      · rw [h] at hlen ⊢; simp; omega
      · rw [h] at hlen ⊢; simp at hlen ⊢; omega
    have hsub : binPV .sub .no (.int .i64 (q.length : Int)) (.int .i64 3) = some (.int .i64 ((q.length : Int) - 3)) := by
      have : q.length ≤ 3 := by rcases hq with h | h <;> (rw [h]; simp)
      exact sub_i (by omega) (by omega)
    have hmul : binPV .mul .no (.int .i64 (n : Int)) (.int .i64 ((q.length : Int) - 3)) = some (.int .i64 ((T.length : Int) - (l.length : Int))) := by
      rw [mulI (by rw [hpe]; omega) (by rw [hpe]; omega), hpe]
    have hadd : binPV .add .no (.int .i64 (l.length : Int)) (.int .i64 ((T.length : Int) - (l.length : Int))) = some (.int .i64 (T.length : Int)) := by
      rw [add_i (by omega) (by omega)]; congr 2; omega
    have hmk : (0 : Int) ≤ (T.length : Int) ∧ T.length ≤ T.length ∧ T.length ≤ room := ⟨by omega, by omega, by omega⟩
    have h03 : (0 : Int) < 3 := by decide
    simp (maxSteps := 1000000) (disch := omega) only [hcn, hn0', len_by hy, len_by hu, hlp, hsub, hmul, hadd, Int.reduceNeg, qaaz, qabz, qacz, qaez, qajz, qakz, qalz, qamz, qanz, evOp, qaoz, qapz, qaqz, qarz, qatz, qavz,
 ↓reduceIte, Nat.reduceEqDiff, List.map_cons, List.map_nil, qawz, qaxz, Option.map_some, qazz, qbhz, qbpz, qbtz, qbuz, beq_false, decide_true, decide_false,
 Int.toNat_natCast, Int.ofNat_le, Bool.false_eq_true, reduceCtorEq, Bool.not_true, ne_eq, not_false_eq_true, Int.reduceLT]
    rw [if_pos hmk]
    simp (maxSteps := 1000000) (disch := omega) only [hlp, h03, qaaz, qabz, qacz, qadz, qajz, qalz, evOp, qaoz, qapz, qarz, qatz, qavz,
 ↓reduceIte, Nat.reduceEqDiff, qawz, qaxz, Option.map_some, qazz, qbhz, qbrz, decide_true]
    obtain ⟨S0, hS0⟩ : ∃ S0 : Bs → St, S0 = fun d => ⟨st.boxes ++ [fillB d (T.length - d.length)], st.toks, st.loops, st.boxes.length⟩ := ⟨_, rfl⟩
    have hcopy : ∀ (d m : Bs) (z : PV), z.by = some m → d.length + m.length ≤ T.length → copyPV (S0 d) (.ms st.boxes.length d.length (T.length - d.length)) z = some (.int .i64 ((m.length : Nat) : Int), S0 (d ++ m)) := fun d m z hz hh => by
      rw [hS0]; dsimp only
      rw [copy_fit hz (by omega)]
      rw [List.length_append, Nat.sub_sub]
    obtain ⟨I, hI⟩ : ∃ I : Nat → Env → St → Prop, I = fun k E S => ∃ (i a : Nat) (d : Bs), k = n - i ∧ i ≤ n ∧ a ≤ l.length ∧ i + cnt3 x (l.drop a) = n ∧ T = d ++ rep3 x q (l.drop a) ∧ S = S0 d ∧ E 0 = y ∧ E 1 = v ∧ E 2 = u ∧ E 10 = .ms st.boxes.length 0 T.length ∧ E 11 = .int .i64 (d.length : Int) ∧ E 12 = .int .i64 (a : Int) ∧ E 48 = .int .i64 (n : Int) ∧ E 49 = .int .i64 (i : Int) := ⟨_, rfl⟩
    refine W_loop I ?_ (n := n) (by
      rw [hI]
      refine ⟨0, 0, [], rfl, by omega, by omega, by rw [List.drop_zero]; omega, by rw [hT]; rfl, ?_, rfl, rfl, rfl, rfl, rfl, rfl, rfl, rfl⟩
      rw [hS0]; simp [fillB])
    intro k E S hh
    rw [hI] at hh
    obtain ⟨i, a, d, rfl, hi, hal, hic, hTT, hS, h0, h1, h2, h10, h11, h12, h48, h49⟩ := hh
    rw [hS]; clear hS S
    have hdl : d.length ≤ T.length := by rw [hTT]; simp
    have sA : slcPV 1 y (some (.int .i64 (a : Int))) none none = some (y.dropB a) := by rw [slc_lo hy (by omega) (by omega), Int.toNat_natCast]
    have hyA := dropB_by (i := a) hy
    have sB : ∀ d : Bs, d.length ≤ T.length → slcPV 1 (.ms st.boxes.length 0 T.length) (some (.int .i64 (d.length : Int))) none none = some (.ms st.boxes.length d.length (T.length - d.length)) := fun d h => slc_ms h
    by_cases hin : i < n
    · have hix := fun S : St => bIndex_spec (st := S) hyA hv (by simp; omega) (by simp)
      rcases idx3 (x := x) (q := q) (l.drop a).length (l.drop a) (Nat.le_refl _) with ⟨i1, i2, i3⟩ | ⟨b, i1, i2, i3, i4⟩
      · omega
      · rw [i1] at hix
        rw [List.length_drop] at i2
        rw [List.drop_drop] at i3 i4
        have adj : binPV .add .no (.int .i64 (a : Int)) (.int .i64 (b : Int)) = some (.int .i64 ((a + b : Nat) : Int)) := by rw [add_i (by omega) (by omega)]; congr 2
        have sC : slcPV 1 y (some (.int .i64 (a : Int))) (some (.int .i64 ((a + b : Nat) : Int))) none = some (y.midB a (a + b)) := by rw [slc_lohi hy (by omega) (by omega) (by omega), Int.toNat_natCast, Int.toNat_natCast]
        obtain ⟨m, hm⟩ : ∃ m, m = (l.drop a).take b := ⟨_, rfl⟩
        have hyC : (y.midB a (a + b)).by = some m := by rw [midB_by hy, List.drop_take, Nat.add_sub_cancel_left, hm]
        rw [← hm] at i3
        rw [i3] at hTT
        have hTle := congrArg List.length hTT
        simp only [List.length_append] at hTle
        have c1 := hcopy d m _ hyC (by omega)
        have c2 := hcopy (d ++ m) q _ hu (by rw [List.length_append]; omega)
        have s2 := sB (d ++ m) (by rw [List.length_append]; omega)
        have w1 : binPV .add .no (.int .i64 (d.length : Int)) (.int .i64 ((m.length : Nat) : Int)) = some (.int .i64 ((d ++ m).length : Int)) := by rw [add_i (by omega) (by omega), List.length_append]; congr 2
        have w2 : binPV .add .no (.int .i64 ((d ++ m).length : Int)) (.int .i64 ((q.length : Nat) : Int)) = some (.int .i64 ((d ++ m ++ q).length : Int)) := by
          rw [add_i (by rw [List.length_append]; omega) (by rw [List.length_append]; omega), List.length_append (as := d ++ m)]; congr 2
        have w3 : binPV .add .no (.int .i64 ((a + b : Nat) : Int)) (.int .i64 3) = some (.int .i64 ((a + b + 3 : Nat) : Int)) := by rw [add_i (by omega) (by omega)]; congr 2
        obtain ⟨d2, hd2⟩ : ∃ d2, d2 = d ++ m := ⟨_, rfl⟩
        rw [← hd2] at c1 c2 s2 w1 w2
        have hT2 : T = d2 ++ q ++ rep3 x q (l.drop (a + (b + 3))) := by rw [hTT, hd2]; simp
        simp (maxSteps := 1000000) (disch := omega) only [h0, h1, h2, h10, h11, h12, h48, h49, hin, sA, hix, adj, sB d hdl, sC, c1, w1, s2, c2, w2, hlp, w3, add_n, loopQ_normal, qaaz, qabz, qacz, qadz, qaez, qajz, qalz, evOp, qaoz, qapz, qaqz, qarz, qatz, qavz,
 ↓reduceIte, Nat.reduceEqDiff, List.map_cons, List.map_nil, Option.map_some, Option.map_none, qazz, qbdz, qbhz, qbpz, decide_true, Int.ofNat_lt, Int.reduceToNat, reduceCtorEq]
        refine ⟨n - (i + 1), by omega, ?_⟩
        rw [hI]
        exact ⟨i + 1, a + b + 3, d2 ++ q, rfl, by omega, by omega, by rw [show a + b + 3 = a + (b + 3) by omega]; omega, by rw [show a + b + 3 = a + (b + 3) by omega]; exact hT2, rfl, h0, h1, h2, h10, rfl, rfl, h48, rfl⟩
    · have hc0 : cnt3 x (l.drop a) = 0 := by omega
      have hid : rep3 x q (l.drop a) = l.drop a := by
        rcases idx3 (x := x) (q := q) (l.drop a).length (l.drop a) (Nat.le_refl _) with ⟨_, i2, _⟩ | ⟨i, i1, i2, i3, i4⟩
        · exact i2
        · omega
      rw [hid] at hTT
      have hTle := congrArg List.length hTT
      rw [List.length_append] at hTle
      have c1 := hcopy d _ _ hyA (by omega)
      have w1 : binPV .add .no (.int .i64 (d.length : Int)) (.int .i64 (((l.drop a).length : Nat) : Int)) = some (.int .i64 (T.length : Int)) := by rw [add_i (by omega) (by omega), hTle]; congr 2
      have s0 := slc_ms0 (b := st.boxes.length) (N := T.length)
      rw [← hTT] at c1
      simp (maxSteps := 1000000) (disch := omega) only [h0, h10, h11, h12, h48, h49, hin, sA, sB d hdl, c1, w1, s0, qaaz, qabz, qacz, qagz, qaiz, qajz, qalz, evOp, qaoz, qapz, qarz, qatz, qavz,
 ↓reduceIte, Nat.reduceEqDiff, Option.map_some, Option.map_none, qazz, qbbz, qbfz, qbhz, qbjz, qbpz, decide_false,
 Int.ofNat_lt, Bool.false_eq_true, reduceCtorEq]
      rw [hQ0, ← hT]
      refine ⟨.inr rfl, .ms st.boxes.length 0 T.length, by simp [resOf, rvAll, rv1, qavz, notTup, packRes], ?_⟩
      have := leave_fill (st := st) (m := T) (T := [])
      rw [List.append_nil] at this
      rw [hS0]
      simpa using this

theorem repAll_spec {y v u : PV} {l q : Bs} {x : UInt8} (hy : y.by = some l) (hv : v.by = some [13, 10, x]) (hu : u.by = some q) (hq : q.length = 3 ∨ q = []) (hl : l.length ≤ 10000000) :
    ∃ r, call prog (.fn 101 []) [y, v, u] st = some r ∧ repOK st (rep3 x q l) r := by
  refine call_ex prog_101 ?_
  unfold F_bytes_ReplaceAll; dsimp only
  obtain ⟨⟨w, S⟩, d1, T, hT, hw⟩ := Replace_spec (st := ⟨st.boxes, st.toks, st.loops, st.boxes.length⟩) hy hv hu hq hl
  simp only at hT hw
  rw [hT] at d1
  simp (maxSteps := 1000000) (disch := omega) only [d1, qaaz, qabz, qaiz, qajz, qalz, evOp, qaoz, qapz, qaqz, qarz, qatz, qavz,
 ↓reduceIte, Nat.reduceEqDiff, List.map_cons, List.map_nil, qawz, qaxz, qazz, reduceCtorEq]
  have hnt : notTup w = true := by rcases by_cases' hw with ⟨rfl, _⟩ | ⟨t, rfl⟩ <;> rfl
  refine ⟨.inr rfl, w, by simp [resOf, rvAll, rv1, qavz, hnt, packRes], ?_⟩
  exact leaveB2 hw
theorem unfold_spec {y : PV} {l : Bs} (hy : y.by = some l) (hl : l.length ≤ 10000000) : ∃ r, call prog (.fn 96 []) [y] st = some r ∧ repOK st (unfV l) r := by
  refine call_ex prog_96 ?_
  unfold F_sheet_unfold; dsimp only
  have hlit9 : lit8Fill (List.replicate 3 0) [(0, .b8 13), (1, .b8 10), (2, .b8 9)] = some [13, 10, 9] := rfl
  have hlit32 : lit8Fill (List.replicate 3 0) [(0, .b8 13), (1, .b8 10), (2, .b8 32)] = some [13, 10, 32] := rfl
  obtain ⟨⟨w, S⟩, d1, T, hT, hw⟩ := repAll_spec (st := ⟨st.boxes, st.toks ++ [true] ++ [true], st.loops, st.boxes.length⟩) (v := .bys (.own st.toks.length) [13, 10, 9]) (u := .bys (.own (st.toks ++ [true]).length) [13, 10, 32]) (x := 9) hy rfl rfl (.inl rfl) hl
  simp only at hT hw
  rw [hT] at d1
  have hwl : (rep3 9 [13, 10, 32] l).length = l.length := by
    have := rep3_len (x := 9) (q := [13, 10, 32]) l.length l (Nat.le_refl _); simp at this; omega
  obtain ⟨⟨w2, S2⟩, d2, T2, hT2, hw2⟩ := repAll_spec (st := ⟨st.boxes, st.toks ++ [true] ++ [true] ++ T ++ [true], st.loops, st.boxes.length⟩) (v := .bys (.own (st.toks ++ [true] ++ [true] ++ T).length) [13, 10, 32]) (u := .nils) (x := 32) hw rfl rfl (.inr rfl) (by omega)
  simp only at hT2 hw2
  rw [hT2] at d2
  rw [unf_eq _ _ (Nat.le_refl _)] at hw2
  have t1 : (st.toks ++ [true])[st.toks.length]? = some true := by simp
  have t2 : (st.toks ++ [true] ++ [true])[(st.toks ++ [true]).length]? = some true := by simp
  have t3 : (st.toks ++ [true] ++ [true] ++ T ++ [true])[(st.toks ++ [true] ++ [true] ++ T).length]? = some true := by simp
  simp (maxSteps := 1000000) (disch := omega) only [hlit9, hlit32, freshT, if_pos t1, if_pos t2, if_pos t3, d1, d2, qaaz, qabz, qaiz, qajz, qalz, evOp, qaoz, qapz, qaqz, qarz, qatz, qavz,
 ↓reduceIte, Nat.reduceEqDiff, List.map_cons, List.map_nil, qawz, qazz, reduceCtorEq]
  have hnt : notTup w2 = true := by rcases by_cases' hw2 with ⟨rfl, _⟩ | ⟨t, rfl⟩ <;> rfl
  refine ⟨.inr rfl, w2, by simp [resOf, rvAll, rv1, qavz, hnt, packRes], ?_⟩
  simp only [List.append_assoc]
  exact leaveB2 hw2
end Go.Ab
/-
  A line is read: the parts of it.
-/
namespace Go.Ab
set_option maxRecDepth 20000
variable {st s : St} {e : Env}

theorem sub_8u {ek : EK} {a c : UInt8} : binPV .sub ek (.b8 a) (.b8 c) = some (.b8 (a - c)) := rfl
def upC (c : UInt8) : UInt8 := if 97 ≤ c ∧ c ≤ 122 then c - 32 else c
def upOf (s : List UInt8) : List UInt8 := s.map upC

theorem upper_spec {s : List UInt8} (h : s.length ≤ 1000000) : call prog (.fn 71 []) [.str s] st = some (.str (upOf s), st) := by
  refine call_of_W prog_71 ?_
  unfold F_sheet_upper; dsimp only
  simp (maxSteps := 1000000) (disch := omega) only [bst_eq, len_ms, qaaz, qabz, qadz, qajz, qalz, evOp, qaoz, qapz, qarz, qatz, qavz,
 ↓reduceIte, List.append_nil, qawz, Option.map_some, qazz, reduceCtorEq]
  obtain ⟨I, hI⟩ : ∃ I : Nat → Env → St → Prop, I = fun n e s' => ∃ (i : Nat) (l : List UInt8), n = s.length - i ∧ i ≤ s.length ∧ l = upOf (s.take i) ++ s.drop i ∧ s' = bst st l ∧ e 3 = .ms st.boxes.length 0 s.length ∧ e 8 = .ms st.boxes.length 0 s.length ∧ e 9 = .int .i64 (s.length : Int) ∧ e 10 = .int .i64 (i : Int) := ⟨_, rfl⟩
  refine W_loop I ?_ (n := s.length) (by
    rw [hI]
    exact ⟨0, s, rfl, by omega, by simp [upOf], rfl, rfl, rfl, rfl, rfl⟩)
  intro n e s' hh
  rw [hI] at hh
  obtain ⟨i, l, rfl, hi, hl, rfl, h3, h8, h9, h10⟩ := hh
  have hll : l.length = s.length := by rw [hl]; simp [upOf]; omega
  by_cases hlt : i < s.length
  · obtain ⟨c, hc⟩ : ∃ c, c = s.getD i 0 := ⟨_, rfl⟩
    have hlc : l.getD i 0 = c := by
      rw [hl, hc]
      simp only [List.getD]
      rw [List.getElem?_append_right (by simp [upOf]; omega)]
      simp [upOf, Nat.min_eq_left hi]
    have hnext : ∀ (E : Env) (l' : List UInt8), l' = l.set i (upC c) → E 3 = .ms st.boxes.length 0 s.length → E 8 = .ms st.boxes.length 0 s.length → E 9 = .int .i64 (s.length : Int) → E 10 = .int .i64 ((i + 1 : Nat) : Int) → I (s.length - (i + 1)) E (bst st l') := by
      intro E l' k0 k1 k2 k3 k4
      rw [hI]
      refine ⟨i + 1, l', rfl, by omega, ?_, rfl, k1, k2, k3, k4⟩
      rw [k0, hl, take_getD hlt, ← hc, drop_getD hlt]
      have hn : (upOf (s.take i)).length = i := by simp [upOf]; omega
      rw [List.set_append_right _ _ (by omega), hn]
      simp [upOf]
    by_cases h97 : 97 ≤ c
    · by_cases h122 : c ≤ 122
      · simp (maxSteps := 1000000) (disch := omega) only [h3, h8, h9, h10, hlt, iaddr_ms, load_bst (st := st) (l := l) (i := i) (by omega), hlc, h97, h122, sub_8u, store_bst (st := st) (l := l) (i := i) (by omega), add_n, qaaz, qabz, qacz, qadz, qaez, qajz, qakz, qalz, qamz, qanz, evOp, qaoz, qapz, qarz, qatz, qauz, qavz,
 ↓reduceIte, Nat.reduceEqDiff, Option.map_some, qazz, qbdz, qbhz, qbpz, qbyz, qcaz, beq_true, decide_true, Int.toNat_natCast, Int.ofNat_lt, Int.reduceToNat]
        exact loopQ_intro (m := s.length - (i + 1)) (by omega) (hnext _ (l.set i (c - 32)) (by simp [upC, h97, h122]) h3 h8 h9 rfl)
      · simp (maxSteps := 1000000) (disch := omega) only [h8, h9, h10, hlt, iaddr_ms, load_bst (st := st) (l := l) (i := i) (by omega), hlc, h97, h122, add_n, qaaz, qabz, qacz, qadz, qaez, qajz, qakz, qalz, qamz, qanz, evOp, qaoz, qapz, qarz, qatz, qavz,
 ↓reduceIte, Nat.reduceEqDiff, Option.map_some, qazz, qbdz, qbhz, qbpz, qbyz, qcaz, beq_true, decide_true, decide_false,
 Int.toNat_natCast, Int.ofNat_lt, Bool.false_eq_true, Int.reduceToNat]
        exact loopQ_intro (m := s.length - (i + 1)) (by omega) (hnext _ l (by simp only [upC, h122, and_false, if_false]; rw [← hlc, List.getD, List.getElem?_eq_getElem (by omega)]; simp) h3 h8 h9 rfl)
    · simp (maxSteps := 1000000) (disch := omega) only [h8, h9, h10, hlt, iaddr_ms, load_bst (st := st) (l := l) (i := i) (by omega), hlc, h97, add_n, qaaz, qabz, qacz, qadz, qaez, qajz, qakz, qalz, qamz, qanz, evOp, qaoz, qapz, qarz, qatz, qavz,
 ↓reduceIte, Nat.reduceEqDiff, Option.map_some, qazz, qbdz, qbhz, qbpz, qcaz, beq_true, decide_true, decide_false,
 Int.toNat_natCast, Int.ofNat_lt, Bool.false_eq_true, Int.reduceToNat]
      exact loopQ_intro (m := s.length - (i + 1)) (by omega) (hnext _ l (by simp only [upC, h97, false_and, if_false]; rw [← hlc, List.getD, List.getElem?_eq_getElem (by omega)]; simp) h3 h8 h9 rfl)
  · obtain rfl : i = s.length := by omega
    simp (maxSteps := 1000000) (disch := omega) only [h3, h9, h10, hlt, b2s_bst (st := st) (l := l) hll.symm, qaaz, qabz, qacz, qagz, qaiz, qajz, qalz, evOp, qaoz, qarz, qatz, qavz,
 ↓reduceIte, Nat.reduceEqDiff, Option.map_some, qazz, qbbz, qbfz, qbhz, qbjz, qblz, qbpz, decide_false,
 Int.ofNat_lt, Bool.false_eq_true]
    exact ⟨.str (upOf s), by rw [hl]; simp [resOf, rvAll, rv1, qavz, notTup, packRes], leave_bst rfl (fun _ _ => rfl)⟩

def endI (e s : Bs) : Nat := s.findIdx fun c => e.contains c
theorem endI_cons {e s : Bs} {c : UInt8} : endI e (c :: s) = if e.contains c then 0 else endI e s + 1 := by
  unfold endI; rw [List.findIdx_cons]; cases e.contains c <;> rfl
def cutV (e s : Bs) : Bs × UInt8 × Bs := (s.take (endI e s), if endI e s < s.length then s.getD (endI e s) 0 else 0, s.drop (endI e s + 1))
theorem idxB_has {e : Bs} {c : UInt8} : (0 ≤ Lib.indexByte e c) = (e.contains c = true) := by
  have key : ∀ e : Bs, -1 ≤ Lib.indexByte e c ∧ (0 ≤ Lib.indexByte e c ↔ e.contains c = true) := by
    intro e
    induction e with
    | nil => simp [Lib.indexByte]
    | cons b l ih =>
      obtain ⟨i1, i2⟩ := ih
      rw [Lib.indexByte, List.contains_cons]
      by_cases hb : b = c
      · subst hb; simp
      · have h1 : (b == c) = false := by simpa using hb
        have h2 : (c == b) = false := by simpa using fun q : c = b => hb q.symm
        rw [h1, h2, Bool.false_or, if_neg (by simp)]
        by_cases hm : Lib.indexByte l c = -1
        · rw [hm, if_pos (by rfl)]
          rw [hm] at i2
          exact ⟨by omega, i2⟩
        · rw [if_neg (by simpa using hm), ← i2]
          exact ⟨by omega, by omega⟩
  exact propext (key e).2

set_option maxHeartbeats 2000000 in
theorem cut_spec {x e : Bs} (hl : x.length ≤ 1000000) (he : e.length ≤ 100) : call prog (.fn 70 []) [.str x, .str e] st = some (.tup [.str (cutV e x).1, .b8 (cutV e x).2.1, .str (cutV e x).2.2], st) := by
  refine call_of_W prog_70 ?_
  unfold F_sheet_cut; dsimp only
  simp (maxSteps := 1000000) (disch := omega) only [len_s, qaaz, qabz, qadz, qajz, qalz, evOp, qaoz, qapz, qarz, qatz, qavz,
 ↓reduceIte, List.append_nil, qawz, Option.map_some, qazz, reduceCtorEq]
  obtain ⟨Q0, hQ0⟩ : ∃ Q0 : Ex → Env → St → Prop, Q0 = endQ st [.tmp 4, .tmp 5, .tmp 6] (.tup [.str (cutV e x).1, .b8 (cutV e x).2.1, .str (cutV e x).2.2], st) := ⟨_, rfl⟩
  rw [← hQ0]
  have fin : ∀ (E : Env) (a b : Bs) (c : UInt8), E 4 = .str a → E 5 = .b8 c → E 6 = .str b → cutV e x = (a, c, b) → Q0 .ret E ⟨st.boxes, st.toks, st.loops, st.boxes.length⟩ := fun E a b c h4 h5 h6 h => by
    rw [hQ0, qblz, h]
    exact ⟨.tup [.str a, .b8 c, .str b], by simp [resOf, rvAll, rv1, h4, h5, h6, notTup, packRes], Kept.start.leave' ⟨fun _ => rfl, fun _ _ => rfl⟩⟩
  obtain ⟨I, hI⟩ : ∃ I : Nat → Env → St → Prop, I = fun k E S => ∃ i : Nat, k = x.length - i ∧ i ≤ x.length ∧ S = (⟨st.boxes, st.toks, st.loops, st.boxes.length⟩ : St) ∧ endI e x = i + endI e (x.drop i) ∧ E 0 = .str x ∧ E 1 = .str e ∧ E 9 = .int .i64 (x.length : Int) ∧ E 10 = .int .i64 (i : Int) := ⟨_, rfl⟩
  refine W_loop I ?_ (n := x.length) (by
    rw [hI]; exact ⟨0, rfl, by omega, rfl, by simp, rfl, rfl, rfl, rfl⟩)
  intro k E S hh
  rw [hI] at hh
  obtain ⟨i, rfl, hi, rfl, hd, h0, h1, h9, h10⟩ := hh
  by_cases hlt : i < x.length
  · obtain ⟨c, hc⟩ : ∃ c, c = x.getD i 0 := ⟨_, rfl⟩
    have hdr : x.drop i = c :: x.drop (i + 1) := by rw [List.drop_eq_getElem_cons hlt, hc]; simp [List.getD, hlt]
    rw [hdr, endI_cons] at hd
    have hix : ∀ S : St, call prog (.fn 78 []) [.str e, .b8 c] S = some (.int .i64 (Lib.indexByte e c), S) := fun S => by rw [call_prim prog_78]; simp [pStrIndexByte]
    cases hcc : e.contains c with
    | true =>
      rw [hcc, if_pos rfl, Nat.add_zero] at hd
      have h0i : 0 ≤ Lib.indexByte e c := by rw [idxB_has]; exact hcc
      have s1 : slcPV 0 (.str x) none (some (.int .i64 (i : Int))) none = some (.str (x.take i)) := by rw [slc_s_hi (by omega) (by omega), Int.toNat_natCast]
      have s2 : slcPV 0 (.str x) (some (.int .i64 ((i + 1 : Nat) : Int))) none none = some (.str (x.drop (i + 1))) := by rw [slc_s_lo (by omega) (by omega), Int.toNat_natCast]
      simp (maxSteps := 1000000) (disch := omega) only [h0, h1, h9, h10, hlt, idx_s, ← hc, hix, h0i, s1, s2, add_n, qaaz, qabz, qacz, qadz, qaez, qaiz, qajz, qalz, evOp, qaoz, qapz, qaqz, qarz, qatz, qavz,
 ↓reduceIte, Nat.reduceEqDiff, List.map_cons, List.map_nil, Option.map_some, Option.map_none, qazz, qbaz, qbez, qbhz, qbiz, qbpz, qbsz, decide_true, Int.toNat_natCast, Int.ofNat_lt, Int.reduceToNat, reduceCtorEq]
      exact fin _ _ _ _ rfl rfl rfl (by unfold cutV; rw [hd, if_pos hlt, ← hc])
    | false =>
      rw [hcc, if_neg (by simp)] at hd
      have h0i : ¬ 0 ≤ Lib.indexByte e c := by rw [idxB_has, hcc]; simp
      simp (maxSteps := 1000000) (disch := omega) only [h0, h1, h9, h10, hlt, idx_s, ← hc, hix, h0i, add_n, loopQ_normal, qaaz, qabz, qacz, qadz, qaez, qajz, qalz, evOp, qaoz, qapz, qaqz, qarz, qatz, qavz,
 ↓reduceIte, Nat.reduceEqDiff, List.map_cons, List.map_nil, Option.map_some, qazz, qbdz, qbhz, qbpz, qbsz, decide_true, decide_false,
 Int.toNat_natCast, Int.ofNat_lt, Bool.false_eq_true, Int.reduceToNat, reduceCtorEq]
      refine ⟨x.length - (i + 1), by omega, ?_⟩
      rw [hI]
      exact ⟨i + 1, rfl, by omega, rfl, by omega, h0, h1, h9, rfl⟩
  · have hdn : x.drop i = [] := List.drop_of_length_le (by omega)
    have he : endI e x = x.length := by rw [hd, hdn]; simp [endI]; omega
    simp (maxSteps := 1000000) (disch := omega) only [h0, h9, h10, hlt, qaaz, qabz, qacz, qagz, qaiz, qajz, qalz, evOp, qaoz, qapz, qarz, qatz, qavz,
 ↓reduceIte, Option.map_some, qazz, qbbz, qbfz, qbhz, qbjz, qbpz, decide_false,
 Int.ofNat_lt, Bool.false_eq_true, reduceCtorEq]
    exact fin _ _ _ _ rfl rfl rfl (by unfold cutV; rw [he, if_neg (by omega), List.take_length, List.drop_of_length_le (by omega)])

end Go.Ab
/-
  Texts of points: put together, cut.
-/
namespace Go.Ab

theorem accP_congr {l m : List UInt8} {p : Nat} : ∀ k, (∀ j, j ≤ k → l.getD j 0 = m.getD j 0) → accP l p k = accP m p k := by
  intro k
  induction k with
  | zero => intro _; rfl
  | succ k ih =>
    intro h
    simp only [accP]
    rw [ih (fun j hj => h j (by omega)), h (k + 1) (by omega)]
theorem next_congr {l m : List UInt8} {p n : Nat} (h : nextOf l = some (p, n)) (hl : n ≤ m.length) (he : ∀ j, j < n → m.getD j 0 = l.getD j 0) : nextOf m = some (p, n) := by
  obtain ⟨h1, h2, -⟩ := next_pos h
  have h0 := he 0 (by omega)
  have hne : m ≠ [] := by rintro rfl; simp at hl; omega
  by_cases hc : (l.getD 0 0).toNat < 128
  · have h' := h
    unfold nextOf at h'
    split at h'
    · cases h'
    · cases h'
      unfold nextOf
      rw [if_neg hne, h0, if_pos hc]
  · obtain ⟨k1, k2, k3⟩ := next_succ hc h
    have hc2 : ¬ (m.getD 0 0).toNat < 128 := by rw [h0]; exact hc
    have hq : qN m n = qN l n := by
      unfold qN
      rw [h0]
      exact accP_congr _ (fun j hj => he j (by omega))
    have ht : m.take n = l.take n := by
      apply List.ext_getElem
      · simp; omega
      · intro i h1 h2
        simp only [List.length_take] at h1 h2
        have := he i (by omega)
        simp only [List.getElem_take]
        simpa [List.getD, show i < m.length by omega, show i < l.length by omega] using this
    have hs : succN m n := ⟨by rw [hq]; exact k3.1, by rw [hq, ht]; exact k3.2⟩
    have e1 := succ_next k1 hl hc2 hs
    have e2 := succ_next k1 k2 hc k3
    rw [h] at e2
    cases e2
    rw [e1, hq]

inductive Vd : List UInt8 → Prop
  | nil : Vd []
  | cons {l : List UInt8} {p n : Nat} (h : nextOf l = some (p, n)) (hr : Vd (l.drop n)) : Vd l

theorem vd_of_pts : ∀ (k : Nat) (l : List UInt8) (i : Nat), l.length + 1 - i ≤ k → i ≤ l.length → ((∃ r, ptsOf k l i = .ok r) ↔ Vd (l.drop i)) := by
  intro k
  induction k with
  | zero => intro l i h1 h2; omega
  | succ k ih =>
    intro l i h1 h2
    simp only [ptsOf]
    by_cases hlt : i < l.length
    · rw [if_pos hlt]
      have hdl : l.drop i ≠ [] := by intro h; have := congrArg List.length h; simp at this; omega
      cases hno : nextOf (l.drop i) with
      | none =>
        simp only
        constructor
        · rintro ⟨r, hr⟩; cases hr
        · intro h
          exfalso
          generalize hm : l.drop i = m at *
          cases h with
          | nil => exact hdl rfl
          | cons h' _ => rw [hno] at h'; cases h'
      | some pn =>
        obtain ⟨p, n⟩ := pn
        obtain ⟨n1, n2, -⟩ := next_pos hno
        simp only [List.length_drop] at n2
        have := ih l (i + n) (by omega) (by omega)
        simp only
        constructor
        · rintro ⟨r, hr⟩
          refine .cons hno ?_
          rw [List.drop_drop]
          apply this.1
          cases h : ptsOf k l (i + n) with
          | ok r => exact ⟨r, rfl⟩
          | error j => rw [h] at hr; cases hr
        · intro h
          have h3 : Vd ((l.drop i).drop n) := by
            generalize hm : l.drop i = m at *
            cases h with
            | nil => exact absurd rfl hdl
            | cons h' hr => rw [hno] at h'; cases h'; exact hr
          rw [List.drop_drop] at h3
          obtain ⟨r, hr⟩ := this.2 h3
          exact ⟨p :: r, by rw [hr]⟩
    · rw [if_neg hlt]
      have : i = l.length := by omega
      subst this
      rw [List.drop_length]
      exact ⟨fun _ => .nil, fun _ => ⟨[], rfl⟩⟩
theorem valid_iff {l : List UInt8} : validOf l = true ↔ Vd l := by
  have := vd_of_pts (l.length + 1) l 0 (by omega) (by omega)
  rw [List.drop_zero] at this
  rw [← this]
  unfold validOf
  cases ptsOf (l.length + 1) l 0 with
  | ok r => exact ⟨fun _ => ⟨r, rfl⟩, fun _ => rfl⟩
  | error j => exact ⟨fun h => (by cases h), fun h => (by obtain ⟨r, hr⟩ := h; cases hr)⟩

theorem Vd.app {a b : List UInt8} (ha : Vd a) (hb : Vd b) : Vd (a ++ b) := by
  induction ha with
  | nil => exact hb
  | @cons l p n h hr ih =>
    obtain ⟨n1, n2, -⟩ := next_pos h
    refine .cons (p := p) (n := n) (next_congr h (by simp; omega) fun j hj => ?_) ?_
    · simp only [List.getD]; rw [List.getElem?_append_left (by omega)]
    · rw [List.drop_append_of_le_length n2]; exact ih
theorem Vd.cut {l : List UInt8} (h : Vd l) : ∀ c, c ≤ l.length → (c = l.length ∨ ¬ isCont (l.getD c 0)) → Vd (l.take c) ∧ Vd (l.drop c) := by
  induction h with
  | nil => intro c hc _; simp at hc; subst hc; exact ⟨.nil, .nil⟩
  | @cons l p n h hr ih =>
    intro c hc hcc
    obtain ⟨n1, n2, -⟩ := next_pos h
    obtain ⟨-, c2⟩ := next_cont h
    by_cases h0 : c = 0
    · subst h0; exact ⟨.nil, .cons h hr⟩
    · have hnc : n ≤ c := by
        rcases hcc with hcc | hcc
        · omega
        · by_cases hlt : c < n
          · exact absurd (c2 c (by omega) hlt) hcc
          · omega
      have h3 := ih (c - n) (by simp; omega) (by
        rcases hcc with hcc | hcc
        · exact .inl (by simp; omega)
        · right; rw [drop_get, show n + (c - n) = c by omega]; exact hcc)
      have e1 : (l.drop n).drop (c - n) = l.drop c := by rw [List.drop_drop]; congr 1; omega
      have e2 : (l.take c).drop n = (l.drop n).take (c - n) := by rw [List.drop_take]
      refine ⟨.cons (p := p) (n := n) (next_congr h (by simp; omega) fun j hj => ?_) (by rw [e2]; exact h3.1), by rw [← e1]; exact h3.2⟩
      simp [List.getD, show j < c by omega]
theorem Vd.ascii : ∀ {l : List UInt8}, (∀ c ∈ l, c.toNat < 128) → Vd l := by
  intro l
  induction l with
  | nil => intro _; exact .nil
  | cons c r ih =>
    intro h
    refine .cons (p := c.toNat) (n := 1) ?_ (ih (fun d hd => h d (by simp [hd])))
    have := h c (by simp)
    unfold nextOf
    simp [this]
end Go.Ab
/-
  The pieces of a calendar's line: the plain law.
-/
namespace Go.Ab

theorem nmC_asc {c : UInt8} (h : nmC c = true) : c.toNat < 128 ∧ c ≠ 13 ∧ c ≠ 32 := by
  have := all256 (p := fun c => nmC c = true → c.toNat < 128 ∧ c ≠ 13 ∧ c ≠ 32) (by decide +kernel) c
  exact this h
theorem txC_ne {c : UInt8} (h : txC c = true) : c ≠ 13 := by
  have := all256 (p := fun c => txC c = true → c ≠ 13) (by decide +kernel) c
  exact this h
theorem nm_vd {l : List UInt8} (h : nmB l = true) : Vd l ∧ (∀ c ∈ l, c ≠ 13) ∧ 1 ≤ l.length ∧ l.getD 0 0 ≠ 32 := by
  simp only [nmB, Bool.and_eq_true, decide_eq_true_eq, List.all_eq_true] at h
  refine ⟨Vd.ascii fun c hc => (nmC_asc (h.2 c hc)).1, fun c hc => (nmC_asc (h.2 c hc)).2.1, h.1.1, ?_⟩
  refine (nmC_asc (h.2 _ ?_)).2.2
  simp [List.getD, show 0 < l.length by omega]
theorem tx_vd {l : List UInt8} (h : txB l = true) : Vd l ∧ ∀ c ∈ l, c ≠ 13 := by
  simp only [txB, Bool.and_eq_true, List.all_eq_true] at h
  exact ⟨valid_iff.1 h.2, fun c hc => txC_ne (h.1 c hc)⟩
def Fine (l : List UInt8) : Prop := Vd l ∧ ∀ c ∈ l, c ≠ 13
theorem Fine.app {a b : List UInt8} (ha : Fine a) (hb : Fine b) : Fine (a ++ b) := ⟨ha.1.app hb.1, fun c hc => by
  rcases List.mem_append.1 hc with h | h
  · exact ha.2 c h
  · exact hb.2 c h⟩
theorem Fine.one {c : UInt8} (h : c.toNat < 128) (h2 : c ≠ 13) : Fine [c] := ⟨Vd.ascii fun d hd => by simp at hd; subst hd; exact h, fun d hd => by simp at hd; subst hd; exact h2⟩
theorem Fine.nil : Fine [] := ⟨.nil, fun c h => by cases h⟩

theorem quote_fine {v : List UInt8} (h : Fine v) : Fine (quoteOf v) := by
  unfold quoteOf
  split
  · have := (Fine.one (c := 34) (by decide) (by decide)).app (h.app (Fine.one (c := 34) (by decide) (by decide)))
    simpa using this
  · exact h
theorem par_fine {p : Fld} (h : parOK p) : Fine (parOf p) := by
  have h1 := nm_vd h.1
  have h2 := tx_vd h.2.1
  have hF : Fine p.1 := ⟨h1.1, h1.2.1⟩
  have := (Fine.one (c := 59) (by decide) (by decide)).app (hF.app ((Fine.one (c := 61) (by decide) (by decide)).app (quote_fine h2)))
  simpa [parOf] using this
theorem pars_fine : ∀ {ps : List Fld}, (∀ p ∈ ps, parOK p) → Fine (ps.flatMap parOf) := by
  intro ps
  induction ps with
  | nil => intro _; exact .nil
  | cons p r ih =>
    intro h
    simp only [List.flatMap_cons]
    exact (par_fine (h p (by simp))).app (ih fun q hq => h q (by simp [hq]))
theorem rt_of {L : Ln} (h : rtB L = true) : rtP L := by
  apply Classical.byContradiction
  intro hn
  rw [rtB_false hn] at h; cases h
theorem text_fine {L : Ln} (h : rtB L = true) : Fine (textOfL L) ∧ 1 ≤ (textOfL L).length ∧ (textOfL L).getD 0 0 ≠ 32 := by
  have hp := rt_of h
  obtain ⟨n1, n2, n3, n4⟩ := nm_vd hp.1
  have hps : ∀ p ∈ L.ps, parOK p := fun p hpm => by
    obtain ⟨i, hi, rfl⟩ := List.mem_iff_getElem.1 hpm
    have := hp.2.2.2.2.1 i hi
    simpa [List.getD, hi] using this
  have hF : Fine L.n := ⟨n1, n2⟩
  have hT : Fine L.v := tx_vd hp.2.1
  have h1 := (hF.app (pars_fine hps)).app ((Fine.one (c := 58) (by decide) (by decide)).app hT)
  refine ⟨by simpa [textOfL] using h1, by simp [textOfL]; omega, ?_⟩
  unfold textOfL
  simp only [List.getD, List.append_assoc]
  rw [List.getElem?_append_left (by omega)]
  simpa [List.getD] using n4

theorem cut_fine {l : List UInt8} (h : Fine l) (h75 : 75 < l.length) : Fine (l.take (cutOf l 75)) ∧ Fine (l.drop (cutOf l 75)) := by
  have hv := valid_iff.2 h.1
  obtain ⟨c1, c2⟩ := cut75 h75
  have hb : ¬ isCont (l.getD (cutOf l 75) 0) := by
    have hc : cutOf l 75 = back l 75 := by simp only [cutOf, hv, if_true]; rw [Nat.min_eq_left (by omega)]
    rw [hc]
    have : ∀ m, m < l.length → 0 < back l m → ¬ isCont (l.getD (back l m) 0) := by
      intro m
      induction m with
      | zero => intro _ h; simp [back] at h
      | succ m ih =>
        intro hm h
        simp only [back] at h ⊢
        split
        · rename_i hq; rw [if_pos hq] at h; exact ih (by omega) h
        · rename_i hq; exact fun hh => hq ⟨hm, hh⟩
    exact this 75 h75 (by omega)
  obtain ⟨d1, d2⟩ := h.1.cut (cutOf l 75) (by omega) (.inr hb)
  exact ⟨⟨d1, fun c hc => h.2 c (List.mem_of_mem_take hc)⟩, ⟨d2, fun c hc => h.2 c (List.mem_of_mem_drop hc)⟩⟩

def okPiece (p : List UInt8) : Prop := Fine p ∧ 1 ≤ p.length ∧ p.length ≤ 75
theorem foldW_fine : ∀ (k : Nat) (l : List UInt8), l.length ≤ k → Fine l → 1 ≤ l.length → (∀ p ∈ foldW k l, okPiece p) ∧ (∀ i, i + 1 < (foldW k l).length → 72 ≤ ((foldW k l).getD i []).length) ∧ ∃ r, (foldW k l).getD 0 [] ++ r = l ∧ foldW k l ≠ [] := by
  intro k
  induction k with
  | zero => intro l h1 _ h2; omega
  | succ k ih =>
    intro l hl hf h1
    simp only [foldW]
    by_cases h75 : 75 < l.length
    · simp only [if_pos h75]
      obtain ⟨c1, c2⟩ := cut75 h75
      obtain ⟨f1, f2⟩ := cut_fine hf h75
      have hb := (Fine.one (c := 32) (by decide) (by decide)).app f2
      obtain ⟨i1, i2, -⟩ := ih (32 :: l.drop (cutOf l 75)) (by simp; omega) (by simpa using hb) (by simp)
      refine ⟨fun p hp => ?_, fun i hi => ?_, l.drop (cutOf l 75), by simp, by simp⟩
      · rcases List.mem_cons.1 hp with rfl | hp
        · exact ⟨f1, by simp; omega, by simp; omega⟩
        · exact i1 p hp
      · cases i with
        | zero => simp; omega
        | succ i => 
          simp only [List.length_cons] at hi
          simpa using i2 i (by omega)
    · simp only [if_neg h75]
      refine ⟨fun p hp => ?_, fun i hi => by simp at hi, [], by simp, by simp⟩
      simp only [List.mem_singleton] at hp
      subst hp
      exact ⟨hf, h1, by omega⟩
end Go.Ab
/-
  A line's text is read: the plain law.
-/
namespace Go.Ab

def parL (r : Bs) : Option (Fld × UInt8 × Bs) :=
  if (cutV [61, 59, 58] r).2.1 = 61 then
    if [34] <+: (cutV [61, 59, 58] r).2.2 then
      if (cutV [34] ((cutV [61, 59, 58] r).2.2.drop 1)).2.1 = 0 then none
      else some ((upOf (cutV [61, 59, 58] r).1, (cutV [34] ((cutV [61, 59, 58] r).2.2.drop 1)).1), (cutV [34] ((cutV [61, 59, 58] r).2.2.drop 1)).2.2.getD 0 0, (cutV [34] ((cutV [61, 59, 58] r).2.2.drop 1)).2.2.drop 1)
    else some ((upOf (cutV [61, 59, 58] r).1, (cutV [59, 58, 44, 34] (cutV [61, 59, 58] r).2.2).1), (cutV [59, 58, 44, 34] (cutV [61, 59, 58] r).2.2).2.1, (cutV [59, 58, 44, 34] (cutV [61, 59, 58] r).2.2).2.2)
  else none
def goL : Nat → List Fld → UInt8 → Bs → Option (List Fld × Bs)
  | 0, _, _, _ => none
  | n + 1, acc, b, r => if b = 59 then (match parL r with
      | none => none
      | some (p, b', r') => goL n (acc ++ [p]) b' r')
    else if b = 58 then some (acc, r) else none
abbrev LnD := Bs × List Fld × Bs
noncomputable def oneG (n : Bs) : Option (List Fld × Bs) → Option LnD
  | none => none
  | some (ps, v) => if rtB ⟨n, .nils, ps, v⟩ = true then some (n, ps, v) else none
noncomputable def oneL (s : Bs) : Option LnD := oneG (upOf (cutV [59, 58] s).1) (goL (s.length + 1) [] (cutV [59, 58] s).2.1 (cutV [59, 58] s).2.2)

theorem cutV_sum {e s : Bs} : (cutV e s).1.length + (cutV e s).2.2.length ≤ s.length := by
  unfold cutV; simp; omega
theorem cutV_lt {e s : Bs} (h : (cutV e s).2.1 ≠ 0) : (cutV e s).1.length + (cutV e s).2.2.length + 1 = s.length := by
  unfold cutV at *
  simp only at *
  split at h
  · simp; omega
  · exact absurd rfl h
theorem parL_lt {r : Bs} {p : Fld} {b : UInt8} {q : Bs} (h : parL r = some (p, b, q)) : q.length < r.length ∧ p.1.length + p.2.length ≤ r.length := by
  unfold parL at h
  split at h
  · rename_i h61
    have h1 := cutV_lt (e := [61, 59, 58]) (s := r) (by rw [h61]; decide)
    generalize cutV [61, 59, 58] r = c at *
    obtain ⟨c1, c2, c3⟩ := c
    simp only at h1 h h61
    split at h
    · rename_i h34
      split at h
      · cases h
      · have h2 := cutV_sum (e := [34]) (s := c3.drop 1)
        simp only [List.length_drop] at h2
        cases h
        simp only [List.length_drop, upOf, List.length_map]
        omega
    · have h2 := cutV_sum (e := [59, 58, 44, 34]) (s := c3)
      cases h
      simp only [upOf, List.length_map]
      omega
  · cases h
theorem rtB_pv {n : Bs} {u w : PV} {ps : List Fld} {v : Bs} : rtB ⟨n, u, ps, v⟩ = rtB ⟨n, w, ps, v⟩ := rfl
theorem par_mem {L : Ln} (h : rtP L) : ∀ p ∈ L.ps, parOK p := fun p hpm => by
  obtain ⟨i, hi, rfl⟩ := List.mem_iff_getElem.1 hpm
  have := h.2.2.2.2.1 i hi
  simpa [List.getD, hi] using this
theorem quote_le {v : Bs} : (quoteOf v).length ≤ v.length + 2 := by unfold quoteOf; split <;> simp
theorem endI_none {e : Bs} : ∀ {s : Bs}, ∀ c ∈ s.take (endI e s), e.contains c = false := by
  intro s
  induction s with
  | nil => intro c hc; simp at hc
  | cons d r ih =>
    intro c hc
    rw [endI_cons] at hc
    cases hd : e.contains d with
    | true => rw [hd] at hc; simp at hc
    | false =>
      rw [hd, if_neg (by simp), List.take_succ_cons] at hc
      rcases List.mem_cons.1 hc with rfl | hc
      · exact hd
      · exact ih c hc
theorem parL_len {r : Bs} {p : Fld} {b : UInt8} {q : Bs} (h : parL r = some (p, b, q)) (hb : b ≠ 0) : (parOf p).length + q.length ≤ r.length := by
  unfold parL at h
  split at h
  · rename_i h61
    have h1 := cutV_lt (e := [61, 59, 58]) (s := r) (by rw [h61]; decide)
    generalize cutV [61, 59, 58] r = c at *
    obtain ⟨c1, c2, c3⟩ := c
    simp only at h1 h h61
    split at h
    · rename_i h34
      split at h
      · cases h
      · rename_i h0
        have h2 := cutV_lt (e := [34]) (s := c3.drop 1) h0
        obtain ⟨z, hz⟩ := h34
        subst hz
        simp only [List.singleton_append, List.drop_one, List.tail_cons] at h2 h
        generalize cutV [34] z = d at *
        obtain ⟨d1, d2, d3⟩ := d
        simp only at h2 h
        cases h
        have h3 : 1 ≤ d3.length := by
          cases d3 with
          | nil => exact absurd rfl hb
          | cons _ _ => simp
        have h4 := quote_le (v := d1)
        simp only [parOf, List.length_cons, List.length_append, upOf, List.length_map, List.length_tail, List.length_nil] at *
        omega
    · cases h
      have h2 := cutV_lt (e := [59, 58, 44, 34]) (s := c3) hb
      have h3 : quoteOf (cutV [59, 58, 44, 34] c3).1 = (cutV [59, 58, 44, 34] c3).1 := by
        unfold quoteOf
        rw [if_neg]
        have hn := endI_none (e := [59, 58, 44, 34]) (s := c3)
        have hn2 : ∀ x : UInt8, ([59, 58, 44, 34] : Bs).contains x = true → ¬ hasB (cutV [59, 58, 44, 34] c3).1 [x] = true := fun x hx q => by
          rw [hasB_one, decide_eq_true_eq] at q
          rw [hn x q] at hx; cases hx
        rintro (q | q | q)
        · exact hn2 59 (by decide) q
        · exact hn2 58 (by decide) q
        · exact hn2 44 (by decide) q
      simp only [parOf, h3, List.length_cons, List.length_append, upOf, List.length_map]
      omega
  · cases h
theorem goL_len : ∀ (n : Nat) (acc ps : List Fld) (b : UInt8) (r v : Bs), goL n acc b r = some (ps, v) → (ps.flatMap parOf).length + v.length ≤ (acc.flatMap parOf).length + r.length ∧ b ≠ 0 := by
  intro n
  induction n with
  | zero => intro acc ps b r v h; cases h
  | succ n ih =>
    intro acc ps b r v h
    simp only [goL] at h
    split at h
    · rename_i hb
      cases hp : parL r with
      | none => rw [hp] at h; cases h
      | some q =>
        obtain ⟨p, b', r'⟩ := q
        rw [hp] at h
        obtain ⟨i1, i2⟩ := ih _ _ _ _ _ h
        have h2 := parL_len hp i2
        simp only [List.flatMap_append, List.length_append, List.flatMap_cons, List.flatMap_nil, List.append_nil] at i1
        exact ⟨by omega, by rw [hb]; decide⟩
    · split at h
      · rename_i hb
        cases h
        exact ⟨by omega, by rw [hb]; decide⟩
      · cases h
def toLn (d : LnD) : Ln := ⟨d.1, if d.2.1 = [] then .nils else .sl 2 .no (d.2.1.map fV), d.2.1, d.2.2⟩
theorem one_some {s : Bs} {d : LnD} (h : oneL s = some d) : rtB (toLn d) = true ∧ (textOfL (toLn d)).length ≤ s.length := by
  unfold oneL at h
  unfold oneG at h
  split at h
  · cases h
  · rename_i ps v hg
    split at h
    · rename_i hr
      cases h
      refine ⟨by unfold toLn; rw [rtB_pv (w := .nils)]; exact hr, ?_⟩
      obtain ⟨h1, h2⟩ := goL_len _ _ _ _ _ _ hg
      have h3 := cutV_lt h2
      simp only [toLn, textOfL, List.length_append, List.length_cons, upOf, List.length_map, List.flatMap_nil, List.length_nil] at *
      omega
    · cases h
end Go.Ab
/-
  A pair in bytes.
-/
namespace Go.Ab
variable {st : St} {e : Env}

end Go.Ab
/-
  The document's lines.
-/
namespace Go.Ab
variable {st : St} {e : Env}

def segs : List UInt8 → List UInt8 → List (List UInt8 × Bool)
  | [], acc => if acc = [] then [] else [(acc, false)]
  | [c], acc => [(acc ++ [c], false)]
  | c :: d :: r, acc => if c = 13 ∧ d = 10 then (acc, true) :: segs r [] else segs (d :: r) (acc ++ [c])

def place : Nat → List (List UInt8 × Bool) → List (Nat × List UInt8 × Bool)
  | _, [] => []
  | a, (b, w) :: r => (a, b, w) :: place (a + b.length + 2) r

def refLines (l : List UInt8) : List (Nat × List UInt8 × Bool) := place 0 (segs l [])

theorem segs_index : ∀ (m acc : List UInt8), (Lib.index m [13, 10] = -1 ∧ segs m acc = if acc ++ m = [] then [] else [(acc ++ m, false)]) ∨
    (∃ n : Nat, Lib.index m [13, 10] = n ∧ n + 2 ≤ m.length ∧ segs m acc = (acc ++ m.take n, true) :: segs (m.drop (n + 2)) []) := by
  intro m
  induction m with
  | nil => intro acc; left; simp [Lib.index, segs]
  | cons c m ih =>
    intro acc
    cases m with
    | nil =>
      left
      simp [Lib.index, segs, List.isPrefixOf]
    | cons d r =>
      by_cases h : c = 13 ∧ d = 10
      · right
        obtain ⟨rfl, rfl⟩ := h
        exact ⟨0, by simp [Lib.index, List.isPrefixOf], by simp, by simp [segs]⟩
      · have hp : ([13, 10] : List UInt8).isPrefixOf (c :: d :: r) = false := by
          simp only [List.isPrefixOf, Bool.and_true]
          rw [Bool.eq_false_iff]
          intro hh
          simp only [Bool.and_eq_true, beq_iff_eq] at hh
          exact h ⟨hh.1.symm, hh.2.symm⟩
        have hi : Lib.index (c :: d :: r) [13, 10] = if Lib.index (d :: r) [13, 10] == -1 then -1 else Lib.index (d :: r) [13, 10] + 1 := by
          rw [Lib.index, hp]; simp
        have hs : segs (c :: d :: r) acc = segs (d :: r) (acc ++ [c]) := by simp only [segs]; rw [if_neg h]
        rcases ih (acc ++ [c]) with ⟨h1, h2⟩ | ⟨n, h1, h2, h3⟩
        · left
          refine ⟨by rw [hi, h1]; rfl, ?_⟩
          rw [hs, h2]; simp
        · right
          refine ⟨n + 1, ?_, by simp at h2 ⊢; omega, ?_⟩
          · rw [hi, h1]
            rw [if_neg (by simp <;> omega)]; rfl
          · rw [hs, h3]; simp

def full (q : Nat × List UInt8 × Bool) : List UInt8 := q.2.1 ++ (if q.2.2 then [13, 10] else [])

theorem segs_take {m : List UInt8} {n : Nat} (h : Lib.index m [13, 10] = n) : m.take (n + 2) = m.take n ++ [13, 10] := by
  induction m generalizing n with
  | nil => simp [Lib.index] at h
  | cons c m ih =>
    rw [Lib.index] at h
    split at h
    · rename_i hp
      obtain rfl : n = 0 := by omega
      match m, hp with
      | [], hp => simp [List.isPrefixOf] at hp
      | d :: r, hp =>
        simp [List.isPrefixOf] at hp
        obtain ⟨rfl, rfl⟩ := hp
        simp
    · split at h
      · omega
      · obtain ⟨k, rfl⟩ : ∃ k, n = k + 1 := ⟨n - 1, by rename_i h1 h2; have := Lib.index_ge m [13, 10]; simp at h2; omega⟩
        have := ih (n := k) (by omega)
        rw [show k + 1 + 2 = (k + 2) + 1 by omega, List.take_succ_cons, this, List.take_succ_cons]; rfl

end Go.Ab
/-
  The lines of written lines: the plain law.
-/
namespace Go.Ab

end Go.Ab
/-
  Lines' folds are undone, lines are read: the plain law.
-/
namespace Go.Ab

theorem unfV_nil : unfV [] = [] := by unfold unfV; rfl
theorem unfV_cons {a : UInt8} {l : Bs} (h : a ≠ 13) : unfV (a :: l) = a :: unfV l := by
  match l with
  | [] => rw [unfV_nil]; unfold unfV; rfl
  | [b] =>
    have h1 : unfV [a, b] = [a, b] := by unfold unfV; rfl
    have h2 : unfV [b] = [b] := by unfold unfV; rfl
    rw [h1, h2]
  | b :: c :: r => rw [unfV, if_neg (fun q => h q.1)]
theorem unfV_app {y z : Bs} (h : ∀ c ∈ y, c ≠ 13) : unfV (y ++ z) = y ++ unfV z := by
  induction y with
  | nil => rfl
  | cons a r ih => rw [List.cons_append, unfV_cons (h a (by simp)), ih (fun c hc => h c (by simp [hc]))]; rfl
theorem unfV_fold {z : Bs} : unfV (13 :: 10 :: 32 :: z) = unfV z := by rw [unfV, if_pos ⟨rfl, rfl, .inl rfl⟩]
theorem unfV_pair {z : Bs} (h : z.getD 0 0 ≠ 32) (h9 : z.getD 0 0 ≠ 9) : unfV (13 :: 10 :: z) = 13 :: 10 :: unfV z := by
  match z with
  | [] => 
    have h1 : unfV [13, 10] = [13, 10] := by unfold unfV; rfl
    rw [h1, unfV_nil]
  | c :: r =>
    rw [unfV, if_neg, unfV_cons (by decide)]
    rintro ⟨-, -, q | q⟩
    · exact h q
    · exact h9 q
theorem unfV_len : ∀ (k : Nat) (l : Bs), l.length ≤ k → (unfV l).length ≤ l.length := by
  intro k
  induction k with
  | zero =>
    intro l h
    have : l = [] := List.eq_nil_of_length_eq_zero (by omega)
    subst this; rw [unfV_nil]; simp
  | succ k ih =>
    intro l h
    match l with
    | [] => rw [unfV_nil]; simp
    | [a] => unfold unfV; simp
    | [a, b] => unfold unfV; simp
    | a :: b :: c :: r =>
      rw [unfV]
      split
      · have := ih r (by simp at h; omega)
        simp; omega
      · have := ih (b :: c :: r) (by simp at h ⊢; omega)
        simp at this ⊢; omega
theorem unf_foldW {z : Bs} (hz : z.getD 0 0 ≠ 32) (hz9 : z.getD 0 0 ≠ 9) : ∀ (k : Nat) (l : Bs), l.length ≤ k → Fine l → 1 ≤ l.length → unfV ((foldW k l).flatMap crW ++ z) = l ++ 13 :: 10 :: unfV z := by
  intro k
  induction k with
  | zero => intro l h1 _ h2; omega
  | succ k ih =>
    intro l hl hf h1
    simp only [foldW]
    by_cases h75 : 75 < l.length
    · simp only [if_pos h75]
      obtain ⟨c1, c2⟩ := cut75 h75
      obtain ⟨f1, f2⟩ := cut_fine hf h75
      have hb := (Fine.one (c := 32) (by decide) (by decide)).app f2
      have hi := ih (32 :: l.drop (cutOf l 75)) (by simp; omega) (by simpa using hb) (by simp)
      obtain ⟨i1, -, r, i3, i4⟩ := foldW_fine k (32 :: l.drop (cutOf l 75)) (by simp; omega) (by simpa using hb) (by simp)
      generalize foldW k (32 :: l.drop (cutOf l 75)) = F at *
      cases F with
      | nil => exact absurd rfl i4
      | cons p q =>
        have hp := (i1 p (by simp)).2.1
        simp only [List.getD_cons_zero] at i3
        cases p with
        | nil => simp at hp
        | cons x p =>
          simp only [List.cons_append, List.cons.injEq] at i3
          obtain ⟨rfl, i3⟩ := i3
          simp only [List.flatMap_cons, crW, List.append_assoc, List.cons_append, List.nil_append] at hi ⊢
          rw [unfV_cons (by decide)] at hi
          rw [unfV_app f1.2, unfV_fold, (List.cons.inj hi).2, ← List.append_assoc, List.take_append_drop]
    · simp only [if_neg h75]
      simp only [List.flatMap_cons, List.flatMap_nil, crW, List.append_assoc, List.cons_append, List.nil_append]
      rw [unfV_app hf.2, unfV_pair hz hz9]
noncomputable def readG : List (Nat × Bs × Bool) → Except Nat (List LnD)
  | [] => .ok []
  | (a, x, w) :: r => match (if w = true then oneL x else none) with
    | none => .error a
    | some d => (match readG r with
      | .ok l => .ok (d :: l)
      | .error j => .error j)
noncomputable def readL (b : Bs) : Except (Nat × Int) (List LnD) := match ptsOf ((unfV b).length + 1) (unfV b) 0 with
  | .error j => .error (j, 20)
  | .ok _ => (match readG (refLines (unfV b)) with
    | .ok l => .ok l
    | .error j => .error (j, 90))
def ofLn (L : Ln) : LnD := (L.n, L.ps, L.v)
theorem segs_sum2 : ∀ (k : Nat) (l acc : Bs), l.length ≤ k → ((segs l acc).map fun z => if z.2 = true then z.1.length + 2 else 1).sum ≤ acc.length + l.length := by
  intro k
  induction k with
  | zero =>
    intro l acc h
    have : l = [] := List.eq_nil_of_length_eq_zero (by omega)
    subst this
    simp only [segs]
    split
    · simp
    · rename_i hne
      have : 1 ≤ acc.length := List.length_pos_iff.2 hne
      simp; omega
  | succ k ih =>
    intro l acc h
    match l with
    | [] =>
      simp only [segs]
      split
      · simp
      · rename_i hne
        have : 1 ≤ acc.length := List.length_pos_iff.2 hne
        simp; omega
    | [c] => simp [segs]
    | c :: d :: r =>
      simp only [segs]
      split
      · have := ih r [] (by simp at h; omega)
        simp at this ⊢; omega
      · have := ih (d :: r) (acc ++ [c]) (by simp at h ⊢; omega)
        simp at this ⊢; omega
theorem place_sum2 {f : Bs × Bool → Nat} : ∀ (q : List (Bs × Bool)) (a : Nat), ((place a q).map fun z => f z.2).sum = (q.map f).sum := by
  intro q
  induction q with
  | nil => intro a; rfl
  | cons z r ih => intro a; simp [place, ih]
theorem refLines_len {l : Bs} : (refLines l).length ≤ l.length ∧ ∀ ds, readG (refLines l) = .ok ds → (∀ d ∈ ds, rtB (toLn d) = true) ∧ (ds.map fun d => (textOfL (toLn d)).length + 2).sum ≤ l.length ∧ ds.length = (refLines l).length := by
  have hs := segs_sum2 l.length l [] (Nat.le_refl _)
  rw [← place_sum2 (f := fun z => if z.2 = true then z.1.length + 2 else 1) (segs l []) 0] at hs
  change ((refLines l).map fun z => if z.2.2 = true then z.2.1.length + 2 else 1).sum ≤ _ at hs
  simp only [List.length_nil, Nat.zero_add] at hs
  generalize refLines l = q at *
  have h1 : q.length ≤ (q.map fun z => if z.2.2 = true then z.2.1.length + 2 else 1).sum := by
    clear hs
    induction q with
    | nil => simp
    | cons z r ih => simp only [List.map_cons, List.sum_cons, List.length_cons]; split <;> omega
  refine ⟨by omega, ?_⟩
  have h2 : ∀ ds, readG q = .ok ds → (∀ d ∈ ds, rtB (toLn d) = true) ∧ (ds.map fun d => (textOfL (toLn d)).length + 2).sum ≤ (q.map fun z => if z.2.2 = true then z.2.1.length + 2 else 1).sum ∧ ds.length = q.length := by
    clear hs h1
    induction q with
    | nil => intro ds h; cases h; simp
    | cons z r ih =>
      intro ds h
      obtain ⟨a, x, w⟩ := z
      simp only [readG] at h
      cases w with
      | false => simp at h
      | true =>
        simp only [if_true] at h
        cases ho : oneL x with
        | none => rw [ho] at h; cases h
        | some d =>
          rw [ho] at h
          simp only at h
          cases hr : readG r with
          | error j => rw [hr] at h; cases h
          | ok l' =>
            rw [hr] at h
            cases h
            obtain ⟨i1, i2, i3⟩ := ih l' hr
            obtain ⟨o1, o2⟩ := one_some ho
            refine ⟨fun e he => ?_, ?_, by simp [i3]⟩
            · rcases List.mem_cons.1 he with rfl | he
              · exact o1
              · exact i1 e he
            · simp only [List.map_cons, List.sum_cons, if_true]; omega
  intro ds h
  obtain ⟨j1, j2, j3⟩ := h2 ds h
  exact ⟨j1, by omega, j3⟩
end Go.Ab
/-
  A line's text is read, walked.
-/
namespace Go.Ab
set_option maxRecDepth 20000
variable {st s : St} {e : Env}

structure Wrote (S S' : St) (b : Nat) (cs : List PV) : Prop where
  at_ : At S' b cs
  ot : ∀ c ds, c ≠ b → At S c ds → At S' c ds
  kp : ∀ st, Kept st S → st.boxes.length ≤ b → Kept st S'
  tk : S'.toks = S.toks
  bl : S'.boxes.length = S.boxes.length
  lp : S'.loops = S.loops
  lw : S'.low ≤ S.low
theorem At.lt {b : Nat} {cs : List PV} (h : At s b cs) : b < s.boxes.length := (List.getElem?_eq_some_iff.1 h).1
theorem At.bx {s' : St} {b : Nat} {cs : List PV} (h : At s b cs) (hb : s'.boxes = s.boxes) : At s' b cs := by unfold At at *; rw [hb]; exact h
theorem wrote_set {S : St} {b lo : Nat} {cs ds : List PV} (h : At S b cs) (hlo : lo = S.low ∨ lo = min S.low b) : Wrote S ⟨S.boxes.set b ds, S.toks, S.loops, lo⟩ b ds := by
  have hlt := h.lt
  refine ⟨by simp [At, hlt], fun c es hc hA => by simp only [At] at *; rw [List.getElem?_set_ne (Ne.symm hc)]; exact hA, fun st hk hb => ?_, rfl, by simp, rfl, by rcases hlo with rfl | rfl <;> simp only <;> omega⟩
  refine hk.of (by simp [List.take_set, List.set_eq_of_length_le (show (List.take st.boxes.length S.boxes).length ≤ b by simp; omega)]) rfl ?_ (fun i _ => rfl) hk.tl
  have := hk.lw
  simp only
  rcases hlo with rfl | rfl <;> omega
theorem At.st1 {S : St} {b off : Nat} {cs : List PV} {v : PV} (h : At S b cs) (hv : Leaf v) (hb : v.inB (b + 1) = true) (ho : off < cs.length) : ∃ S', storePV S 1 (.ptr b off) v = some S' ∧ Wrote S S' b (cs.set off v) := by
  refine ⟨_, ?_, wrote_set (ds := cs.set off v) (lo := if hasTok v.cells then min S.low b else S.low) h (by split <;> simp)⟩
  unfold At at h
  simp only [storePV, h, hv.1, setCells]
  rw [if_pos ⟨rfl, by omega, hb, by simp [hv.2]⟩]
theorem At.st2 {S : St} {b : Nat} {c0 c1 v0 v1 : PV} (h : At S b [c0, c1]) (l0 : leafOk v0 = true) (l1 : leafOk v1 = true) (i0 : v0.inB (b + 1) = true) (i1 : v1.inB (b + 1) = true) : ∃ S', storePV S 2 (.ptr b 0) (.agg [v0, v1]) = some S' ∧ Wrote S S' b [v0, v1] := by
  refine ⟨_, ?_, wrote_set (ds := [v0, v1]) (lo := if hasTok [v0, v1] then min S.low b else S.low) h (by split <;> simp)⟩
  unfold At at h
  simp [storePV, h, PV.cells, setCells, PV.inB, PV.inB.inBAll, l0, l1, i0, i1]; rfl
theorem At.st3 {S : St} {b : Nat} {c0 c1 c2 v0 v1 v2 : PV} (h : At S b [c0, c1, c2]) (l0 : leafOk v0 = true) (l1 : leafOk v1 = true) (l2 : leafOk v2 = true) (i0 : v0.inB (b + 1) = true) (i1 : v1.inB (b + 1) = true) (i2 : v2.inB (b + 1) = true) :
    ∃ S', storePV S 3 (.ptr b 0) (.agg [v0, v1, v2]) = some S' ∧ Wrote S S' b [v0, v1, v2] := by
  refine ⟨_, ?_, wrote_set (ds := [v0, v1, v2]) (lo := if hasTok [v0, v1, v2] then min S.low b else S.low) h (by split <;> simp)⟩
  unfold At at h
  simp [storePV, h, PV.cells, setCells, PV.inB, PV.inB.inBAll, l0, l1, l2, i0, i1, i2]; rfl
theorem At.ld2 {S : St} {b : Nat} {x y : PV} (h : At S b [x, y]) : loadPV S true 2 (.ptr b 0) = some (.agg [x, y]) := by
  unfold At at h; simp [loadPV, h, readCells]
theorem At.ld3 {S : St} {b : Nat} {x y z : PV} (h : At S b [x, y, z]) : loadPV S true 3 (.ptr b 0) = some (.agg [x, y, z]) := by
  unfold At at h; simp [loadPV, h, readCells]
theorem Own.tks {s' : St} {esz : Nat} {v : PV} {xs : List PV} (h : Own st s esz v xs) (ht : s'.toks = s.toks) : Own st s' esz v xs := by
  rcases h with h | ⟨i, h1, h2, h3⟩
  · exact .inl h
  · exact .inr ⟨i, h1, h2, by rw [ht]; exact h3⟩
theorem own_leaf {esz : Nat} {v : PV} {xs : List PV} (h : Own st s esz v xs) : Leaf v ∧ ∀ n, v.inB n = true := by
  rcases h with ⟨rfl, _⟩ | ⟨i, rfl, _⟩
  · exact ⟨⟨rfl, rfl⟩, fun _ => rfl⟩
  · exact ⟨⟨rfl, rfl⟩, fun _ => rfl⟩
theorem own_vs {v : PV} {xs : List PV} (h : Own st s 2 v xs) : v.vs 2 = some xs := by
  rcases h with ⟨rfl, rfl⟩ | ⟨i, rfl, _⟩
  · simp [PV.vs]
  · simp [PV.vs]
theorem leave_line {S : St} {pv : PV} {xs : List PV} {n v : Bs} {k : IntKind} {c : Int} (hk : Kept st S) (h : Own st S 2 pv xs) (hne : xs = [] → pv = .nils) :
    leave st S (.tup [.agg [.str n, pv, .str v], .int k c]) = (.tup [.agg [.str n, newSl st 2 xs, .str v], .int k c], newS st xs.isEmpty) := by
  have e1 := hk.bx; have e2 := hk.lp; have e3 := hk.tk
  rcases h with ⟨rfl, rfl⟩ | ⟨i, rfl, h2, h3⟩
  · simp [leave, PV.inB, PV.inB.inBAll, hk.lw, keepRes, keepVals, keepVal, keepCells, keepLeaf, newSl, newS, e1, e2, e3]
  · by_cases hx : xs = []
    · have := hne hx; cases this
    · simp [leave, PV.inB, PV.inB.inBAll, hk.lw, keepRes, keepVals, keepVal, keepCells, keepLeaf, keepTok, newSl, newS, hx, h3, show ¬ i < st.toks.length by omega, e1, e2, e3, St.tok1]

def oneV (st : St) (r : Option LnD) : PV × St := match r with
  | none => (.tup [.agg [.str [], .nils, .str []], .int .i64 90], st)
  | some d => (.tup [.agg [.str d.1, newSl st 2 (d.2.1.map fV), .str d.2.2], .int .i64 0], newS st (d.2.1.map fV).isEmpty)
theorem W_cutX {A : AP} {a b : ACode} {Q : Ex → Env → St → Prop} (M : Env → St → Prop) (h1 : W A a e st (fun x e' s' => (x = .normal ∧ M e' s') ∨ (x ≠ .normal ∧ Q x e' s'))) (h2 : ∀ e' s', M e' s' → W A b e' s' Q) : W A (.seq a b) e st Q := by
  rw [qaaz]
  refine W_mono h1 ?_
  rintro x e s (⟨rfl, h⟩ | ⟨hx, h⟩)
  · exact h2 e s h
  · cases x with
    | normal => exact absurd rfl hx
    | ret => rw [qbaz]; exact h
    | exit i => rw [qbbz]; exact h
    | goto i => rw [qbcz]; exact h

theorem goL_bad {f : Nat} {acc : List Fld} {b : UInt8} {r : Bs} (h1 : b ≠ 59) (h2 : b ≠ 58) : goL f acc b r = none := by
  cases f with
  | zero => rfl
  | succ f => simp [goL, h1, h2]
set_option maxHeartbeats 4000000 in
theorem One_spec {x : Bs} (hl : x.length ≤ 1000000) : call prog (.fn 55 []) [.str x] st = some (oneV st (oneL x)) := by
  refine call_of_W prog_55 ?_
  unfold F_sheet_One; dsimp only
  obtain ⟨b2, hb2⟩ : ∃ b2, b2 = st.boxes.length := ⟨_, rfl⟩
  obtain ⟨Z, hZ⟩ : ∃ Z : List PV, Z = [.str [], .nils, .str []] := ⟨_, rfl⟩
  refine W_cut (fun E S => Kept st S ∧ At S b2 Z ∧ E 0 = .str x ∧ E 2 = .ptr b2 0) ?_ ?_
  · simp (maxSteps := 1000000) (disch := omega) only [allocPV, qabz, qajz, qalz, evOp, qapz, qarz, qatz, qavz,
 ↓reduceIte, Nat.reduceEqDiff, List.append_nil, qawz, true_and, reduceCtorEq]
    exact ⟨Kept.start.alloc', by rw [hb2, hZ]; exact At.last (s := ⟨st.boxes, st.toks, st.loops, st.boxes.length⟩), by rw [hb2]⟩
  rintro e S ⟨hk, hA2, h0, h2⟩
  refine W_scope1 rfl ?_
  generalize hR : scopeQ prog _ _ _ = R
  have fin : ∀ (E : Env) (S : St) (n v : Bs) (pv : PV) (ps : List Fld), Kept st S → Own st S 2 pv (ps.map fV) → (ps.map fV = [] → pv = .nils) → At S b2 [.str n, pv, .str v] → oneL x = some (n, ps, v) → E 2 = .ptr b2 0 → E 3 = .int .i64 0 → R .ret E S := by
    intro E S n v pv ps k1 ko kn kA ho k2 k3
    rw [← hR]
    show endQ _ _ _ .ret E S
    rw [qblz]
    refine ⟨.tup [.agg [.str n, pv, .str v], .int .i64 0], by simp [resOf, rvAll, rv1, k2, k3, kA.ld3, notTup, packRes], ?_⟩
    rw [ho]; exact leave_line k1 ko kn
  have wrong : ∀ (E : Env) (S : St), Kept st S → At S b2 Z → E 2 = .ptr b2 0 → oneL x = none → R (.goto 0) E S := by
    intro E S k1 kA k2 ho
    rw [← hR]
    simp only [scopeQ, if_true]
    refine W_scopeAt ?_
    rw [hZ] at kA
    obtain ⟨S', a1, w1⟩ := kA.st3 (v0 := .str []) (v1 := .nils) (v2 := .str []) rfl rfl rfl rfl rfl rfl
    have hbu : buildCells [.str [], .nils, .str []] [] = some [.str [], .nils, .str []] := rfl
    simp (maxSteps := 1000000) (disch := omega) only [k2, hbu, a1, qaaz, qabz, qaez, qaiz, qajz, qalz, evOp, qaoz, qapz, qarz, qatz, qauz, qavz,
 ↓reduceIte, Nat.reduceEqDiff, List.map_nil, Option.map_some, qazz, qblz]
    refine ⟨.tup [.agg [.str [], .nils, .str []], .int .i64 90], by simp [resOf, rvAll, rv1, qavz, k2, w1.at_.ld3, notTup, packRes], ?_⟩
    rw [ho]
    exact (w1.kp st k1 (by omega)).leave' ⟨fun _ => rfl, fun _ _ => rfl⟩
  clear hR
  obtain ⟨b4, hb4⟩ : ∃ b4, b4 = S.boxes.length := ⟨_, rfl⟩
  have hne24 : b2 ≠ b4 := by have := hA2.lt; omega
  have hle4 : st.boxes.length ≤ b4 := by have := hk.bl; omega
  refine W_cut (fun E S => Kept st S ∧ At S b2 Z ∧ At S b4 Z ∧ E 0 = .str x ∧ E 2 = .ptr b2 0 ∧ E 4 = .ptr b4 0) ?_ ?_
  · simp (maxSteps := 1000000) (disch := omega) only [allocPV, h0, h2, qabz, qajz, qalz, evOp, qarz, qatz, qavz,
 ↓reduceIte, Nat.reduceEqDiff, true_and, reduceCtorEq]
    exact ⟨hk.alloc', hA2.alloc, by rw [hb4, hZ]; exact At.last, by rw [hb4]⟩
  clear hk hA2 h0 h2 hb4
  rintro e S ⟨hk, hA2, hA4, h0, h2, h4⟩
  obtain ⟨c, hc⟩ : ∃ c, c = cutV [59, 58] x := ⟨_, rfl⟩
  have hcs := cutV_sum (e := [59, 58]) (s := x)
  rw [← hc] at hcs
  obtain ⟨nm, hnm⟩ : ∃ nm, nm = upOf c.1 := ⟨_, rfl⟩
  have hnl : nm.length ≤ 1000000 := by rw [hnm]; simp [upOf]; omega
  refine W_cut (fun E S => Kept st S ∧ At S b2 Z ∧ At S b4 Z ∧ E 2 = .ptr b2 0 ∧ E 4 = .ptr b4 0 ∧ E 5 = .str c.1 ∧ E 6 = .b8 c.2.1 ∧ E 7 = .str c.2.2) ?_ ?_
  · have hcut := fun S : St => cut_spec (st := S) (x := x) (e := [59, 58]) (by omega) (by simp)
    rw [← hc] at hcut
    simp (maxSteps := 1000000) (disch := omega) only [h0, h2, h4, hcut, qabz, qajz, qalz, evOp, qaoz, qapz, qaqz, qarz, qatz, qavz,
 ↓reduceIte, Nat.reduceEqDiff, List.map_cons, List.map_nil, Option.map_some, qcjz, List.getElem?_cons_zero, List.getElem?_cons_succ, true_and, and_true]
    exact ⟨hk, hA2, hA4⟩
  clear hk hA2 hA4 h0 h2 h4
  rintro e S ⟨hk, hA2, hA4, h2, h4, h5, h6, h7⟩
  refine W_cut (fun E S => Kept st S ∧ At S b2 Z ∧ At S b4 [.str nm, .nils, .str []] ∧ E 2 = .ptr b2 0 ∧ E 4 = .ptr b4 0 ∧ E 6 = .b8 c.2.1 ∧ E 7 = .str c.2.2) ?_ ?_
  · have hup := fun S : St => upper_spec (st := S) (s := c.1) (by omega)
    rw [← hnm] at hup
    rw [hZ] at hA4
    obtain ⟨S', a1, w1⟩ := hA4.st1 (off := 0) (v := .str nm) Leaf_str rfl (by simp)
    simp (maxSteps := 1000000) (disch := omega) only [h2, h4, h5, h6, h7, hup, faddrPV, Nat.zero_add, a1, qabz, qajz, qalz, evOp, qaoz, qaqz, qarz, qatz, qauz, qavz,
 ↓reduceIte, Nat.reduceEqDiff, List.map_cons, List.map_nil, Option.map_some, true_and, and_true]
    exact ⟨w1.kp st hk hle4, w1.ot _ _ hne24 hA2, w1.at_⟩
  clear hk hA2 hA4 h2 h4 h5 h6 h7
  rintro e S ⟨hk, hA2, hA4, h2, h4, h6, h7⟩
  obtain ⟨G, hG⟩ : ∃ G, G = goL (x.length + 1) [] c.2.1 c.2.2 := ⟨_, rfl⟩
  have hone : oneL x = oneG nm G := by
    rw [hG, hc, hnm, hc]; rfl
  have hnone : G = none → oneL x = none := fun h => by rw [hone, h]; rfl
  obtain ⟨J, hJ⟩ : ∃ J : Bs → Env → St → Prop, J = fun rest E S => ∃ (fuel : Nat) (acc : List Fld) (pv : PV) (b : UInt8), rest.length < fuel ∧ acc.length + rest.length ≤ 1000000 ∧ (∀ p ∈ acc, p.1.length + p.2.length ≤ 1000000) ∧ G = goL fuel acc b rest ∧
      Kept st S ∧ At S b2 Z ∧ At S b4 [.str nm, pv, .str []] ∧ Own st S 2 pv (acc.map fV) ∧ (acc.map fV = [] → pv = .nils) ∧ E 2 = .ptr b2 0 ∧ E 4 = .ptr b4 0 ∧ E 6 = .b8 b ∧ E 7 = .str rest := ⟨_, rfl⟩
  refine W_cutX (fun E S => ∃ rest, J rest E S ∧ E 6 ≠ .b8 59) ?_ ?_
  · obtain ⟨QQ, hQQ⟩ : ∃ QQ : Ex → Env → St → Prop, QQ = fun xx e' s' => (xx = .normal ∧ ∃ rest, J rest e' s' ∧ e' 6 ≠ .b8 59) ∨ (xx ≠ .normal ∧ R xx e' s') := ⟨_, rfl⟩
    rw [← hQQ]
    have wr : ∀ (E : Env) (S : St), Kept st S → At S b2 Z → E 2 = .ptr b2 0 → G = none → QQ (.goto 0) E S := fun E S k1 k2 k3 k4 => by
      rw [hQQ]; exact .inr ⟨by simp, wrong E S k1 k2 k3 (hnone k4)⟩
    rw [qadz]
    refine W_loop (fun n E S => ∃ rest, n = rest.length ∧ J rest E S) ?_ (n := c.2.2.length) ⟨c.2.2, rfl, by
      rw [hJ]
      exact ⟨x.length + 1, [], .nils, c.2.1, by omega, by simp; omega, fun p hp => by simp at hp, hG, hk, hA2, hA4, .inl ⟨rfl, rfl⟩, fun _ => rfl, h2, h4, h6, h7⟩⟩
    clear hk hA2 hA4 h2 h4 h6 h7
    rintro n e S ⟨rest, rfl, hh⟩
    have hJJ := hh
    rw [hJ] at hh
    obtain ⟨fuel, acc, pv, b, hf, hal, hps, hg, hk, hA2, hA4, ho, hn, h2, h4, h6, h7⟩ := hh
    by_cases hb : b = 59
    · obtain ⟨f, rfl⟩ : ∃ f, fuel = f + 1 := ⟨fuel - 1, by omega⟩
      subst hb
      rw [goL, if_pos rfl] at hg
      obtain ⟨b8, hb8⟩ : ∃ b8, b8 = S.boxes.length := ⟨_, rfl⟩
      have hne28 : b2 ≠ b8 := by have := hA2.lt; omega
      have hne48 : b4 ≠ b8 := by have := hA4.lt; omega
      have hle8 : st.boxes.length ≤ b8 := by have := hk.bl; omega
      have hown8 : ∀ S' : St, S'.toks = S.toks → Own st S' 2 pv (acc.map fV) := fun S' h => ho.tks h
      obtain ⟨c1, hc1⟩ : ∃ c1, c1 = cutV [61, 59, 58] rest := ⟨_, rfl⟩
      have hc1s := cutV_sum (e := [61, 59, 58]) (s := rest)
      rw [← hc1] at hc1s
      have hpar : parL rest = if c1.2.1 = 61 then
          if [34] <+: c1.2.2 then
            if (cutV [34] (c1.2.2.drop 1)).2.1 = 0 then none
            else some ((upOf c1.1, (cutV [34] (c1.2.2.drop 1)).1), (cutV [34] (c1.2.2.drop 1)).2.2.getD 0 0, (cutV [34] (c1.2.2.drop 1)).2.2.drop 1)
          else some ((upOf c1.1, (cutV [59, 58, 44, 34] c1.2.2).1), (cutV [59, 58, 44, 34] c1.2.2).2.1, (cutV [59, 58, 44, 34] c1.2.2).2.2)
        else none := by rw [hc1]; rfl
      rw [qaaz]
      simp (maxSteps := 1000000) (disch := omega) only [h6, qaaz, qabz, qacz, qaez, qajz, qalz, evOp, qaoz, qapz, qarz, qatz, qavz,
 ↓reduceIte, Option.map_some, qazz, qbhz, qbvz, decide_true]
      rw [qadz]
      refine W_cut (fun E S => Kept st S ∧ At S b2 Z ∧ At S b4 [.str nm, pv, .str []] ∧ At S b8 [.str [], .str []] ∧ Own st S 2 pv (acc.map fV) ∧ E 2 = .ptr b2 0 ∧ E 4 = .ptr b4 0 ∧ E 7 = .str rest ∧ E 8 = .ptr b8 0) ?_ ?_
      · simp (maxSteps := 1000000) (disch := omega) only [allocPV, h2, h4, h7, qabz, qajz, qalz, evOp, qarz, qatz, qavz,
 ↓reduceIte, Nat.reduceEqDiff, true_and]
        exact ⟨hk.alloc', hA2.alloc, hA4.alloc, by rw [hb8]; exact At.last, hown8 _ rfl, by rw [hb8]⟩
      clear hk hA2 hA4 h2 h4 h6 h7 ho hown8 hb8
      rintro e S ⟨hk, hA2, hA4, hA8, ho, h2, h4, h7, h8⟩
      refine W_cut (fun E S => Kept st S ∧ At S b2 Z ∧ At S b4 [.str nm, pv, .str []] ∧ At S b8 [.str c1.1, .str []] ∧ Own st S 2 pv (acc.map fV) ∧ E 2 = .ptr b2 0 ∧ E 4 = .ptr b4 0 ∧ E 6 = .b8 c1.2.1 ∧ E 7 = .str c1.2.2 ∧ E 8 = .ptr b8 0) ?_ ?_
      · have hcut := fun S : St => cut_spec (st := S) (x := rest) (e := [61, 59, 58]) (by omega) (by simp)
        rw [← hc1] at hcut
        obtain ⟨S', a1, w1⟩ := hA8.st1 (off := 0) (v := .str c1.1) Leaf_str rfl (by simp)
        simp (maxSteps := 1000000) (disch := omega) only [h2, h4, h7, h8, hcut, faddrPV, Nat.zero_add, a1, qabz, qajz, qalz, evOp, qaoz, qapz, qaqz, qarz, qatz, qauz, qavz,
 ↓reduceIte, Nat.reduceEqDiff, List.map_cons, List.map_nil, Option.map_some, qcjz, List.getElem?_cons_zero, List.getElem?_cons_succ, true_and, and_true]
        exact ⟨w1.kp st hk hle8, w1.ot _ _ hne28 hA2, w1.ot _ _ hne48 hA4, w1.at_, ho.tks w1.tk⟩
      clear hk hA2 hA4 hA8 h2 h4 h7 h8 ho
      rintro e S ⟨hk, hA2, hA4, hA8, ho, h2, h4, h6, h7, h8⟩
      refine W_cut (fun E S => Kept st S ∧ At S b2 Z ∧ At S b4 [.str nm, pv, .str []] ∧ At S b8 [.str (upOf c1.1), .str []] ∧ Own st S 2 pv (acc.map fV) ∧ E 2 = .ptr b2 0 ∧ E 4 = .ptr b4 0 ∧ E 6 = .b8 c1.2.1 ∧ E 7 = .str c1.2.2 ∧ E 8 = .ptr b8 0) ?_ ?_
      · have hup := fun S : St => upper_spec (st := S) (s := c1.1) (by omega)
        have hld := hA8.load (k := 0) (v := .str c1.1) (r := [.str []]) rfl
        obtain ⟨S', a1, w1⟩ := hA8.st1 (off := 0) (v := .str (upOf c1.1)) Leaf_str rfl (by simp)
        simp (maxSteps := 1000000) (disch := omega) only [h2, h4, h6, h7, h8, hld, hup, faddrPV, Nat.zero_add, a1, qabz, qajz, qalz, evOp, qaoz, qaqz, qarz, qatz, qauz, qavz,
 ↓reduceIte, Nat.reduceEqDiff, List.map_cons, List.map_nil, Option.map_some, true_and, and_true]
        exact ⟨w1.kp st hk hle8, w1.ot _ _ hne28 hA2, w1.ot _ _ hne48 hA4, w1.at_, ho.tks w1.tk⟩
      clear hk hA2 hA4 hA8 h2 h4 h6 h7 h8 ho
      rintro e S ⟨hk, hA2, hA4, hA8, ho, h2, h4, h6, h7, h8⟩
      by_cases h61 : c1.2.1 = 61
      · rw [if_pos h61] at hpar
        have h61d : decide (c1.2.1 ≠ 61) = false := by simp [h61]
        -- a value was read
        have tail : ∀ (S : St) (w : Bs) (b' : UInt8) (r' : Bs), parL rest = some ((upOf c1.1, w), b', r') → Kept st S → At S b2 Z → At S b4 [.str nm, pv, .str []] → At S b8 [.str (upOf c1.1), .str w] → Own st S 2 pv (acc.map fV) →
            ∃ v' s' S', Ab.appV 2 S.tok1 pv (.sl 2 (.own S.toks.length) [fV (upOf c1.1, w)]) = some (v', s') ∧ storePV s' 1 (.ptr b4 1) v' = some S' ∧ r'.length < rest.length ∧ loadPV S false 1 (.ptr b4 1) = some pv ∧ loadPV S true 2 (.ptr b8 0) = some (.agg [.str (upOf c1.1), .str w]) ∧ (∀ E' : Env, E' 2 = .ptr b2 0 → E' 4 = .ptr b4 0 → E' 6 = .b8 b' → E' 7 = .str r' → J r' E' S') := by
          intro S w b' r' hp hk hA2 hA4 hA8 ho
          have hlt := parL_lt hp
          simp only at hlt
          obtain ⟨v', s', q1, q2, q3, q4⟩ := hk.appV (u := fV (upOf c1.1, w)) (w := .undef) ho (by simp [room]; omega)
          obtain ⟨S', q5, w5⟩ := (hA4.bx q4).st1 (off := 1) (v := v') (own_leaf q3).1 ((own_leaf q3).2 _) (by simp)
          refine ⟨v', s', S', q1, q5, hlt.1, hA4.load (k := 1) (v := pv) (r := [.str []]) rfl, hA8.ld2, fun E' k2 k4 k6 k7 => ?_⟩
          rw [hJ]
          refine ⟨f, acc ++ [(upOf c1.1, w)], v', b', by omega, by simp; omega, ?_, by rw [hg, hp], w5.kp st q2 hle4, w5.ot _ _ hne24 (hA2.bx q4), w5.at_, ?_, fun h => by simp at h, k2, k4, k6, k7⟩
          · intro p hpm
            rcases List.mem_append.1 hpm with hpm | hpm
            · exact hps p hpm
            · simp only [List.mem_singleton] at hpm; subst hpm; simp only; omega
          · have := q3.tks w5.tk
            simpa using this
        have hlit : ∀ z w, litFill 2 (List.replicate 1 z) [(0, .agg [.str (upOf c1.1), .str w])] = some [fV (upOf c1.1, w)] := fun z w => lit1 rfl rfl
        have hbad : ∀ (b' : UInt8) (p : Fld) (r' : Bs), parL rest = some (p, b', r') → b' ≠ 59 → b' ≠ 58 → G = none := fun b' p r' hp k1 k2 => by
          rw [hg, hp]
          exact goL_bad k1 k2
        by_cases h34 : [34] <+: c1.2.2
        · rw [if_pos h34] at hpar
          have hpos := h34.length_le
          simp only [List.length_singleton] at hpos
          obtain ⟨d, hd⟩ : ∃ d, d = cutV [34] (c1.2.2.drop 1) := ⟨_, rfl⟩
          have hds := cutV_sum (e := [34]) (s := c1.2.2.drop 1)
          rw [← hd] at hpar hds
          simp only [List.length_drop] at hds
          have hcut := fun S : St => cut_spec (st := S) (x := c1.2.2.drop 1) (e := [34]) (by simp; omega) (by simp)
          rw [← hd] at hcut
          have hs1 : slcPV 0 (.str c1.2.2) (some (.int .i64 1)) none none = some (.str (c1.2.2.drop 1)) := by
            rw [slc_s_lo (by omega) (by simpa using hpos)]; rfl
          obtain ⟨S1, a1, w1⟩ := hA8.st1 (off := 1) (v := .str d.1) Leaf_str rfl (by simp)
          have k1 := w1.kp st hk hle8
          have k2 := w1.ot _ _ hne28 hA2
          have k4 := w1.ot _ _ hne48 hA4
          have k8 : At S1 b8 [.str (upOf c1.1), .str d.1] := w1.at_
          have ko := ho.tks w1.tk
          by_cases hd0 : d.2.1 = 0
          · rw [if_pos hd0] at hpar
            simp (maxSteps := 1000000) (disch := omega) only [h6, h7, h8, eq_true h61, sHasPrefix_spec, h34, hs1, hcut, faddrPV, Nat.zero_add, a1, eq_true hd0, qaaz, qabz, qacz, qaez, qahz, qajz, qakz, qalz, qamz, qanz, evOp, qaoz, qapz, qaqz, qarz, qatz, qauz, qavz,
 ↓reduceIte, Nat.reduceEqDiff, List.map_cons, List.map_nil, Option.map_some, Option.map_none, qazz, qbcz, qbgz, qbhz, qbkz, qbvz, qbwz, beq_false, decide_true, decide_false,
 Bool.false_eq_true, qcjz, List.getElem?_cons_zero, List.getElem?_cons_succ, Bool.not_true, ne_eq, not_true_eq_false]
            exact wr _ _ k1 k2 h2 (by rw [hg, hpar])
          · rw [if_neg hd0] at hpar
            by_cases hr : d.2.2 = []
            · simp (maxSteps := 1000000) (disch := omega) only [h6, h7, h8, eq_true h61, sHasPrefix_spec, h34, hs1, hcut, faddrPV, Nat.zero_add, a1, hd0, eq_true hr, qaaz, qabz, qacz, qaez, qahz, qajz, qakz, qalz, qamz, qanz, evOp, qaoz, qapz, qaqz, qarz, qatz, qauz, qavz,
 ↓reduceIte, Nat.reduceEqDiff, List.map_cons, List.map_nil, Option.map_some, Option.map_none, qazz, qbcz, qbgz, qbhz, qbkz, qbvz, qbwz, qcbz, beq_false, decide_true, decide_false,
 Bool.false_eq_true, qcjz, List.getElem?_cons_zero, List.getElem?_cons_succ, Bool.not_false, ne_eq, not_true_eq_false]
              exact wr _ _ k1 k2 h2 (hbad _ _ _ hpar (by rw [hr]; decide) (by rw [hr]; decide))
            · have hrl := List.length_pos_iff.2 hr
              obtain ⟨b', hb'⟩ : ∃ b', b' = d.2.2.getD 0 0 := ⟨_, rfl⟩
              have hix : idxSPV (.str d.2.2) (.int .i64 0) = some (.b8 b') := by
                have := idx_s (l := d.2.2) (k := .i64) (c := 0) (by omega) (by simpa using hrl)
                rw [hb']; exact this
              have hs2 : slcPV 0 (.str d.2.2) (some (.int .i64 1)) none none = some (.str (d.2.2.drop 1)) := by
                rw [slc_s_lo (by omega) (show (1 : Int).toNat ≤ _ by rw [show (1 : Int).toNat = 1 from rfl]; omega)]; rfl
              rw [← hb'] at hpar
              obtain ⟨v', s', S', t1, t2, t3, t4, t5, t6⟩ := tail S1 d.1 b' (d.2.2.drop 1) hpar k1 k2 k4 k8 ko
              by_cases h59 : b' = 59
              · simp (maxSteps := 1000000) (disch := omega) only [h4, h6, h7, h8, eq_true h61, sHasPrefix_spec, h34, hs1, hcut, faddrPV, Nat.zero_add, a1, hd0, hr, hix, hs2, eq_true h59, t4, t5, hlit, freshT_eq, t1, t2, loopQ_normal, qaaz, qabz, qacz, qaez, qajz, qakz, qalz, qamz, qanz, evOp, qaoz, qapz, qaqz, qarz, qatz, qauz, qavz,
 ↓reduceIte, Nat.reduceEqDiff, List.map_cons, List.map_nil, Option.map_some, Option.map_none, qazz, qbdz, qbhz, qbvz, qbwz, qcbz, beq_true, beq_false, decide_true, decide_false,
 Bool.false_eq_true, qcjz, List.getElem?_cons_zero, List.getElem?_cons_succ, Bool.not_false, ne_eq, not_true_eq_false]
                exact ⟨_, t3, _, rfl, t6 _ h2 h4 rfl rfl⟩
              · by_cases h58 : b' = 58
                · simp (maxSteps := 1000000) (disch := omega) only [h4, h6, h7, h8, eq_true h61, sHasPrefix_spec, h34, hs1, hcut, faddrPV, Nat.zero_add, a1, hd0, hr, hix, hs2, h59, eq_true h58, t4, t5, hlit, freshT_eq, t1, t2, loopQ_normal, qaaz, qabz, qacz, qaez, qajz, qakz, qalz, qamz, qanz, evOp, qaoz, qapz, qaqz, qarz, qatz, qauz, qavz,
 ↓reduceIte, Nat.reduceEqDiff, List.map_cons, List.map_nil, Option.map_some, Option.map_none, qazz, qbdz, qbhz, qbvz, qbwz, qcbz, beq_true, beq_false, decide_true, decide_false,
 Bool.false_eq_true, qcjz, List.getElem?_cons_zero, List.getElem?_cons_succ, Bool.not_false, ne_eq, not_true_eq_false, not_false_eq_true]
                  exact ⟨_, t3, _, rfl, t6 _ h2 h4 rfl rfl⟩
                · simp (maxSteps := 1000000) (disch := omega) only [h6, h7, h8, eq_true h61, sHasPrefix_spec, h34, hs1, hcut, faddrPV, Nat.zero_add, a1, hd0, hr, hix, hs2, h59, h58, qaaz, qabz, qacz, qaez, qahz, qajz, qakz, qalz, qamz, qanz, evOp, qaoz, qapz, qaqz, qarz, qatz, qauz, qavz,
 ↓reduceIte, Nat.reduceEqDiff, List.map_cons, List.map_nil, Option.map_some, Option.map_none, qazz, qbcz, qbgz, qbhz, qbkz, qbvz, qbwz, qcbz, beq_true, beq_false, decide_true, decide_false,
 Bool.false_eq_true, qcjz, List.getElem?_cons_zero, List.getElem?_cons_succ, Bool.not_false, ne_eq, not_true_eq_false, not_false_eq_true]
                  exact wr _ _ k1 k2 h2 (hbad _ _ _ hpar h59 h58)
        · rw [if_neg h34] at hpar
          obtain ⟨d, hd⟩ : ∃ d, d = cutV [59, 58, 44, 34] c1.2.2 := ⟨_, rfl⟩
          have hds := cutV_sum (e := [59, 58, 44, 34]) (s := c1.2.2)
          rw [← hd] at hpar hds
          have hcut := fun S : St => cut_spec (st := S) (x := c1.2.2) (e := [59, 58, 44, 34]) (by omega) (by simp)
          rw [← hd] at hcut
          obtain ⟨S1, a1, w1⟩ := hA8.st1 (off := 1) (v := .str d.1) Leaf_str rfl (by simp)
          have k1 := w1.kp st hk hle8
          have k2 := w1.ot _ _ hne28 hA2
          have k4 := w1.ot _ _ hne48 hA4
          have k8 : At S1 b8 [.str (upOf c1.1), .str d.1] := w1.at_
          have ko := ho.tks w1.tk
          obtain ⟨v', s', S', t1, t2, t3, t4, t5, t6⟩ := tail S1 d.1 d.2.1 d.2.2 hpar k1 k2 k4 k8 ko
          simp (maxSteps := 1000000) (disch := omega) only [h4, h6, h7, h8, eq_true h61, sHasPrefix_spec, h34, hcut, faddrPV, Nat.zero_add, a1, t4, t5, hlit, freshT_eq, t1, t2, loopQ_normal, qaaz, qabz, qacz, qaez, qajz, qalz, evOp, qaoz, qapz, qaqz, qarz, qatz, qauz, qavz,
 ↓reduceIte, Nat.reduceEqDiff, List.map_cons, List.map_nil, Option.map_some, qazz, qbdz, qbhz, qbwz, decide_false,
 Bool.false_eq_true, qcjz, List.getElem?_cons_zero, List.getElem?_cons_succ, ne_eq, not_true_eq_false]
          exact ⟨_, t3, _, rfl, t6 _ h2 h4 rfl rfl⟩
      · rw [if_neg h61] at hpar
        have h61d : decide (c1.2.1 ≠ 61) = true := by simp [h61]
        simp (maxSteps := 1000000) (disch := omega) only [h6, h61, qaaz, qabz, qacz, qahz, qajz, qalz, evOp, qaoz, qapz, qarz, qatz, qavz,
 ↓reduceIte, Option.map_some, qazz, qbcz, qbgz, qbhz, qbkz, qbwz, decide_true, ne_eq, not_false_eq_true]
        exact wr _ _ hk hA2 h2 (by rw [hg, hpar])
    · simp (maxSteps := 1000000) (disch := omega) only [h6, hb, qaaz, qabz, qacz, qagz, qajz, qalz, evOp, qaoz, qapz, qarz, qatz, qavz,
 ↓reduceIte, Option.map_some, qazz, qbbz, qbfz, qbhz, qbjz, qbvz, decide_false,
 Bool.false_eq_true]
      rw [hQQ]
      exact .inl ⟨rfl, rest, by rw [hJ]; exact ⟨fuel, acc, pv, b, hf, hal, hps, hg, hk, hA2, hA4, ho, hn, h2, h4, h6, h7⟩, by show e 6 ≠ .b8 59; rw [h6]; simpa using hb⟩
  · clear hk hA2 hA4 h2 h4 h6 h7
    rintro e S ⟨rest, hh, h59⟩
    rw [hJ] at hh
    obtain ⟨fuel, acc, pv, b, hf, hal, hps, hg, hk, hA2, hA4, ho, hn, h2, h4, h6, h7⟩ := hh
    rw [h6] at h59
    have h59' : b ≠ 59 := fun q => h59 (by rw [q])
    obtain ⟨f, rfl⟩ : ∃ f, fuel = f + 1 := ⟨fuel - 1, by omega⟩
    rw [goL, if_neg h59'] at hg
    obtain ⟨S1, a1, w1⟩ := hA4.st1 (off := 2) (v := .str rest) Leaf_str rfl (by simp)
    have k1 := w1.kp st hk hle4
    have k2 := w1.ot _ _ hne24 hA2
    have k4 : At S1 b4 [.str nm, pv, .str rest] := w1.at_
    have ko := ho.tks w1.tk
    clear hk hA2 hA4 ho w1
    by_cases h58 : b = 58
    · rw [if_pos h58] at hg
      rw [hg] at hone
      have hok : (⟨nm, pv, acc, rest⟩ : Ln).okR := ⟨own_vs ko, (own_leaf ko).2, (own_leaf ko).1.2, hnl, by simp only; omega, by simp only; omega, hps⟩
      have hrt := fun S : St => sRightR_spec (st := S) hok
      simp only [lV] at hrt
      rw [rtB_pv (w := .nils)] at hrt
      simp only [oneG] at hone
      cases hrb : rtB ⟨nm, .nils, acc, rest⟩ with
      | true =>
        rw [hrb] at hrt hone
        rw [if_pos rfl] at hone
        rw [hZ] at k2
        obtain ⟨S2, a2, w2⟩ := k2.st3 (v0 := .str nm) (v1 := pv) (v2 := .str rest) rfl (own_leaf ko).1.2 rfl rfl ((own_leaf ko).2 _) rfl
        simp (maxSteps := 1000000) (disch := omega) only [h2, h4, h6, h7, faddrPV, Nat.zero_add, a1, eq_true h58, k4.ld3, hrt, a2, qaaz, qabz, qacz, qaez, qaiz, qajz, qakz, qalz, qamz, qanz, evOp, qaoz, qapz, qaqz, qarz, qatz, qauz, qavz,
 ↓reduceIte, Nat.reduceEqDiff, List.map_cons, List.map_nil, Option.map_some, qazz, qbaz, qbhz, qbwz, qcfz, beq_false, decide_false,
 Bool.false_eq_true, Bool.not_true, Bool.not_false, ne_eq, not_true_eq_false]
        exact fin _ _ _ _ _ _ (w2.kp st k1 (by omega)) (ko.tks w2.tk) hn w2.at_ hone h2 rfl
      | false =>
        rw [hrb] at hrt hone
        rw [if_neg (by simp)] at hone
        simp (maxSteps := 1000000) (disch := omega) only [h4, h6, h7, faddrPV, Nat.zero_add, a1, eq_true h58, k4.ld3, hrt, qaaz, qabz, qacz, qahz, qajz, qakz, qalz, qamz, qanz, evOp, qaoz, qapz, qaqz, qarz, qatz, qauz, qavz,
 ↓reduceIte, Nat.reduceEqDiff, List.map_cons, List.map_nil, Option.map_some, qazz, qbcz, qbhz, qbwz, qcfz, beq_false, decide_false,
 Bool.false_eq_true, Bool.not_false, ne_eq, not_true_eq_false]
        exact wrong _ _ k1 k2 h2 hone
    · rw [if_neg h58] at hg
      simp (maxSteps := 1000000) (disch := omega) only [h4, h6, h7, faddrPV, Nat.zero_add, a1, h58, qaaz, qabz, qacz, qahz, qajz, qakz, qalz, qamz, qanz, evOp, qaoz, qapz, qarz, qatz, qauz, qavz,
 ↓reduceIte, Nat.reduceEqDiff, Option.map_some, qazz, qbcz, qbhz, qbwz, beq_false, decide_true, Bool.false_eq_true, Bool.not_true, ne_eq, not_false_eq_true]
      exact wrong _ _ k1 k2 h2 (hnone hg)
end Go.Ab
/-
  Lines are read, walked.
-/
namespace Go.Ab
set_option maxRecDepth 20000
variable {st s : St} {e : Env}

theorem sLines_spec {x : PV} {l : Bs} (hx : x.by = some l) : call prog (.fn 97 []) [x] st = some (.fn 102 [.ptr st.boxes.length 0], { boxes := st.boxes ++ [[x]], toks := st.toks, loops := st.loops, low := min st.low st.boxes.length }) := by
  refine call_of_W prog_97 ?_
  unfold F_sheet_lines; dsimp only
  have hc := Leaf_by hx
  simp (maxSteps := 1000000) (disch := omega) only [by_inB hx, and_self, allocPV, hc.1, hc.2, capOk, List.all_cons, List.all_nil, Bool.and_true, qaaz, qabz, qaiz, qajz, qalz, evOp, qaoz, qapz, qarz, qatz, qavz,
 ↓reduceIte, Nat.reduceEqDiff, List.append_nil, List.map_cons, List.map_nil, qawz, qazz, qblz]
  exact ⟨.fn 102 [.ptr st.boxes.length 0], rfl, by simp [leave, PV.inB, PV.inB.inBAll]⟩

theorem slines_iter {x : PV} {l : Bs} (hx : x.by = some l) (hl : l.length ≤ 100000000) {b k : Nat} {P : List (Nat × Bs × Bool) → St → Prop} {D : St → Prop}
    (hbox : ∀ r s, P r s → s.boxes[b]? = some [x]) (htok : ∀ r s, P r s → P r s.tok1)
    (hE : ∀ s q, P [q] s → q.2.2 = false → ∃ t s', call prog (.yld k) [.int .i64 (q.1 : Int), .nils] s = some (.bool t, s') ∧ D s')
    (hY : ∀ q r s v, P (q :: r) s → q.2.2 = true → v.by = some (full q) → (∃ s', call prog (.yld k) [.int .i64 (q.1 : Int), v] s = some (.bool true, s') ∧ P r s') ∨ (∃ s', call prog (.yld k) [.int .i64 (q.1 : Int), v] s = some (.bool false, s') ∧ D s'))
    (h0 : P (refLines l) { st with low := st.boxes.length }) : ∃ s1, (D s1 ∨ P [] s1) ∧ call prog (.fn 102 [.ptr b 0]) [.yld k] st = some (leave st s1 (.tup [])) := by
  have key : W prog F_sheet_lines_c1.body (env0 ([.yld k] ++ [.ptr b 0])) { st with low := st.boxes.length } (fun xx e1 s1 => (xx = .normal ∨ xx = .ret) ∧ (D s1 ∨ P [] s1)) := by
    obtain ⟨QQ, hQQ⟩ : ∃ QQ : Ex → Env → St → Prop, QQ = fun xx e1 s1 => (xx = .normal ∨ xx = .ret) ∧ (D s1 ∨ P [] s1) := ⟨_, rfl⟩
    rw [← hQQ]
    unfold F_sheet_lines_c1; dsimp only
    simp (maxSteps := 1000000) (disch := omega) only [qaaz, qabz, qadz, qajz, qalz, evOp, qapz, qarz, qatz, List.nil_append, List.cons_append, qazz]
    obtain ⟨I, hI⟩ : ∃ I : Nat → Env → St → Prop, I = fun n e s => ∃ (a : Nat), n = l.length - a ∧ a ≤ l.length ∧ P (place a (segs (l.drop a) [])) s ∧ e 0 = .yld k ∧ e 1 = .ptr b 0 ∧ e 3 = .int .i64 (a : Int) := ⟨_, rfl⟩
    refine W_loop I ?_ (n := l.length) (by rw [hI]; exact ⟨0, rfl, by omega, h0, rfl, rfl, rfl⟩)
    intro n e s h
    rw [hI] at h
    obtain ⟨a, rfl, ha, hP, e0, e1, e3⟩ := h
    have hb := hbox _ _ hP
    have hld : loadPV s false 1 (.ptr b 0) = some x := by simp [loadPV, hb, readCells]
    by_cases hal : a < l.length
    · have hd := dropB_by (i := a) hx
      have hP1 := htok _ _ hP
      have hb1 := hbox _ _ hP1
      have hld1 : loadPV s.tok1 false 1 (.ptr b 0) = some x := by simp [loadPV, hb1, readCells]
      have htk : s.tok1.toks[s.toks.length]? = some true := by simp [St.tok1]
      have hidx : call prog (.fn 32 []) [x.dropB a, .bys (.own s.toks.length) [13, 10]] s.tok1 = some (.int .i64 (Lib.index (l.drop a) [13, 10]), s.tok1) := bIndex_spec hd rfl (by simp; omega) (by simp)
      rcases segs_index (l.drop a) [] with ⟨i1, i2⟩ | ⟨n, i1, i2, i3⟩
      · have hq : ¬ ([] : List UInt8) ++ l.drop a = [] := fun hq => by
          have := congrArg List.length hq
          simp at this; omega
        rw [i2, if_neg hq] at hP1
        obtain ⟨t, s', c1, c2⟩ := hE _ _ hP1 rfl
        simp only at c1
        simp (maxSteps := 1000000) (disch := omega) only [e0, e1, e3, hld, len_by hx, hal, slc_lo hx, lit8_2, freshT_eq, htk, hidx, i1, Int.reduceNeg, Int.reduceLT, c1, qaaz, qabz, qacz, qadz, qaez, qaiz, qajz, qalz, evOp, qaoz, qapz, qaqz, qarz, qatz, qavz,
 ↓reduceIte, Nat.reduceEqDiff, List.map_cons, List.map_nil, Option.map_some, Option.map_none, qazz, qbaz, qbez, qbhz, qbiz, qbpz, decide_true, Int.toNat_natCast, Int.ofNat_lt, reduceCtorEq, Int.reduceLT]
        rw [hQQ]; exact ⟨.inr rfl, .inl c2⟩
      · simp only [List.length_drop] at i2
        have hm := midB_by (i := a) (j := a + n + 2) hx
        have hfull : (l.take (a + n + 2)).drop a = full (a, (l.drop a).take n, true) := by
          simp only [full, if_true]
          rw [List.drop_take, show a + n + 2 - a = n + 2 by omega, segs_take i1]
        rw [i3] at hP1
        simp only [place, List.nil_append] at hP1
        have hlen : ((l.drop a).take n).length = n := by simp; omega
        rw [hlen, List.drop_drop, show a + (n + 2) = a + n + 2 by omega] at hP1
        have hn0 : ¬ ((n : Int) < 0) := by omega
        rcases hY (a, (l.drop a).take n, true) _ s.tok1 (x.midB a (a + n + 2)) hP1 rfl (by rw [hm, hfull]) with ⟨s', c1, c2⟩ | ⟨s', c1, c2⟩
        · simp (maxSteps := 1000000) (disch := omega) only [e0, e1, e3, hld, len_by hx, hal, slc_lo hx, lit8_2, freshT_eq, htk, hidx, hld1, i1, hn0, add_n, slc_lohi hx, c1, qaaz, qabz, qacz, qadz, qaez, qajz, qalz, evOp, qaoz, qapz, qaqz, qarz, qatz, qavz,
 ↓reduceIte, Nat.reduceEqDiff, List.map_cons, List.map_nil, Option.map_some, Option.map_none, qazz, qbdz, qbhz, qbpz, qcfz, decide_true, decide_false,
 Int.toNat_natCast, Int.ofNat_lt, Bool.false_eq_true, Int.reduceToNat, reduceCtorEq, Bool.not_true]
          refine loopQ_intro (m := l.length - (a + (n + 2))) (by omega) ?_
          rw [hI]
          exact ⟨a + (n + 2), rfl, by omega, by rw [show a + (n + 2) = a + n + 2 by omega]; exact c2, e0, e1, rfl⟩
        · simp (maxSteps := 1000000) (disch := omega) only [e0, e1, e3, hld, len_by hx, hal, slc_lo hx, lit8_2, freshT_eq, htk, hidx, hld1, i1, hn0, add_n, slc_lohi hx, c1, qaaz, qabz, qacz, qadz, qaez, qaiz, qajz, qalz, evOp, qaoz, qapz, qaqz, qarz, qatz, qavz,
 ↓reduceIte, Nat.reduceEqDiff, List.map_cons, List.map_nil, Option.map_some, Option.map_none, qazz, qbaz, qbez, qbhz, qbiz, qbpz, qcfz, decide_true, decide_false,
 Int.toNat_natCast, Int.ofNat_lt, Bool.false_eq_true, Int.reduceToNat, reduceCtorEq, Bool.not_false]
          rw [hQQ]; exact ⟨.inr rfl, .inl c2⟩
    · rw [List.drop_of_length_le (by omega)] at hP
      have hP' : P [] s := hP
      simp (maxSteps := 1000000) (disch := omega) only [e1, e3, hld, len_by hx, hal, qaaz, qabz, qacz, qagz, qajz, qalz, evOp, qaoz, qarz, qatz, qavz,
 ↓reduceIte, Nat.reduceEqDiff, Option.map_some, qazz, qbbz, qbfz, qbhz, qbjz, qbpz, decide_false,
 Int.ofNat_lt, Bool.false_eq_true]
      rw [hQQ]; exact ⟨.inl rfl, .inr hP'⟩
  obtain ⟨⟨xx, e1, s1⟩, h1, h2, h3⟩ := key
  refine ⟨s1, h3, ?_⟩
  rw [call_fn prog_102, h1]
  have hr : resOf e1 s1 F_sheet_lines_c1.results = some (.tup []) := rfl
  rcases h2 with rfl | rfl <;> simp [finish, hr]

theorem leave_unit {c s1 : St} : ∃ X : St, leave c s1 (.tup []) = (.tup [], X) ∧ X.boxes = s1.boxes.take c.boxes.length ∧ X.loops = s1.loops ∧ (X.low = c.low ∨ X.low = min c.low s1.low) ∧ (X.toks = s1.toks ∨ (X.toks = s1.toks.take c.toks.length ∧ c.boxes.length ≤ s1.low)) := by
  by_cases h : c.boxes.length ≤ s1.low
  · exact ⟨⟨s1.boxes.take c.boxes.length, s1.toks.take c.toks.length, s1.loops, c.low⟩, by simp [leave, PV.inB, PV.inB.inBAll, keepRes, keepVals, h], rfl, rfl, .inl rfl, .inr ⟨rfl, h⟩⟩
  · exact ⟨⟨s1.boxes.take c.boxes.length, s1.toks, s1.loops, min c.low s1.low⟩, by simp [leave, PV.inB, PV.inB.inBAll, h], rfl, rfl, .inr rfl, .inl rfl⟩
theorem At.take {X : St} {b n : Nat} {cs : List PV} (h : At s b cs) (hb : b < n) (hX : X.boxes = s.boxes.take n) : At X b cs := by
  unfold At at *; rw [hX, List.getElem?_take, if_pos hb]; exact h
def stL (st : St) (rs : List LoopS) : St := ⟨st.boxes, st.toks, st.loops ++ rs, st.low⟩
theorem At.stk {S : St} {b : Nat} (h : At S b [.nils]) : storePV S 1 (.ptr b 0) .nils = some S := by
  unfold At at h
  have h2 := (List.getElem?_eq_some_iff.1 h)
  obtain ⟨hlt, hg⟩ := h2
  have : S.boxes.set b [.nils] = S.boxes := by rw [← hg]; simp
  simp [storePV, h, PV.cells, PV.inB, setCells, leafOk, hasTok, tokOf, this]
theorem At.st1own {S : St} {b i esz : Nat} {c : PV} {xs : List PV} (h : At S b [c]) : ∃ S', storePV S 1 (.ptr b 0) (.sl esz (.own i) xs) = some S' ∧ Wrote S S' b [.sl esz (.own i) xs] ∧ S'.low ≤ b := by
  refine ⟨_, ?_, wrote_set (ds := [.sl esz (.own i) xs]) (lo := min S.low b) h (.inr rfl), by simp only; omega⟩
  unfold At at h
  simp [storePV, h, PV.cells, PV.inB, setCells, leafOk, hasTok, tokOf]

def dV (d : LnD) : PV := lV (toLn d)
def readV (st : St) : Except (Nat × Int) (List LnD) → PV × St
  | .error (j, c) => (.tup [.nils, .agg [.int .i64 (j : Int), .int .i64 c]], st)
  | .ok ds => (.tup [newSl st 3 (ds.map dV), .agg [.int .i64 0, .int .i64 0]], newS st (ds.map dV).isEmpty)
def preE (ds : List LnD) : Except Nat (List LnD) → Except Nat (List LnD)
  | .error j => .error j
  | .ok l => .ok (ds ++ l)
theorem preE_nil {r : Except Nat (List LnD)} : preE [] r = r := by cases r <;> rfl
theorem leave_rows {S : St} {v : PV} {xs : List PV} {a c : Int} (hk : Kept st S) (h : Own st S 3 v xs) (hne : xs = [] → v = .nils) :
    leave st S (.tup [v, .agg [.int .i64 a, .int .i64 c]]) = (.tup [newSl st 3 xs, .agg [.int .i64 a, .int .i64 c]], newS st xs.isEmpty) := by
  have e1 := hk.bx; have e2 := hk.lp; have e3 := hk.tk
  rcases h with ⟨rfl, rfl⟩ | ⟨i, rfl, h2, h3⟩
  · simp [leave, PV.inB, PV.inB.inBAll, hk.lw, keepRes, keepVals, keepVal, keepCells, keepLeaf, newSl, newS, e1, e2, e3]
  · by_cases hx : xs = []
    · have := hne hx; cases this
    · simp [leave, PV.inB, PV.inB.inBAll, hk.lw, keepRes, keepVals, keepVal, keepCells, keepLeaf, keepTok, newSl, newS, hx, h3, show ¬ i < st.toks.length by omega, e1, e2, e3, St.tok1]
theorem lit_line {S : St} {d : LnD} {z : PV} : litFill 3 (List.replicate 1 z) [(0, .agg [.str d.1, newSl S 2 (d.2.1.map fV), .str d.2.2])] = some [dV d] := by
  refine lit1 ?_ rfl
  obtain ⟨n, ps, v⟩ := d
  cases ps with
  | nil => simp [newSl, strip, stripAll, stripLeaf, dV, lV, toLn]
  | cons p r => simp [newSl, strip, stripAll, stripLeaf, dV, lV, toLn]
theorem newS_bx {S : St} {b : Bool} : (newS S b).boxes = S.boxes ∧ (newS S b).low = S.low ∧ (newS S b).loops = S.loops := by cases b <;> exact ⟨rfl, rfl, rfl⟩
theorem Kept.newS {S : St} {b : Bool} (h : Kept st S) : Kept st (newS S b) := by cases b; exact h.tok1; exact h
theorem Own.newS {S : St} {b : Bool} {esz : Nat} {v : PV} {xs : List PV} (h : Own st S esz v xs) : Own st (newS S b) esz v xs := by cases b; exact h.tok1; exact h
theorem newSl_leaf {S : St} {esz : Nat} {xs : List PV} : leafOk (newSl S esz xs) = true ∧ ∀ n, (newSl S esz xs).inB n = true := by unfold newSl; split <;> exact ⟨rfl, fun _ => rfl⟩
end Go.Ab
/-
  Lines are read, walked.
-/
namespace Go.Ab
set_option maxRecDepth 20000
variable {st s : St} {e : Env}

theorem eqnB {t : Tok} {l : List UInt8} : binPV .eql .slice (.bys t l) .nils = some (.bool false) := rfl
theorem eqnN : binPV .eql .slice .nils .nils = some (.bool true) := rfl
theorem lenB {t : Tok} {l : List UInt8} : lenPV false (.bys t l) = some (.int .i64 (l.length : Int)) := rfl
theorem own_len {esz : Nat} {v : PV} {xs : List PV} (h : Own st s esz v xs) : lenPV false v = some (.int .i64 (xs.length : Int)) := by
  rcases h with ⟨rfl, rfl⟩ | ⟨i, rfl, _⟩ <;> simp [lenPV]
theorem Kept.swap {S : St} {r r' : LoopS} (h : Kept (stL st [r]) S) : Kept (stL st [r']) { S with loops := S.loops.set st.loops.length r' } := by
  refine ⟨h.bx, ?_, h.lw, h.tk⟩
  have := h.lp
  simp only [stL] at this ⊢
  rw [this, set_app0]
theorem Kept.lget {S : St} {r : LoopS} (h : Kept (stL st [r]) S) : S.loops[st.loops.length]? = some r := by
  have := h.lp
  simp only [stL] at this
  rw [this]; exact get_app0

theorem segs_each : ∀ (k : Nat) (l acc : Bs), l.length ≤ k → ∀ q ∈ segs l acc, q.1.length ≤ acc.length + l.length := by
  intro k
  induction k with
  | zero =>
    intro l acc h q hq
    have : l = [] := List.eq_nil_of_length_eq_zero (by omega)
    subst this
    simp only [segs] at hq
    split at hq
    · simp at hq
    · simp only [List.mem_singleton] at hq; subst hq; simp
  | succ k ih =>
    intro l acc h q hq
    match l with
    | [] =>
      simp only [segs] at hq
      split at hq
      · simp at hq
      · simp only [List.mem_singleton] at hq; subst hq; simp
    | [c] => simp only [segs, List.mem_singleton] at hq; subst hq; simp
    | c :: d :: r =>
      simp only [segs] at hq
      split at hq
      · rcases List.mem_cons.1 hq with rfl | hq
        · (first | (simp; done) | (simp; omega))
        · have := ih r [] (by simp at h; omega) q hq
          simp at this ⊢; omega
      · have := ih (d :: r) (acc ++ [c]) (by simp at h ⊢; omega) q hq
        simp at this ⊢; omega
theorem place_mem : ∀ (p : List (Bs × Bool)) (a : Nat) (q : Nat × Bs × Bool), q ∈ place a p → q.2 ∈ p := by
  intro p
  induction p with
  | nil => intro a q h; simp [place] at h
  | cons z r ih =>
    intro a q h
    obtain ⟨b, w⟩ := z
    simp only [place, List.mem_cons] at h
    rcases h with rfl | h
    · simp
    · exact List.mem_cons_of_mem _ (ih _ _ h)
theorem refLines_each {l : Bs} {q : Nat × Bs × Bool} (h : q ∈ refLines l) : q.2.1.length ≤ l.length := by
  have := segs_each l.length l [] (Nat.le_refl _) q.2 (place_mem _ _ _ h)
  simpa using this

set_option maxHeartbeats 8000000 in
theorem Read_big {y : PV} {l : Bs} (hy : y.by = some l) (hl : l.length ≤ 1048576) (hq : ∀ q ∈ refLines (unfV l), q.2.1.length ≤ 1000000) (hN : (refLines (unfV l)).length ≤ 4096) : call prog (.fn 89 []) [y] st = some (readV st (readL l)) := by
  refine call_of_W prog_89 ?_
  unfold F_sheet_Read; dsimp only
  generalize hQ1 : endQ st _ _ = Q0
  have hQ0 : Q0 = endQ st [.cell 2 false 1, .cell 3 true 2] (readV st (readL l)) := hQ1.symm
  clear hQ1
  obtain ⟨b2, hb2⟩ : ∃ b2, b2 = st.boxes.length := ⟨_, rfl⟩
  obtain ⟨b3, hb3⟩ : ∃ b3, b3 = st.boxes.length + 1 := ⟨_, rfl⟩
  have hne23 : b2 ≠ b3 := by omega
  obtain ⟨u, hu⟩ : ∃ u, u = unfV l := ⟨_, rfl⟩
  have hul : u.length ≤ 1048576 := by rw [hu]; exact Nat.le_trans (unfV_len _ l (Nat.le_refl _)) hl
  rw [← hu] at hN hq
  have hq' := hq
  clear hq
  have hrd : readL l = match ptsOf (u.length + 1) u 0 with
    | .error j => .error (j, 20)
    | .ok _ => (match readG (refLines u) with
      | .ok l => .ok l
      | .error j => .error (j, 90)) := by rw [hu]; rfl
  obtain ⟨bst, hbst⟩ : ∃ f : Int → Int → PV, f = fun a c => .agg [.int .i64 a, .int .i64 c] := ⟨_, rfl⟩
  have finE : ∀ (E : Env) (S : St) (j : Nat) (c : Int), Kept st S → At S b2 [.nils] → At S b3 [.int .i64 (j : Int), .int .i64 c] → readL l = .error (j, c) → E 2 = .ptr b2 0 → E 3 = .ptr b3 0 → Q0 .ret E S := by
    intro E S j c k1 k2 k3 ho e2 e3
    rw [hQ0, qblz]
    have h2 := k2.load (k := 0) (v := .nils) (r := []) rfl
    refine ⟨.tup [.nils, .agg [.int .i64 (j : Int), .int .i64 c]], by simp [resOf, rvAll, rv1, e2, e3, h2, k3.ld2, notTup, packRes], ?_⟩
    rw [ho]
    exact k1.leave' ⟨fun _ => rfl, fun _ _ => rfl⟩
  have finO : ∀ (E : Env) (S : St) (out : PV) (ds : List LnD), Kept st S → At S b2 [out] → At S b3 [.int .i64 0, .int .i64 0] → Own st S 3 out (ds.map dV) → (ds.map dV = [] → out = .nils) → readL l = .ok ds → E 2 = .ptr b2 0 → E 3 = .ptr b3 0 → Q0 .ret E S := by
    intro E S out ds k1 k2 k3 ko kn ho e2 e3
    rw [hQ0, qblz]
    have h2 := k2.load (k := 0) (v := out) (r := []) rfl
    have hnt := own_nt ko
    refine ⟨.tup [out, .agg [.int .i64 0, .int .i64 0]], by rcases ko with ⟨rfl, _⟩ | ⟨i, rfl, _⟩ <;> simp [resOf, rvAll, rv1, e2, e3, h2, k3.ld2, notTup, packRes], ?_⟩
    rw [ho]
    exact leave_rows k1 ko kn
  refine W_cut (fun E S => Kept st S ∧ At S b2 [.nils] ∧ At S b3 [.int .i64 0, .int .i64 0] ∧ E 0 = y ∧ E 2 = .ptr b2 0 ∧ E 3 = .ptr b3 0) ?_ ?_
  · simp (maxSteps := 1000000) (disch := omega) only [allocPV, qabz, qajz, qalz, evOp, qarz, qatz, qavz,
 ↓reduceIte, Nat.reduceEqDiff, List.append_nil, qawz, true_and, reduceCtorEq]
    refine ⟨Kept.start.alloc'.alloc', ?_, ?_, by rw [hb2], by rw [hb3]; simp⟩
    · rw [hb2]; exact (At.last (s := ⟨st.boxes, st.toks, st.loops, st.boxes.length⟩) (z := [.nils]) (T := st.toks) (Lp := st.loops) (lo := st.boxes.length)).alloc
    · rw [hb3]; unfold At; simp
  rintro e S ⟨hk, hA2, hA3, h0, h2, h3⟩
  refine W_cut (fun E S => Kept st S ∧ At S b2 [.nils] ∧ At S b3 [.int .i64 0, .int .i64 0] ∧ E 0 = y ∧ E 2 = .ptr b2 0 ∧ E 3 = .ptr b3 0) ?_ ?_
  · have e1 : ¬ (1048576 : Int) < (l.length : Int) := by omega
    simp (maxSteps := 1000000) (disch := omega) only [h0, h2, h3, len_by hy, e1, qaaz, qabz, qacz, qaez, qajz, qalz, evOp, qaoz, qapz, qarz, qatz, qavz,
 ↓reduceIte, Nat.reduceEqDiff, Option.map_some, qazz, qbhz, qbrz, decide_false,
 Bool.false_eq_true, true_and, and_true, reduceCtorEq]
    exact ⟨hk, hA2, hA3⟩
  clear hk hA2 hA3 h0 h2 h3
  rintro e S ⟨hk, hA2, hA3, h0, h2, h3⟩
  refine W_cut (fun E S => Kept st S ∧ At S b2 [.nils] ∧ At S b3 [.int .i64 0, .int .i64 0] ∧ (∃ x, E 0 = x ∧ x.by = some u) ∧ E 2 = .ptr b2 0 ∧ E 3 = .ptr b3 0) ?_ ?_
  · obtain ⟨⟨x, S'⟩, q1, T, q2, q3⟩ := unfold_spec (st := S) hy (by omega)
    simp only at q2 q3
    rw [q2] at q1
    rw [← hu] at q3
    simp (maxSteps := 1000000) (disch := omega) only [h0, h2, h3, q1, qabz, qajz, qalz, evOp, qaoz, qaqz, qarz, qatz, qavz,
 ↓reduceIte, Nat.reduceEqDiff, List.map_cons, List.map_nil, true_and, and_true, reduceCtorEq, exists_eq_left']
    exact ⟨hk.toks, hA2.bx rfl, hA3.bx rfl, q3⟩
  clear hk hA2 hA3 h0 h2 h3
  rintro e S ⟨hk, hA2, hA3, ⟨x, h0, hx⟩, h2, h3⟩
  obtain ⟨b5, hb5⟩ : ∃ b5, b5 = S.boxes.length := ⟨_, rfl⟩
  have hne25 : b2 ≠ b5 := by have := hA2.lt; omega
  have hne35 : b3 ≠ b5 := by have := hA3.lt; omega
  have hle5 : st.boxes.length ≤ b5 := by have := hk.bl; omega
  have hpt := uPoints_spec (st := S) hx (by omega)
  have hA5 := At.last (s := S) (z := [.int .i64 0, .int .i64 0]) (T := S.toks) (Lp := S.loops) (lo := S.low)
  refine W_cutX (fun E S => Kept st S ∧ At S b2 [.nils] ∧ At S b3 [.int .i64 0, .int .i64 0] ∧ (∃ r, ptsOf (u.length + 1) u 0 = .ok r) ∧ E 0 = x ∧ E 2 = .ptr b2 0 ∧ E 3 = .ptr b3 0) ?_ ?_
  · cases hp : ptsOf (u.length + 1) u 0 with
    | error j =>
      rw [hp] at hpt hrd
      simp only [ptsV] at hpt
      rw [← hb5] at hA5
      obtain ⟨S1, a1, w1⟩ := hA5.st2 (v0 := .int .i64 (j : Int)) (v1 := .int .i64 20) rfl rfl rfl rfl
      have k1 := w1.kp st hk.alloc' hle5
      have k2 := w1.ot _ _ hne25 hA2.alloc
      have k3 := w1.ot _ _ hne35 hA3.alloc
      have hld := w1.at_.load (k := 1) (v := .int .i64 20) (r := []) rfl
      obtain ⟨S2, a2, w2⟩ := k3.st2 (v0 := .int .i64 (j : Int)) (v1 := .int .i64 20) rfl rfl rfl rfl
      simp (maxSteps := 1000000) (disch := omega) only [h0, h2, h3, hpt, allocPV, ← hb5, a1, faddrPV, Nat.zero_add, hld, w1.at_.ld2, k2.stk, a2, qaaz, qabz, qacz, qaiz, qajz, qalz, evOp, qaoz, qapz, qaqz, qarz, qatz, qauz, qavz,
 ↓reduceIte, Nat.reduceEqDiff, List.map_cons, List.map_nil, Option.map_some, qazz, qbhz, qboz,
 qbuz, decide_true, qcjz, List.getElem?_cons_zero, List.getElem?_cons_succ, true_and, and_true, reduceCtorEq, ne_eq, Int.reduceEq, not_false_eq_true]
      right
      exact finE _ _ j 20 (w2.kp st k1 (by omega)) (w2.ot _ _ hne23 k2) w2.at_ hrd h2 h3
    | ok r =>
      rw [hp] at hpt
      simp only [ptsV] at hpt
      obtain ⟨S0, hS0⟩ : ∃ S0, S0 = newS S (r.map ptV).isEmpty := ⟨_, rfl⟩
      obtain ⟨nb, nl, np⟩ := newS_bx (S := S) (b := (r.map ptV).isEmpty)
      have k0 := hk.newS (b := (r.map ptV).isEmpty)
      rw [← hS0] at hpt nb nl np k0
      have hA5' := At.last (s := S0) (z := [.int .i64 0, .int .i64 0]) (T := S0.toks) (Lp := S0.loops) (lo := S0.low)
      have hb5' : b5 = S0.boxes.length := by rw [nb]; exact hb5
      rw [← hb5'] at hA5'
      obtain ⟨S1, a1, w1⟩ := hA5'.st2 (v0 := .int .i64 0) (v1 := .int .i64 0) rfl rfl rfl rfl
      have k1 := w1.kp st k0.alloc' hle5
      have k2 := w1.ot _ _ hne25 (hA2.bx nb).alloc
      have k3 := w1.ot _ _ hne35 (hA3.bx nb).alloc
      have hld := w1.at_.load (k := 1) (v := .int .i64 0) (r := []) rfl
      simp (maxSteps := 1000000) (disch := omega) only [h0, h2, h3, hpt, allocPV, ← hb5', a1, faddrPV, Nat.zero_add, hld, qaaz, qabz, qacz, qaez, qajz, qalz, evOp, qaoz, qapz, qaqz, qarz, qatz, qauz, qavz,
 ↓reduceIte, Nat.reduceEqDiff, List.map_cons, List.map_nil, Option.map_some, qazz, qbhz, qbuz, decide_false,
 Bool.false_eq_true, qcjz, List.getElem?_cons_zero, List.getElem?_cons_succ, true_and, and_true, reduceCtorEq, ne_eq, not_true_eq_false]
      left
      exact ⟨k1, k2, k3, ⟨r, rfl⟩⟩
  clear hk hA2 hA3 h0 h2 h3 hpt hA5
  clear hle5 hne35 hne25 hb5 b5
  rintro e S ⟨hk, hA2, hA3, ⟨r0, hpt⟩, h0, h2, h3⟩
  obtain ⟨W, hW⟩ : ∃ W, W = readG (refLines u) := ⟨_, rfl⟩
  rw [hpt, ← hW] at hrd
  simp only at hrd
  obtain ⟨b6, hb6⟩ : ∃ b6, b6 = S.boxes.length := ⟨_, rfl⟩
  have hne26 : b2 ≠ b6 := by have := hA2.lt; omega
  have hne36 : b3 ≠ b6 := by have := hA3.lt; omega
  have hle6 : st.boxes.length ≤ b6 := by have := hk.bl; omega
  refine W_cut (fun E S => Kept st S ∧ At S b2 [.nils] ∧ At S b3 [.int .i64 0, .int .i64 0] ∧ At S b6 [.nils] ∧ S.boxes.length = b6 + 1 ∧ E 0 = x ∧ E 2 = .ptr b2 0 ∧ E 3 = .ptr b3 0 ∧ E 6 = .ptr b6 0) ?_ ?_
  · simp (maxSteps := 1000000) (disch := omega) only [h0, h2, h3, allocPV, qabz, qajz, qalz, evOp, qarz, qatz, qavz,
 ↓reduceIte, Nat.reduceEqDiff, true_and, reduceCtorEq]
    exact ⟨hk.alloc', hA2.alloc, hA3.alloc, by rw [hb6]; exact At.last, by rw [hb6]; simp, by rw [hb6]⟩
  clear hk hA2 hA3 h0 h2 h3 hb6
  rintro e S ⟨hk, hA2, hA3, hA6, hbl, h0, h2, h3, h6⟩
  obtain ⟨bi, hbi⟩ : ∃ bi, bi = S.boxes.length := ⟨_, rfl⟩
  have hbi6 : bi = b6 + 1 := by omega
  have hli := sLines_spec (st := S) hx
  rw [← hbi] at hli
  -- the whole range
  obtain ⟨J, hJ⟩ : ∃ J : Env → St → Prop, J = fun E S => ∃ out ds, Kept st S ∧ At S b2 [.nils] ∧ At S b3 [.int .i64 0, .int .i64 0] ∧ At S b6 [out] ∧ Own st S 3 out (ds.map dV) ∧ (ds.map dV = [] → out = .nils) ∧ W = .ok ds ∧ E 2 = .ptr b2 0 ∧ E 3 = .ptr b3 0 ∧ E 6 = .ptr b6 0 := ⟨_, rfl⟩
  refine W_cutX J ?_ ?_
  · have hxl := Leaf_by hx
    obtain ⟨Sc, hSc⟩ : ∃ Sc : St, Sc = ⟨S.boxes ++ [[x]], S.toks, S.loops, min S.low bi⟩ := ⟨_, rfl⟩
    rw [← hSc] at hli
    have kc : Kept st Sc := by
      have h1 := hk.alloc' (z := [x])
      rw [hSc]
      exact ⟨h1.bx, h1.lp, by have := hk.lw; have := hk.bl; simp only; omega, h1.tk⟩
    have c2 : At Sc b2 [.nils] := by rw [hSc]; exact hA2.alloc
    have c3 : At Sc b3 [.int .i64 0, .int .i64 0] := by rw [hSc]; exact hA3.alloc
    have c6 : At Sc b6 [.nils] := by rw [hSc]; exact hA6.alloc
    have ci : At Sc bi [x] := by rw [hSc, hbi]; exact At.last
    have cbl : Sc.boxes.length = b6 + 2 := by rw [hSc]; simp; omega
    clear hSc hk hA2 hA3 hA6 hbi hbl
    rw [qaaz]
    simp (maxSteps := 1000000) (disch := omega) only [h0, hli, qazz, qabz, qajz, qalz, evOp, qaoz, qaqz, qarz, qatz, qavz,
 ↓reduceIte, List.map_cons, List.map_nil, qazz, ne_eq]
    rw [qadz]
    refine W_rangeFunc (fid := 102) (caps := [.ptr bi 0]) rfl prog_102 ?_
    generalize hrec : recOf _ _ _ _ = rec
    have hra := congrArg LoopS.assign hrec.symm
    have hrb := congrArg LoopS.body hrec.symm
    dsimp only [recOf] at hra hrb
    have r0 : rec.status = 0 := by rw [← hrec]; rfl
    have r1 : rec.pend = .normal := by rw [← hrec]; rfl
    have r2 : rec.params = [28, 29] := by rw [← hrec]; rfl
    have r3 : rec.env 2 = .ptr b2 0 := by rw [← hrec]; exact h2
    have r4 : rec.env 3 = .ptr b3 0 := by rw [← hrec]; exact h3
    have r6 : rec.env 6 = .ptr b6 0 := by rw [← hrec]; exact h6
    have r5 : rec = { rec with status := 0, pend := .normal } := by rw [← hrec]; rfl
    clear hrec
    have hlp := kc.lp
    obtain ⟨P, hP⟩ : ∃ P : List (Nat × Bs × Bool) → St → Prop, P = fun r S => ∃ out ds, Kept (stL st [rec]) S ∧ At S b2 [.nils] ∧ At S b3 [.int .i64 0, .int .i64 0] ∧ At S b6 [out] ∧ At S bi [x] ∧ Own st S 3 out (ds.map dV) ∧ (ds.map dV = [] → out = .nils) ∧ (out = .nils ∨ S.low ≤ b6) ∧ W = preE ds (readG r) ∧ ds.length + r.length ≤ 4096 ∧ ∀ q ∈ r, q.2.1.length ≤ 1000000 := ⟨_, rfl⟩
    obtain ⟨D, hD⟩ : ∃ D : St → Prop, D = fun S => ∃ j : Nat, Kept (stL st [{ rec with status := 2, pend := .ret }]) S ∧ At S b2 [.nils] ∧ At S b3 [.int .i64 (j : Int), .int .i64 90] ∧ W = .error j := ⟨_, rfl⟩
    obtain ⟨rec1, hrec1⟩ : ∃ r, r = ({ rec with status := 1 } : LoopS) := ⟨_, rfl⟩
    have hasg : ∀ (a : Int) (v : PV) (S : St), ex prog rec.assign (updAll rec.env rec.params [.int .i64 a, v]) S = some (.normal, upd (upd (upd (upd rec.env 28 (.int .i64 a)) 29 v) 7 (.int .i64 a)) 8 v, S) := fun a v S => by
      refine ex_of_W ?_
      simp (maxSteps := 1000000) (disch := omega) only [hra, r2, updAll, qaaz, qabz, qajz, qalz, evOp, qaoz, qarz, qatz, qavz,
 ↓reduceIte, Nat.reduceEqDiff, qazz, true_and, and_true]
    -- how a round ends with a fault
    have out : ∀ (K : Bool → St → Prop), (∀ s, D s → K false s) → ∀ (E : Env) (S : St) (j : Nat), Kept (stL st [rec1]) S → At S b2 [.nils] → At S b3 [.int .i64 (j : Int), .int .i64 90] → W = .error j → roundQ st.loops.length K .ret E S := by
      intro K hK E S j k1 k2 k3 kw
      refine ⟨rec1, k1.lget, ?_⟩
      have : decide (Ex.ret = Ex.normal) = false := rfl
      rw [this]
      apply hK
      rw [hD]
      refine ⟨j, ?_, k2.bx rfl, k3.bx rfl, kw⟩
      have := k1.swap (r' := { rec with status := 2, pend := .ret })
      first | exact this | (rw [hrec1]; exact this) | (rw [hrec1] at this; exact this)
    obtain ⟨s1, hs1, hcall⟩ := slines_iter (st := { Sc with loops := Sc.loops ++ [rec] }) hx (by omega) (b := bi) (k := st.loops.length) (P := P) (D := D)
      (fun r S h => by rw [hP] at h; obtain ⟨out, ds, _, _, _, _, h5, _⟩ := h; exact h5)
      (fun r S h => by
        rw [hP] at h ⊢
        obtain ⟨out, ds, k1, k2, k3, k6, ki, ko, kn, kl, kr⟩ := h
        exact ⟨out, ds, k1.tok1, k2, k3, k6, ki, ko.tok1, kn, kl, kr⟩)
      (fun S q h hq => by
        rw [hP] at h
        obtain ⟨out', ds, k1, k2, k3, k6, ki, ko, kn, kl, kw, kr, kq⟩ := h
        have hw : W = .error q.1 := by
          rw [kw]
          obtain ⟨a, m, w⟩ := q
          simp only at hq
          subst hq
          rfl
        refine yld_of_W (r := rec) (K := fun _ s' => D s') (args := [.int .i64 (q.1 : Int), .nils]) k1.lget r0 (by rw [r2]; rfl) (hasg q.1 .nils _) ?_
        have kk := k1.swap (r' := rec1)
        rw [← hrec1]
        obtain ⟨S0, hS0⟩ : ∃ S0 : St, S0 = { S with loops := S.loops.set st.loops.length rec1 } := ⟨_, rfl⟩
        rw [← hS0] at kk ⊢
        have j2 : At S0 b2 [.nils] := by rw [hS0]; exact k2.bx rfl
        have j3 : At S0 b3 [.int .i64 0, .int .i64 0] := by rw [hS0]; exact k3.bx rfl
        obtain ⟨S2, a2, w2⟩ := j3.st2 (v0 := .int .i64 (q.1 : Int)) (v1 := .int .i64 90) rfl rfl rfl rfl
        rw [hrb]
        simp (maxSteps := 1000000) (disch := omega) only [r3, r4, eqnN, build2 Leaf_int Leaf_int, j2.stk, a2, qaaz, qabz, qacz, qadz, qaiz, qajz, qalz, evOp, qaoz, qapz, qarz, qatz, qauz, qavz,
 ↓reduceIte, Nat.reduceEqDiff, List.map_cons, List.map_nil, Option.map_some, qazz, qbaz, qbez, qbhz, qboz]
        exact out (fun _ s' => D s') (fun s h => h) _ _ q.1 (w2.kp _ kk (by simp only [stL]; omega)) (w2.ot _ _ hne23 j2) w2.at_ hw)
      (fun q r S v h hw hv => by
        rw [hP] at h
        obtain ⟨out', ds, k1, k2, k3, k6, ki, ko, kn, kl, kw, kr, kq⟩ := h
        obtain ⟨K, hK⟩ : ∃ K : Bool → St → Prop, K = fun b s' => (b = true ∧ P r s') ∨ (b = false ∧ D s') := ⟨_, rfl⟩
        have hKD : ∀ s, D s → K false s := fun s h => by rw [hK]; exact .inr ⟨rfl, h⟩
        have hmain : ∃ b s', call prog (.yld st.loops.length) [.int .i64 (q.1 : Int), v] S = some (.bool b, s') ∧ K b s' := by
          refine yld_of_W (r := rec) (args := [.int .i64 (q.1 : Int), v]) k1.lget r0 (by rw [r2]; rfl) (hasg q.1 v _) ?_
          have kk := k1.swap (r' := rec1)
          rw [← hrec1]
          obtain ⟨S0, hS0⟩ : ∃ S0 : St, S0 = { S with loops := S.loops.set st.loops.length rec1 } := ⟨_, rfl⟩
          have hS0l : S0.low = S.low := by rw [hS0]
          have hS0t : S0.toks = S.toks := by rw [hS0]
          have j2 : At S0 b2 [.nils] := by rw [hS0]; exact k2.bx rfl
          have j3 : At S0 b3 [.int .i64 0, .int .i64 0] := by rw [hS0]; exact k3.bx rfl
          have j6 : At S0 b6 [out'] := by rw [hS0]; exact k6.bx rfl
          have ji : At S0 bi [x] := by rw [hS0]; exact ki.bx rfl
          have jo := ko.tks hS0t
          rw [← hS0] at kk ⊢
          have hfull : full q = q.2.1 ++ [13, 10] := by simp [full, hw]
          rw [hfull] at hv
          obtain ⟨t, rfl⟩ : ∃ t, v = .bys t (q.2.1 ++ [13, 10]) := by
            rcases by_cases' hv with ⟨_, h⟩ | h
            · exact absurd h (by simp)
            · exact h
          have hql := kq q (by simp)
          have hln : (q.2.1 ++ [13, 10]).length = q.2.1.length + 2 := by simp
          have hsl : slcPV 1 (.bys t (q.2.1 ++ [13, 10])) none (some (.int .i64 (((q.2.1 ++ [13, 10]).length - 2 : Nat) : Int))) none = some (.bys .no q.2.1) := by
            rw [slc_hi qcgz (by omega) (by simp)]
            simp [PV.takeB]
          have hone := One_spec (st := S0) (x := q.2.1) (by omega)
          obtain ⟨S1, hS1⟩ : ∃ S1, S1 = (oneV S0 (oneL q.2.1)).2 := ⟨_, rfl⟩
          obtain ⟨b9, hb9⟩ : ∃ b9, b9 = S0.boxes.length := ⟨_, rfl⟩
          have hne29 : b2 ≠ b9 := by have := j2.lt; omega
          have hne39 : b3 ≠ b9 := by have := j3.lt; omega
          have hne69 : b6 ≠ b9 := by have := j6.lt; omega
          have hnei9 : bi ≠ b9 := by have := ji.lt; omega
          have hle9 : st.boxes.length ≤ b9 := by have := kk.bl; simp only [stL] at this; omega
          have hl69 : b6 ≤ b9 := by have := j6.lt; omega
          rw [hrb]
          cases ho : oneL q.2.1 with
          | none =>
            rw [ho] at hone hS1
            simp only [oneV] at hone hS1
            have hwE : W = .error q.1 := by
              rw [kw]
              obtain ⟨a, m, w⟩ := q
              simp only at hw ho
              subst hw
              simp only [readG, if_true, ho]
              rfl
            have hA9 := At.last (s := S0) (z := [.str [], .nils, .str []]) (T := S0.toks) (Lp := S0.loops) (lo := S0.low)
            rw [← hb9] at hA9
            obtain ⟨S2, a2, w2⟩ := hA9.st3 (v0 := .str []) (v1 := .nils) (v2 := .str []) rfl rfl rfl rfl rfl rfl
            have m1 := w2.kp _ kk.alloc' hle9
            have m2 := w2.ot _ _ hne29 j2.alloc
            have m3 := w2.ot _ _ hne39 j3.alloc
            obtain ⟨S3, a3, w3⟩ := m3.st2 (v0 := .int .i64 (q.1 : Int)) (v1 := .int .i64 90) rfl rfl rfl rfl
            simp (maxSteps := 1000000) (disch := omega) only [r3, r4, eqnB, lenB, sub_n, hsl, b2s_by qcgz, hone, allocPV, ← hb9, a2, build2 Leaf_int Leaf_int, m2.stk, a3, qaaz, qabz, qacz, qadz, qaez, qaiz, qajz, qakz, qalz, qamz, qanz, evOp, qaoz, qapz, qaqz, qarz, qatz, qauz, qavz,
 ↓reduceIte, Nat.reduceEqDiff, List.map_cons, List.map_nil, Option.map_some, Option.map_none, qazz, qbaz, qbez, qbhz, qboz,
 qbtz, qbuz, beq_true, decide_true, decide_false,
 Bool.false_eq_true, qcjz, List.getElem?_cons_zero, List.getElem?_cons_succ, Int.reduceToNat, ne_eq, Int.reduceEq, not_false_eq_true]
            exact out K hKD _ _ q.1 (w3.kp _ m1 (by simp only [stL]; omega)) (w3.ot _ _ hne23 m2) w3.at_ hwE
          | some d =>
            rw [ho] at hone hS1
            simp only [oneV] at hone hS1
            rw [← hS1] at hone
            have hwO : W = preE (ds ++ [d]) (readG r) := by
              rw [kw]
              obtain ⟨a, m, w⟩ := q
              simp only at hw ho
              subst hw
              simp only [readG, if_true, ho]
              cases readG r with
              | ok l' => simp [preE]
              | error j => rfl
            obtain ⟨nb, nl, np⟩ := newS_bx (S := S0) (b := (d.2.1.map fV).isEmpty)
            have n0 := kk.newS (b := (d.2.1.map fV).isEmpty)
            have no := jo.newS (b := (d.2.1.map fV).isEmpty)
            rw [← hS1] at nb nl np n0 no
            have hb9' : b9 = S1.boxes.length := by rw [nb]; exact hb9
            have hA9 := At.last (s := S1) (z := [.str [], .nils, .str []]) (T := S1.toks) (Lp := S1.loops) (lo := S1.low)
            rw [← hb9'] at hA9
            obtain ⟨lf1, lf2⟩ := newSl_leaf (S := S0) (esz := 2) (xs := d.2.1.map fV)
            obtain ⟨S2, a2, w2⟩ := hA9.st3 (v0 := .str d.1) (v1 := newSl S0 2 (d.2.1.map fV)) (v2 := .str d.2.2) rfl lf1 rfl rfl (lf2 _) rfl
            have m1 := w2.kp _ n0.alloc' hle9
            have m2 := w2.ot _ _ hne29 (j2.bx nb).alloc
            have m3 := w2.ot _ _ hne39 (j3.bx nb).alloc
            have m6 := w2.ot _ _ hne69 (j6.bx nb).alloc
            have mi := w2.ot _ _ hnei9 (ji.bx nb).alloc
            have mo := no.tks (s' := S2) w2.tk
            have hld6 := m6.load (k := 0) (v := out') (r := []) rfl
            simp only [List.length_cons] at kr
            have hlt : ¬ (4096 : Int) ≤ ((ds.map dV).length : Int) := by simp only [List.length_map]; omega
            obtain ⟨v', s', q1, q2, q3, q4⟩ := m1.appV (u := dV d) (w := .undef) (v := out') (esz := 3) (xs := ds.map dV) mo (by simp [room]; omega)
            rcases q3 with ⟨_, q3⟩ | ⟨i, rfl, q3, q3'⟩
            · simp at q3
            obtain ⟨S3, a3, w3, w3l⟩ := (m6.bx q4).st1own (i := i) (esz := 3) (xs := ds.map dV ++ [dV d])
            simp (maxSteps := 1000000) (disch := omega) only [r6, eqnB, lenB, sub_n, hsl, b2s_by qcgz, hone, allocPV, ← hb9', a2, hld6, own_len mo, hlt, w2.at_.ld3, lit_line, freshT_eq, q1, a3, qaaz, qabz, qacz, qadz, qaez, qajz, qakz, qalz, qamz, qanz, evOp, qaoz, qapz, qaqz, qarz, qatz, qauz, qavz,
 ↓reduceIte, Nat.reduceEqDiff, List.map_cons, List.map_nil, Option.map_some, Option.map_none, qazz, qbdz, qbhz, qbsz, qbtz, qbuz, beq_true, decide_true, decide_false,
 Bool.false_eq_true, qcjz, List.getElem?_cons_zero, List.getElem?_cons_succ, Int.reduceToNat, ne_eq, not_true_eq_false]
            refine ⟨rec1, (w3.kp _ q2 (by simp only [stL]; omega)).lget, ?_⟩
            rw [hK]
            left
            refine ⟨rfl, ?_⟩
            rw [hP]
            have kz := (w3.kp _ q2 (by simp only [stL]; omega)).swap (r' := rec)
            refine ⟨.sl 3 (.own i) (ds.map dV ++ [dV d]), ds ++ [d], ?_, (w3.ot _ _ hne26 (m2.bx q4)).bx rfl, (w3.ot _ _ hne36 (m3.bx q4)).bx rfl, w3.at_.bx rfl, (w3.ot _ _ (by omega) (mi.bx q4)).bx rfl, .inr ⟨i, by simp, q3, by simp only; rw [w3.tk]; exact q3'⟩, fun h => by simp at h, .inr w3l, hwO, by simp; omega, fun q' hq' => kq q' (by simp [hq'])⟩
            rw [hrec1]
            simp only [if_true]
            have e5 : ({ status := 0, pend := Ex.normal, env := rec.env, params := rec.params, assign := rec.assign, body := rec.body } : LoopS) = rec := by rw [r5]
            rw [e5]
            exact kz
        obtain ⟨b, s', c1, c2⟩ := hmain
        rw [hK] at c2
        rcases c2 with ⟨rfl, c2⟩ | ⟨rfl, c2⟩
        · exact .inl ⟨s', c1, c2⟩
        · exact .inr ⟨s', c1, c2⟩)
      (by
        rw [hP]
        refine ⟨.nils, [], ?_, c2.bx rfl, c3.bx rfl, c6.bx rfl, ci.bx rfl, .inl ⟨rfl, rfl⟩, fun _ => rfl, .inl rfl, by rw [preE_nil]; exact hW, by simpa using hN, fun q hq => ?_⟩
        · exact ⟨kc.bx, by simp only [stL]; rw [hlp], by have := kc.bl; simpa [stL] using this, kc.tk⟩
        · exact hq' q hq)
    obtain ⟨X, x1, x2, x3, x4, x5⟩ := leave_unit (c := { Sc with loops := Sc.loops ++ [rec] }) (s1 := s1)
    rw [x1] at hcall
    have hcl := kc.lw
    have hcb := kc.bl
    have hct := kc.tl
    rw [hlp] at hcall ⊢
    have keptX : ∀ r, Kept (stL st [r]) s1 → Kept st { X with loops := X.loops.take st.loops.length } ∧ X.loops[st.loops.length]? = some r := by
      intro r k
      refine ⟨⟨?_, ?_, ?_, ?_⟩, ?_⟩
      · have := k.bx
        simp only [stL] at this
        simp only
        rw [x2, List.take_take, Nat.min_eq_left (by simpa using hcb)]; exact this
      · have := k.lp
        simp only [stL] at this
        simp only [x3, this, List.take_left]
      · have := k.lw
        simp only [stL] at this
        simp only at x4 ⊢
        rcases x4 with h | h <;> rw [h] <;> omega
      · have := k.tk
        simp only [stL] at this
        simp only at x5 ⊢
        rcases x5 with h | ⟨h, _⟩
        · rw [h]; exact this
        · rw [h, List.take_take, Nat.min_eq_left (by simpa using hct)]; exact this
      · rw [x3]; exact k.lget
    rcases hs1 with hs1 | hs1
    · rw [hD] at hs1
      obtain ⟨j, k1, k2, k3, kw⟩ := hs1
      obtain ⟨kx, kg⟩ := keptX _ k1
      refine ⟨_, X, _, hcall, kg, by show (2 : Nat) ≠ 1; decide, ?_⟩
      simp only [qbez]
      right
      refine ⟨by simp, ?_⟩
      exact finE _ _ j 90 kx (k2.take (n := Sc.boxes.length) (by omega) x2) (k3.take (n := Sc.boxes.length) (by omega) x2) (by rw [hrd, kw]) h2 h3
    · rw [hP] at hs1
      obtain ⟨out', ds, k1, k2, k3, k6, ki, ko, kn, kl, kw, -, -⟩ := hs1
      obtain ⟨kx, kg⟩ := keptX _ k1
      refine ⟨_, X, _, hcall, kg, by rw [r0]; decide, ?_⟩
      rw [r1]
      simp only [qbdz]
      left
      refine ⟨by first | rfl | trivial, ?_⟩
      rw [hJ]
      refine ⟨out', ds, kx, k2.take (n := Sc.boxes.length) (by omega) x2, k3.take (n := Sc.boxes.length) (by omega) x2, k6.take (n := Sc.boxes.length) (by omega) x2, ?_, kn, by rw [kw]; simp [preE, readG], h2, h3, h6⟩
      rcases ko with h | ⟨i, ho1, ho2, ho3⟩
      · exact .inl h
      · refine .inr ⟨i, ho1, ho2, ?_⟩
        rcases x5 with h | ⟨_, h⟩
        · simp only; rw [h]; exact ho3
        · rcases kl with kl | kl
          · rw [ho1] at kl; cases kl
          · simp only at h; omega
  · clear hA2 hA3 hA6 hk h0 h2 h3 h6
    rintro e S hj
    rw [hJ] at hj
    obtain ⟨out', ds, k1, k2, k3, k6, ko, kn, kw, h2, h3, h6⟩ := hj
    rw [kw] at hrd
    have hld := k6.load (k := 0) (v := out') (r := []) rfl
    obtain ⟨lf, li⟩ := own_leaf ko
    obtain ⟨S1, a1, w1⟩ := k2.st1 (off := 0) (v := out') lf (li _) (by simp)
    have m3 := w1.ot _ _ hne23.symm k3
    obtain ⟨S2, a2, w2⟩ := m3.st2 (v0 := .int .i64 0) (v1 := .int .i64 0) rfl rfl rfl rfl
    simp (maxSteps := 1000000) (disch := omega) only [h2, h3, h6, hld, build0i, a1, a2, qaaz, qabz, qaiz, qajz, qalz, evOp, qaoz, qarz, qatz, qauz, qavz,
 ↓reduceIte, Nat.reduceEqDiff, List.map_nil, Option.map_some, qazz]
    exact finO _ _ out' ds (w2.kp st (w1.kp st k1 (by omega)) (by omega)) (w2.ot _ _ hne23 w1.at_) w2.at_ ((ko.tks w1.tk).tks w2.tk) kn hrd h2 h3
end Go.Ab
/-
  A line's text is read by the document, walked.
-/
namespace Go.Ab
set_option maxRecDepth 20000
variable {st s : St} {e : Env}

end Go.Ab
/-
  Lines are read by the document, walked; equal lines.
-/
namespace Go.Ab
set_option maxRecDepth 20000
variable {st s : St} {e : Env}

theorem fa3_0 {a b c : PV} : faddrPV 0 (.cp [a, b, c]) = some (.cp [a, b, c]) := rfl
theorem fa3_1 {a b c : PV} : faddrPV 1 (.cp [a, b, c]) = some (.cp [b, c]) := rfl
theorem fa3_2 {a b c : PV} : faddrPV 2 (.cp [a, b, c]) = some (.cp [c]) := rfl
theorem ldcp {a : PV} {r : List PV} : loadPV st false 1 (.cp (a :: r)) = some a := rfl
theorem newSl_vs3 {S : St} {xs : List PV} : (newSl S 3 xs).vs 3 = some xs := by
  unfold newSl
  split
  · rename_i h; subst h; simp [PV.vs]
  · simp [PV.vs]
end Go.Ab
/-
  The sheet's values: escaped, unescaped; the program's and the document's answers.
-/
namespace Go.Ab
variable {st : St} {e : Env}

end Go.Ab
/-
  Equal lines; what must come of fixed calls.
-/
namespace Go.Ab
set_option maxRecDepth 20000
variable {st s : St} {e : Env}

theorem eqc_s {a b c d : Bs} : eqPV (.struct [.s, .s]) (.agg [.str a, .str b]) (.agg [.str c, .str d]) = some (decide (a = c ∧ b = d)) := by
  have h : eqPV (.struct [.s, .s]) (.agg [.str a, .str b]) (.agg [.str c, .str d]) = some ((a == c) && (b == d)) := by
    simp only [eqPV, eqCells, eqLeaf]
    cases (a == c) <;> cases (b == d) <;> rfl
  rw [h]; by_cases h1 : a = c <;> by_cases h2 : b = d <;> simp [h1, h2]
theorem neq_f {a b c d : Bs} : binPV .neq (.struct [.s, .s]) (.agg [.str a, .str b]) (.agg [.str c, .str d]) = some (.bool (decide (¬ (a = c ∧ b = d)))) := by
  show (eqPV _ _ _).map (fun b => PV.bool !b) = _
  rw [eqc_s, decide_not]; rfl
theorem list_ext0 {α : Type} {d : α} {a b : List α} (h1 : a.length = b.length) (h2 : ∀ j, j < a.length → a.getD j d = b.getD j d) : a = b := by
  apply List.ext_getElem h1
  intro i i1 i2
  have := h2 i i1
  simpa [List.getD, i1, i2] using this
def sameLB (As Cs : List Ln) : Bool := decide (As.map ofLn = Cs.map ofLn)
theorem same_len {As Cs : List Ln} (h : As.map ofLn = Cs.map ofLn) : As.length = Cs.length := by simpa using congrArg List.length h
theorem same_get {As Cs : List Ln} (h : As.map ofLn = Cs.map ofLn) (j : Nat) : ofLn (As.getD j L0) = ofLn (Cs.getD j L0) := by
  have h1 := congrArg (fun l => l.getD j (ofLn L0)) h
  simp only [List.getD, List.getElem?_map] at h1 ⊢
  cases hA : As[j]? <;> cases hC : Cs[j]? <;> simp_all
theorem same_of {As Cs : List Ln} (hl : As.length = Cs.length) (h : ∀ j, j < As.length → ofLn (As.getD j L0) = ofLn (Cs.getD j L0)) : As.map ofLn = Cs.map ofLn := by
  refine list_ext0 (d := ofLn L0) (by simpa using hl) fun j hj => ?_
  have i1 : j < As.length := by simpa using hj
  have i2 : j < Cs.length := by omega
  have := h j i1
  simpa [List.getD, i1, i2] using this

set_option maxHeartbeats 4000000 in
theorem SameL_spec {x y : PV} {As Cs : List Ln} (hx : x.vs 3 = some (As.map lV)) (hy : y.vs 3 = some (Cs.map lV)) (hA : ∀ L ∈ As, L.pv.vs 2 = some (L.ps.map fV) ∧ L.ps.length ≤ 1000000) (hC : ∀ L ∈ Cs, L.pv.vs 2 = some (L.ps.map fV)) (hl : As.length ≤ 1000000) :
    call prog (.fn 92 []) [x, y] st = some (.bool (sameLB As Cs), st) := by
  refine call_of_W prog_92 ?_
  unfold F_posthornref10_Same; dsimp only
  generalize hQ1 : endQ st _ _ = Q0
  have hxl := len_vs hx
  have hyl := len_vs hy
  rw [List.length_map] at hxl hyl
  have no : ∀ (E : Env) (S : St), Kept st S → As.map ofLn ≠ Cs.map ofLn → E 4 = .bool false → Q0 .ret E S := fun E S k h h4 => by
    rw [← hQ1, qblz]
    exact retB h4 k (by simp [sameLB, h])
  have yes : ∀ (E : Env) (S : St), Kept st S → As.map ofLn = Cs.map ofLn → E 4 = .bool true → Q0 .ret E S := fun E S k h h4 => by
    rw [← hQ1, qblz]
    exact retB h4 k (by simp [sameLB, h])
  by_cases hlen : As.length = Cs.length
  · have e1 : ((As.length : Int) = (Cs.length : Int)) := by omega
    simp (maxSteps := 1000000) (disch := omega) only [hxl, hyl, hlen, qaaz, qabz, qacz, qadz, qaez, qajz, qalz, evOp, qaoz, qapz, qarz, qatz, qavz,
 ↓reduceIte, Nat.reduceEqDiff, List.append_nil, qawz, qaxz, Option.map_some, qazz, qbhz, qbuz, decide_false,
 Bool.false_eq_true, reduceCtorEq, ne_eq, not_true_eq_false]
    obtain ⟨I, hI⟩ : ∃ I : Nat → Env → St → Prop, I = fun k E S => ∃ i : Nat, k = As.length - i ∧ i ≤ As.length ∧ Kept st S ∧ (∀ j, j < i → ofLn (As.getD j L0) = ofLn (Cs.getD j L0)) ∧ E 0 = x ∧ E 1 = y ∧ E 5 = .int .i64 (i : Int) := ⟨_, rfl⟩
    refine W_loop I ?_ (n := As.length) (by
      rw [hI]; exact ⟨0, rfl, by omega, Kept.start, fun j hj => by omega, rfl, rfl, rfl⟩)
    intro k E S hh
    rw [hI] at hh
    obtain ⟨i, rfl, hi, hk, hall, h0, h1, h5⟩ := hh
    by_cases hlt : i < As.length
    · have hltC : i < Cs.length := by omega
      obtain ⟨A, hAe⟩ : ∃ A, A = As.getD i L0 := ⟨_, rfl⟩
      obtain ⟨C, hCe⟩ : ∃ C, C = Cs.getD i L0 := ⟨_, rfl⟩
      have hAm : A ∈ As := by rw [hAe]; simp [List.getD, hlt]
      have hCm : C ∈ Cs := by rw [hCe]; simp [List.getD, hltC]
      have hia := iaddr_L (k := .i64) (c := (i : Int)) hx (by omega) (by rw [Int.toNat_natCast]; exact hlt)
      have hic := iaddr_L (k := .i64) (c := (i : Int)) hy (by omega) (by rw [Int.toNat_natCast]; exact hltC)
      rw [Int.toNat_natCast, ← hAe] at hia
      rw [Int.toNat_natCast, ← hCe] at hic
      obtain ⟨hAv, hApl⟩ := hA A hAm
      have hCv := hC C hCm
      have hAl := len_vs hAv
      have hCl := len_vs hCv
      rw [List.length_map] at hAl hCl
      have dif : ofLn A ≠ ofLn C → As.map ofLn ≠ Cs.map ofLn := fun h q => h (by rw [hAe, hCe]; exact same_get q i)
      by_cases hn : A.n = C.n
      · by_cases hv : A.v = C.v
        · by_cases hp : A.ps.length = C.ps.length
          · have ep : ((A.ps.length : Int) = (C.ps.length : Int)) := by omega
            simp (maxSteps := 1000000) (disch := omega) only [h0, h1, h5, hxl, hlt, hia, hic, fa3_0, fa3_1, fa3_2, ldcp, eq_true hn, eq_true hv, hAl, hCl, hp, qaaz, qabz, qacz, qadz, qaez, qajz, qakz, qalz, qamz, qanz, evOp, qaoz, qapz, qarz, qatz, qavz,
 ↓reduceIte, Nat.reduceEqDiff, Option.map_some, qazz, qbhz, qbpz, qbuz, qccz, qciz, beq_false, decide_true, decide_false,
 Int.ofNat_lt, Bool.false_eq_true, reduceCtorEq, Bool.not_false, ne_eq, not_true_eq_false]
            obtain ⟨II, hII⟩ : ∃ II : Nat → Env → St → Prop, II = fun z E S => ∃ k : Nat, z = A.ps.length - k ∧ k ≤ A.ps.length ∧ Kept st S ∧ (∀ j, j < k → A.ps.getD j ([], []) = C.ps.getD j ([], [])) ∧ E 0 = x ∧ E 1 = y ∧ E 5 = .int .i64 (i : Int) ∧ E 6 = .int .i64 (k : Int) := ⟨_, rfl⟩
            refine W_loop II ?_ (n := A.ps.length) (by
              rw [hII]; exact ⟨0, rfl, by omega, hk, fun j hj => by omega, h0, h1, h5, rfl⟩)
            clear hk h0 h1 h5
            intro z E S hh
            rw [hII] at hh
            obtain ⟨k, rfl, hki, hk, hdif, h0, h1, h5, h6⟩ := hh
            by_cases hkt : k < A.ps.length
            · obtain ⟨f, hf⟩ : ∃ f, f = A.ps.getD k ([], []) := ⟨_, rfl⟩
              obtain ⟨g, hg⟩ : ∃ g, g = C.ps.getD k ([], []) := ⟨_, rfl⟩
              have hif := iaddr_f (k := .i64) (c := (k : Int)) hAv (by omega) (by rw [Int.toNat_natCast]; exact hkt)
              have hig := iaddr_f (k := .i64) (c := (k : Int)) hCv (by omega) (by rw [Int.toNat_natCast]; omega)
              rw [Int.toNat_natCast, ← hf] at hif
              rw [Int.toNat_natCast, ← hg] at hig
              by_cases hfg : f.1 = g.1 ∧ f.2 = g.2
              · simp (maxSteps := 1000000) (disch := omega) only [h0, h1, h5, h6, hia, hic, fa3_1, ldcp, hAl, hkt, hif, hig, load_f2, neq_f, hfg, add_n, loopQ_normal, qaaz, qabz, qacz, qadz, qaez, qajz, qalz, evOp, qaoz, qapz, qarz, qatz, qavz,
 ↓reduceIte, Nat.reduceEqDiff, Option.map_some, qazz, qbdz, qbhz, qbpz, decide_true, decide_false,
 Int.ofNat_lt, Bool.false_eq_true, Int.reduceToNat, and_true, reduceCtorEq, not_true_eq_false]
                refine ⟨A.ps.length - (k + 1), by omega, ?_⟩
                rw [hII]
                refine ⟨k + 1, rfl, by omega, hk, fun j hj => ?_, h0, h1, h5, rfl⟩
                by_cases hjk : j = k
                · subst hjk; rw [← hf, ← hg]; exact Prod.ext hfg.1 hfg.2
                · exact hdif j (by omega)
              · simp (maxSteps := 1000000) (disch := omega) only [h0, h1, h5, h6, hia, hic, fa3_1, ldcp, hAl, hkt, hif, hig, load_f2, neq_f, hfg, qaaz, qabz, qacz, qadz, qaez, qaiz, qajz, qalz, evOp, qaoz, qapz, qarz, qatz, qavz,
 ↓reduceIte, Nat.reduceEqDiff, Option.map_some, qazz, qbaz, qbez, qbhz, qbiz, qbpz, decide_true, Int.ofNat_lt, reduceCtorEq, not_false_eq_true]
                exact no _ _ hk (dif fun q => hfg (by
                  have q2 : A.ps = C.ps := congrArg (fun z : LnD => z.2.1) q
                  rw [hf, hg, q2]; exact ⟨rfl, rfl⟩)) rfl
            · obtain rfl : k = A.ps.length := by omega
              simp (maxSteps := 1000000) (disch := omega) only [h0, h5, h6, hia, fa3_1, ldcp, hAl, hkt, add_n, loopQ_normal, qaaz, qabz, qacz, qagz, qajz, qalz, evOp, qaoz, qapz, qarz, qatz, qavz,
 ↓reduceIte, Nat.reduceEqDiff, Option.map_some, qazz, qbbz, qbdz, qbfz, qbhz, qbjz, qbpz, decide_false,
 Int.ofNat_lt, Bool.false_eq_true, Int.reduceToNat, reduceCtorEq]
              refine ⟨As.length - (i + 1), by omega, ?_⟩
              rw [hI]
              refine ⟨i + 1, rfl, by omega, hk, fun j hj => ?_, h0, h1, rfl⟩
              by_cases hji : j = i
              · subst hji
                rw [← hAe, ← hCe]
                have hps : A.ps = C.ps := list_ext0 hp hdif
                unfold ofLn; rw [hn, hv, hps]
              · exact hall j (by omega)
          · have ep : ¬ ((A.ps.length : Int) = (C.ps.length : Int)) := by omega
            simp (maxSteps := 1000000) (disch := omega) only [h0, h1, h5, hxl, hlt, hia, hic, fa3_0, fa3_1, fa3_2, ldcp, eq_true hn, eq_true hv, hAl, hCl, hp, qaaz, qabz, qacz, qadz, qaez, qaiz, qajz, qakz, qalz, qamz, qanz, evOp, qaoz, qapz, qarz, qatz, qavz,
 ↓reduceIte, Nat.reduceEqDiff, Option.map_some, qazz, qbaz, qbez, qbhz, qbiz, qbpz, qbuz, qccz, qciz, beq_false, decide_true, decide_false,
 Int.ofNat_lt, Int.natCast_inj, Bool.false_eq_true, reduceCtorEq, Bool.not_false, ne_eq, not_true_eq_false, not_false_eq_true]
            exact no _ _ hk (dif fun q => hp (by rw [show A.ps = C.ps from congrArg (fun z : LnD => z.2.1) q])) rfl
        · simp (maxSteps := 1000000) (disch := omega) only [h0, h1, h5, hxl, hlt, hia, hic, fa3_0, fa3_2, ldcp, eq_true hn, hv, qaaz, qabz, qacz, qadz, qaez, qaiz, qajz, qakz, qalz, qamz, qanz, evOp, qaoz, qapz, qarz, qatz, qavz,
 ↓reduceIte, Nat.reduceEqDiff, Option.map_some, qazz, qbaz, qbez, qbhz, qbiz, qbpz, qccz, qciz, beq_false, decide_true, decide_false,
 Int.ofNat_lt, Bool.false_eq_true, reduceCtorEq, Bool.not_true, Bool.not_false, ne_eq, not_true_eq_false, not_false_eq_true]
          exact no _ _ hk (dif fun q => hv (congrArg (fun z : LnD => z.2.2) q)) rfl
      · simp (maxSteps := 1000000) (disch := omega) only [h0, h1, h5, hxl, hlt, hia, hic, fa3_0, ldcp, hn, qaaz, qabz, qacz, qadz, qaez, qaiz, qajz, qakz, qalz, qamz, qanz, evOp, qaoz, qapz, qarz, qatz, qavz,
 ↓reduceIte, Nat.reduceEqDiff, Option.map_some, qazz, qbaz, qbez, qbhz, qbiz, qbpz, qccz, beq_false, decide_true, Int.ofNat_lt, Bool.false_eq_true, reduceCtorEq, Bool.not_true, ne_eq, not_false_eq_true]
        exact no _ _ hk (dif fun q => hn (congrArg (fun z : LnD => z.1) q)) rfl
    · obtain rfl : i = As.length := by omega
      simp (maxSteps := 1000000) (disch := omega) only [h0, h5, hxl, hlt, qaaz, qabz, qacz, qagz, qaiz, qajz, qalz, evOp, qaoz, qapz, qarz, qatz, qavz,
 ↓reduceIte, Nat.reduceEqDiff, Option.map_some, qazz, qbbz, qbfz, qbhz, qbjz, qbpz, decide_false,
 Int.ofNat_lt, Bool.false_eq_true, reduceCtorEq]
      exact yes _ _ hk (same_of hlen hall) rfl
  · have e1 : ¬ ((As.length : Int) = (Cs.length : Int)) := by omega
    simp (maxSteps := 1000000) (disch := omega) only [hxl, hyl, hlen, qaaz, qabz, qacz, qaiz, qajz, qalz, evOp, qaoz, qapz, qarz, qatz, qavz,
 ↓reduceIte, Nat.reduceEqDiff, List.append_nil, qawz, qaxz, Option.map_some, qazz, qbaz, qbhz, qbuz, decide_true, Int.natCast_inj, reduceCtorEq, ne_eq, not_false_eq_true]
    exact no _ _ Kept.start (fun h => hlen (same_len h)) rfl

end Go.Ab
/-
  What the laws of lines' reading ask: plain.
-/
namespace Go.Ab
set_option maxRecDepth 20000
variable {st s : St} {e : Env}

theorem segs_half : ∀ (k : Nat) (l acc : Bs), l.length ≤ k → 2 * (segs l acc).length ≤ acc.length + l.length + 1 := by
  intro k
  induction k with
  | zero =>
    intro l acc h
    have : l = [] := List.eq_nil_of_length_eq_zero (by omega)
    subst this
    simp only [segs]
    split
    · simp
    · rename_i hne
      have : 1 ≤ acc.length := List.length_pos_iff.2 hne
      simp; omega
  | succ k ih =>
    intro l acc h
    match l with
    | [] =>
      simp only [segs]
      split
      · simp
      · rename_i hne
        have : 1 ≤ acc.length := List.length_pos_iff.2 hne
        simp; omega
    | [c] => simp [segs]
    | c :: d :: r =>
      simp only [segs]
      split
      · have := ih r [] (by simp at h; omega)
        simp at this ⊢; omega
      · have := ih (d :: r) (acc ++ [c]) (by simp at h ⊢; omega)
        simp at this ⊢; omega
theorem place_len2 : ∀ (p : List (Bs × Bool)) (a : Nat), (place a p).length = p.length := by
  intro p
  induction p with
  | nil => intro a; rfl
  | cons z r ih => intro a; simp [place, ih]
theorem refLines_half {l : Bs} : 2 * (refLines l).length ≤ l.length + 1 := by
  have := segs_half l.length l [] (Nat.le_refl _)
  unfold refLines
  rw [place_len2]
  simpa using this
theorem place_at : ∀ (k : Nat) (l acc : Bs) (a : Nat), l.length ≤ k → ∀ q ∈ place a (segs l acc), q.1 + q.2.1.length ≤ a + acc.length + l.length := by
  intro k
  induction k with
  | zero =>
    intro l acc a h q hq
    have : l = [] := List.eq_nil_of_length_eq_zero (by omega)
    subst this
    simp only [segs] at hq
    split at hq
    · simp [place] at hq
    · simp only [place, List.mem_singleton] at hq; subst hq; simp
  | succ k ih =>
    intro l acc a h q hq
    match l with
    | [] =>
      simp only [segs] at hq
      split at hq
      · simp [place] at hq
      · simp only [place, List.mem_singleton] at hq; subst hq; simp
    | [c] => simp only [segs, place, List.mem_singleton] at hq; subst hq; simp; omega
    | c :: d :: r =>
      simp only [segs] at hq
      split at hq
      · simp only [place, List.mem_cons] at hq
        rcases hq with rfl | hq
        · simp
        · have := ih r [] _ (by simp at h; omega) q hq
          simp at this ⊢; omega
      · have := ih (d :: r) (acc ++ [c]) _ (by simp at h ⊢; omega) q hq
        simp at this ⊢; omega
theorem readG_err : ∀ (q : List (Nat × Bs × Bool)) (j : Nat), readG q = .error j → ∃ z ∈ q, z.1 = j := by
  intro q
  induction q with
  | nil => intro j h; cases h
  | cons z r ih =>
    intro j h
    obtain ⟨a, x, w⟩ := z
    simp only [readG] at h
    cases hh : (if w = true then oneL x else none) with
    | none => rw [hh] at h; cases h; exact ⟨(_, x, w), List.mem_cons_self .., rfl⟩
    | some d =>
      rw [hh] at h
      simp only at h
      cases hr : readG r with
      | ok l => rw [hr] at h; cases h
      | error i =>
        rw [hr] at h
        cases h
        obtain ⟨z, hz, h1⟩ := ih _ hr
        exact ⟨z, List.mem_cons_of_mem _ hz, h1⟩
theorem pts_err : ∀ (k : Nat) (l : Bs) (i j : Nat), ptsOf k l i = .error j → j ≤ l.length := by
  intro k
  induction k with
  | zero => intro l i j h; cases h
  | succ k ih =>
    intro l i j h
    simp only [ptsOf] at h
    split at h
    · rename_i hi
      cases hn : nextOf (l.drop i) with
      | none => rw [hn] at h; cases h; omega
      | some pn =>
        obtain ⟨p, n⟩ := pn
        rw [hn] at h
        simp only at h
        cases hr : ptsOf k l (i + n) with
        | ok r => rw [hr] at h; cases h
        | error m => rw [hr] at h; cases h; exact ih _ _ _ hr
    · cases h
theorem readL_err {l : Bs} {j : Nat} {c : Int} (h : readL l = .error (j, c)) : j ≤ l.length ∧ c ≠ 0 := by
  have hu := unfV_len _ l (Nat.le_refl _)
  unfold readL at h
  cases hp : ptsOf ((unfV l).length + 1) (unfV l) 0 with
  | error i =>
    rw [hp] at h; cases h
    exact ⟨Nat.le_trans (pts_err _ _ _ _ hp) hu, by decide⟩
  | ok r =>
    rw [hp] at h
    simp only at h
    cases hg : readG (refLines (unfV l)) with
    | ok ds => rw [hg] at h; cases h
    | error i =>
      rw [hg] at h; cases h
      obtain ⟨z, hz, rfl⟩ := readG_err _ _ hg
      have := place_at _ _ _ 0 (Nat.le_refl _) z hz
      simp only [List.length_nil] at this
      exact ⟨by omega, by decide⟩
theorem readL_ok {l : Bs} {ds : List LnD} (h : readL l = .ok ds) : (∀ d ∈ ds, rtB (toLn d) = true) ∧ (ds.map fun d => (textOfL (toLn d)).length + 2).sum ≤ l.length ∧ 2 * ds.length ≤ l.length + 1 := by
  have hu := unfV_len _ l (Nat.le_refl _)
  unfold readL at h
  cases hp : ptsOf ((unfV l).length + 1) (unfV l) 0 with
  | error i => rw [hp] at h; cases h
  | ok r =>
    rw [hp] at h
    simp only at h
    cases hg : readG (refLines (unfV l)) with
    | error i => rw [hg] at h; cases h
    | ok ds' =>
      rw [hg] at h; cases h
      obtain ⟨h1, h2⟩ := refLines_len (l := unfV l)
      obtain ⟨h3, h4, h5⟩ := h2 _ hg
      have h6 := refLines_half (l := unfV l)
      exact ⟨h3, by omega, by omega⟩

theorem toLn_vs {d : LnD} : (toLn d).pv.vs 2 = some ((toLn d).ps.map fV) := by
  obtain ⟨n, ps, v⟩ := d
  cases ps with
  | nil => simp [toLn, PV.vs]
  | cons p r => simp [toLn, PV.vs]
theorem nm_len {l : Bs} (h : nmB l = true) : l.length ≤ 64 := by
  simp only [nmB, Bool.and_eq_true, decide_eq_true_eq] at h; exact h.1.2
theorem toLn_ok {d : LnD} (h : rtB (toLn d) = true) : (toLn d).ok := by
  have hp := rt_of h
  have h1 := nm_len hp.1
  have h2 := hp.2.2.1
  have h3 := hp.2.2.2.1
  refine ⟨toLn_vs, ?_, ?_, ?_, by omega, by omega, by omega, fun p hpm => ?_⟩
  · intro n
    unfold toLn
    split <;> rfl
  · unfold toLn
    split <;> rfl
  · unfold toLn
    split <;> rfl
  · have := par_mem hp p hpm
    have h4 := nm_len this.1
    have h5 := this.2.2.1
    omega
theorem dV_map (ds : List LnD) : ds.map dV = (ds.map toLn).map lV := by rw [List.map_map]; rfl
theorem ofLn_map (ds : List LnD) : (ds.map toLn).map ofLn = ds := by
  rw [List.map_map]
  conv => rhs; rw [← List.map_id ds]
  rfl

theorem readV_parts (r : Except (Nat × Int) (List LnD)) : ∃ (j c : Int) (ds : List LnD), (∀ S : St, ∃ v S', readV S r = (.tup [v, .agg [.int .i64 j, .int .i64 c]], S') ∧ v.vs 3 = some ((ds.map toLn).map lV) ∧ (∀ st, Kept st S → Kept st S') ∧ S'.boxes = S.boxes) ∧
    (match r with | .error (j', c') => j = (j' : Int) ∧ c = c' ∧ ds = [] | .ok ds' => j = 0 ∧ c = 0 ∧ ds = ds') := by
  cases r with
  | error q =>
    obtain ⟨j, c⟩ := q
    exact ⟨j, c, [], fun S => ⟨.nils, S, rfl, by simp [PV.vs], fun _ h => h, rfl⟩, rfl, rfl, rfl⟩
  | ok ds =>
    exact ⟨0, 0, ds, fun S => ⟨newSl S 3 (ds.map dV), newS S (ds.map dV).isEmpty, rfl, by rw [← dV_map]; exact newSl_vs3, fun _ h => h.newS, newS_bx.1⟩, rfl, rfl, rfl⟩
end Go.Ab
/-
  Trees: plain.
-/
namespace Go.Ab

inductive TD where
  | mk (n : Bs) (ls : List LnD) (cs : List TD)
def T0 : TD := .mk [] [] []
def TD.n : TD → Bs
  | .mk n _ _ => n
def TD.ls : TD → List LnD
  | .mk _ ls _ => ls
def TD.cs : TD → List TD
  | .mk _ _ cs => cs
theorem TD.ind {P : TD → Prop} (h : ∀ n ls cs, (∀ c ∈ cs, P c) → P (.mk n ls cs)) : ∀ T, P T
  | .mk n ls cs => h n ls cs (fun c hc => TD.ind h c)
termination_by T => SizeOf.sizeOf T
decreasing_by
  have := List.sizeOf_lt_of_mem hc
  simp; omega

mutual
def TD.cnt : TD → Nat
  | .mk _ _ cs => 1 + cntL cs
def cntL : List TD → Nat
  | [] => 0
  | c :: r => c.cnt + cntL r
end
mutual
def TD.lns : TD → Nat
  | .mk _ ls cs => ls.length + lnsL cs
def lnsL : List TD → Nat
  | [] => 0
  | c :: r => c.lns + lnsL r
end
mutual
def TD.deep : TD → Nat
  | .mk _ _ cs => 1 + deepL cs
def deepL : List TD → Nat
  | [] => 0
  | c :: r => max c.deep (deepL r)
end
def begS : Bs := [66, 69, 71, 73, 78]
def endS : Bs := [69, 78, 68]
noncomputable def lineB (d : LnD) : Bool := rtB (toLn d) && !decide (d.1 = begS) && !decide (d.1 = endS)
mutual
noncomputable def TD.fit : TD → Bool
  | .mk n ls cs => nmB n && ls.all lineB && fitL cs
noncomputable def fitL : List TD → Bool
  | [] => true
  | c :: r => c.fit && fitL r
end
noncomputable def rightD (T : TD) : Bool := decide (T.cnt ≤ 64) && decide (T.lns ≤ 8192) && decide (T.deep ≤ 8) && T.fit
theorem cntL_app {a b : List TD} : cntL (a ++ b) = cntL a + cntL b := by
  induction a with
  | nil => simp [cntL]
  | cons c r ih => simp only [List.cons_append, cntL, ih]; omega
theorem lnsL_app {a b : List TD} : lnsL (a ++ b) = lnsL a + lnsL b := by
  induction a with
  | nil => simp [lnsL]
  | cons c r ih => simp only [List.cons_append, lnsL, ih]; omega
theorem deepL_app {a b : List TD} : deepL (a ++ b) = max (deepL a) (deepL b) := by
  induction a with
  | nil => simp [deepL]
  | cons c r ih => simp only [List.cons_append, deepL, ih]; omega
theorem fitL_all {a : List TD} : fitL a = a.all TD.fit := by
  induction a with
  | nil => simp [fitL]
  | cons c r ih => simp only [fitL, ih, List.all_cons]
theorem take_snoc {α : Type} {d : α} {l : List α} {i : Nat} (h : i < l.length) : l.take (i + 1) = l.take i ++ [l.getD i d] := by
  rw [List.take_succ_eq_append_getElem h]; simp [List.getD, h]
theorem getD_mem {α : Type} {d : α} {l : List α} {i : Nat} (h : i < l.length) : l.getD i d ∈ l := by simp [List.getD, h]

def Ln.good (L : Ln) : Prop := L.pv.vs 2 = some (L.ps.map fV) ∧ tokOf L.pv = none
def okD (d : LnD) : Prop := d.1.length ≤ 300 ∧ d.2.2.length ≤ 5000 ∧ d.2.1.length ≤ 30 ∧ ∀ p ∈ d.2.1, p.1.length + p.2.length ≤ 500
theorem vs_leaf {v : PV} {e : Nat} {xs : List PV} (h : v.vs e = some xs) : leafOk v = true ∧ ∀ n, v.inB n = true := by
  rcases vs_cases h with ⟨rfl, _⟩ | ⟨t, rfl⟩ <;> exact ⟨rfl, fun _ => rfl⟩
theorem Ln.good.ok {L : Ln} (h : L.good) (hb : okD (ofLn L)) : L.ok := ⟨h.1, (vs_leaf h.1).2, (vs_leaf h.1).1, h.2, hb.1, hb.2.1, hb.2.2.1, hb.2.2.2⟩
theorem toLn_good {d : LnD} : (toLn d).good := ⟨toLn_vs, by unfold toLn; split <;> rfl⟩
theorem rt_okD {d : LnD} (h : rtB (toLn d) = true) : okD d := by
  have := toLn_ok h
  exact ⟨this.l1, this.l2, this.l3, this.l4⟩
inductive IsT : TD → PV → Prop
  | mk {n : Bs} {ls : List LnD} {cs : List TD} {lv cv : PV} {Ls : List Ln} {ys : List PV} (h1 : lv.vs 3 = some (Ls.map lV)) (h2 : Ls.map ofLn = ls) (h3 : ∀ L ∈ Ls, L.good) (h5 : cv.vs 3 = some ys) (h6 : ys.length = cs.length) (h7 : ∀ i, i < cs.length → IsT (cs.getD i T0) (ys.getD i .undef)) : IsT (.mk n ls cs) (.agg [.str n, lv, cv])
inductive TD.sm : TD → Prop
  | mk {n : Bs} {ls : List LnD} {cs : List TD} (h1 : n.length ≤ 5000) (h2 : ls.length ≤ 100000) (h3 : ∀ d ∈ ls, okD d) (h4 : cs.length ≤ 100000) (h5 : ∀ c ∈ cs, c.sm) : TD.sm (.mk n ls cs)
theorem IsT.inv {n : Bs} {ls : List LnD} {cs : List TD} {v : PV} (h : IsT (.mk n ls cs) v) : ∃ (lv cv : PV) (Ls : List Ln) (ys : List PV), v = .agg [.str n, lv, cv] ∧ lv.vs 3 = some (Ls.map lV) ∧ Ls.map ofLn = ls ∧ (∀ L ∈ Ls, L.good) ∧ cv.vs 3 = some ys ∧ ys.length = cs.length ∧ ∀ i, i < cs.length → IsT (cs.getD i T0) (ys.getD i .undef) := by
  cases h with
  | mk h1 h2 h3 h5 h6 h7 => exact ⟨_, _, _, _, rfl, h1, h2, h3, h5, h6, h7⟩
theorem IsT.agg {T : TD} {v : PV} (h : IsT T v) : ∃ lv cv, v = .agg [.str T.n, lv, cv] ∧ (leafOk lv = true ∧ ∀ n, lv.inB n = true) ∧ (leafOk cv = true ∧ ∀ n, cv.inB n = true) := by
  obtain ⟨n, ls, cs⟩ := T
  obtain ⟨lv, cv, Ls, ys, rfl, h1, h2, h3, h5, -, -⟩ := h.inv
  exact ⟨lv, cv, rfl, vs_leaf h1, vs_leaf h5⟩
theorem iaddr_T {x : PV} {ys : List PV} {i : Nat} {T : TD} (h : x.vs 3 = some ys) (hi : i < ys.length) (hT : IsT T (ys.getD i .undef)) : ∃ lv cv, ys.getD i .undef = .agg [.str T.n, lv, cv] ∧ iaddrPV 3 x (.int .i64 (i : Int)) = some (.cp [.str T.n, lv, cv]) ∧ IsT T (.agg [.str T.n, lv, cv]) ∧ (leafOk lv = true ∧ ∀ n, lv.inB n = true) ∧ (leafOk cv = true ∧ ∀ n, cv.inB n = true) := by
  obtain ⟨lv, cv, h1, h2, h3⟩ := hT.agg
  refine ⟨lv, cv, h1, ?_, by rw [← h1]; exact hT, h2, h3⟩
  rw [iaddr_vs h (by omega) (by rw [Int.toNat_natCast]; exact hi), Int.toNat_natCast, h1]; rfl

mutual
def TD.lines : TD → List LnD
  | .mk n ls cs => (begS, [], n) :: (ls ++ linesL cs) ++ [(endS, [], n)]
def linesL : List TD → List LnD
  | [] => []
  | c :: r => c.lines ++ linesL r
end
theorem linesL_app {a b : List TD} : linesL (a ++ b) = linesL a ++ linesL b := by
  induction a with
  | nil => simp [linesL]
  | cons c r ih => simp only [List.cons_append, linesL, ih, List.append_assoc]

mutual
def readF : Nat → List LnD → Nat → Option (TD × List LnD)
  | 0, _, _ => none
  | f + 1, l, k => if 8 < k then none else match l with
    | [] => none
    | (n, ps, v) :: r => if n = begS ∧ ps = [] then bodyF f (upOf v) [] [] r k else none
def bodyF : Nat → Bs → List LnD → List TD → List LnD → Nat → Option (TD × List LnD)
  | 0, _, _, _, _, _ => none
  | f + 1, nm, ls, cs, l, k => match l with
    | [] => none
    | (n, ps, v) :: r => if n = begS then (match readF f ((n, ps, v) :: r) (k + 1) with
        | none => none
        | some (d, rest) => bodyF f nm ls (cs ++ [d]) rest k)
      else if n = endS then (if ps = [] ∧ upOf v = nm then some (.mk nm ls cs, r) else none)
      else bodyF f nm (ls ++ [(n, ps, v)]) cs r k
end
theorem F_len : ∀ f, (∀ l k d rest, readF f l k = some (d, rest) → rest.length < l.length) ∧ (∀ nm ls cs l k d rest, bodyF f nm ls cs l k = some (d, rest) → rest.length < l.length) := by
  intro f
  induction f with
  | zero => exact ⟨fun l k d rest h => by simp [readF] at h, fun nm ls cs l k d rest h => by simp [bodyF] at h⟩
  | succ f ih =>
    obtain ⟨ih1, ih2⟩ := ih
    constructor
    · intro l k d rest h
      simp only [readF] at h
      split at h
      · cases h
      · match l, h with
        | (n, ps, v) :: r, h =>
          simp only at h
          split at h
          · have := ih2 _ _ _ _ _ _ _ h; simp; omega
          · cases h
    · intro nm ls cs l k d rest h
      match l, h with
      | [], h => simp [bodyF] at h
      | (n, ps, v) :: r, h =>
        simp only [bodyF] at h
        split at h
        · cases hr : readF f ((n, ps, v) :: r) (k + 1) with
          | none => rw [hr] at h; cases h
          | some q =>
            obtain ⟨d', rest'⟩ := q
            rw [hr] at h
            have h1 := ih1 _ _ _ _ hr
            have h2 := ih2 _ _ _ _ _ _ _ h
            omega
        · split at h
          · split at h
            · cases h; simp
            · cases h
          · have := ih2 _ _ _ _ _ _ _ h; simp; omega
theorem F_fuel : ∀ N, (∀ f g l k, l.length ≤ N → 2 * l.length ≤ f → 2 * l.length ≤ g → readF f l k = readF g l k) ∧ (∀ f g nm ls cs l k, l.length ≤ N → 2 * l.length + 1 ≤ f → 2 * l.length + 1 ≤ g → bodyF f nm ls cs l k = bodyF g nm ls cs l k) := by
  have nil1 : ∀ f k, readF f [] k = none := fun f k => by cases f <;> simp [readF]
  have nil2 : ∀ f nm ls cs k, bodyF f nm ls cs [] k = none := fun f nm ls cs k => by cases f <;> simp [bodyF]
  intro N
  induction N with
  | zero =>
    refine ⟨fun f g l k h _ _ => ?_, fun f g nm ls cs l k h _ _ => ?_⟩
    · have : l = [] := List.eq_nil_of_length_eq_zero (by omega)
      subst this; rw [nil1, nil1]
    · have : l = [] := List.eq_nil_of_length_eq_zero (by omega)
      subst this; rw [nil2, nil2]
  | succ N ih =>
    obtain ⟨ih1, ih2⟩ := ih
    have st1 : ∀ f g l k, l.length ≤ N + 1 → 2 * l.length ≤ f → 2 * l.length ≤ g → readF f l k = readF g l k := by
      intro f g l k h hf hg
      match l with
      | [] => rw [nil1, nil1]
      | (n, ps, v) :: r =>
        simp only [List.length_cons] at h hf hg
        obtain ⟨f', rfl⟩ : ∃ f', f = f' + 1 := ⟨f - 1, by omega⟩
        obtain ⟨g', rfl⟩ : ∃ g', g = g' + 1 := ⟨g - 1, by omega⟩
        simp only [readF]
        split
        · rfl
        · split
          · exact ih2 _ _ _ _ _ _ _ (by omega) (by omega) (by omega)
          · rfl
    refine ⟨st1, ?_⟩
    intro f g nm ls cs l k h hf hg
    match l with
    | [] => rw [nil2, nil2]
    | (n, ps, v) :: r =>
      simp only [List.length_cons] at h hf hg
      obtain ⟨f', rfl⟩ : ∃ f', f = f' + 1 := ⟨f - 1, by omega⟩
      obtain ⟨g', rfl⟩ : ∃ g', g = g' + 1 := ⟨g - 1, by omega⟩
      simp only [bodyF]
      split
      · rw [st1 f' g' ((n, ps, v) :: r) (k + 1) (by simp; omega) (by simp; omega) (by simp; omega)]
        cases hr : readF g' ((n, ps, v) :: r) (k + 1) with
        | none => rfl
        | some q =>
          obtain ⟨d, rest⟩ := q
          have := (F_len g').1 _ _ _ _ hr
          simp only [List.length_cons] at this
          exact ih2 _ _ _ _ _ _ _ (by omega) (by omega) (by omega)
      · split
        · rfl
        · exact ih2 _ _ _ _ _ _ _ (by omega) (by omega) (by omega)
def readT (l : List LnD) (k : Nat) : Option (TD × List LnD) := readF (2 * l.length) l k
def bodyT (nm : Bs) (ls : List LnD) (cs : List TD) (l : List LnD) (k : Nat) : Option (TD × List LnD) := bodyF (2 * l.length + 1) nm ls cs l k
theorem readT_nil {k : Nat} : readT [] k = none := rfl
theorem readT_deep {l : List LnD} {k : Nat} (h : 8 < k) : readT l k = none := by
  unfold readT
  cases hf : 2 * l.length with
  | zero => rfl
  | succ f => simp [readF, h]
theorem readT_cons {n v : Bs} {ps : List Fld} {r : List LnD} {k : Nat} (h : ¬ 8 < k) : readT ((n, ps, v) :: r) k = if n = begS ∧ ps = [] then bodyT (upOf v) [] [] r k else none := by
  unfold readT bodyT
  simp only [List.length_cons, Nat.mul_add, Nat.mul_one]
  rw [readF, if_neg h]
theorem bodyT_nil {nm : Bs} {ls : List LnD} {cs : List TD} {k : Nat} : bodyT nm ls cs [] k = none := by simp [bodyT, bodyF]
theorem bodyT_cons {nm n v : Bs} {ls : List LnD} {cs : List TD} {ps : List Fld} {r : List LnD} {k : Nat} : bodyT nm ls cs ((n, ps, v) :: r) k =
    if n = begS then (match readT ((n, ps, v) :: r) (k + 1) with
        | none => none
        | some (d, rest) => bodyT nm ls (cs ++ [d]) rest k)
      else if n = endS then (if ps = [] ∧ upOf v = nm then some (.mk nm ls cs, r) else none)
      else bodyT nm (ls ++ [(n, ps, v)]) cs r k := by
  unfold readT bodyT
  rw [bodyF]
  have hl : 2 * ((n, ps, v) :: r).length = 2 * r.length + 2 := by simp; omega
  rw [hl]
  split
  · cases hr : readF (2 * r.length + 2) ((n, ps, v) :: r) (k + 1) with
    | none => rfl
    | some q =>
      obtain ⟨d, rest⟩ := q
      have := (F_len _).1 _ _ _ _ hr
      simp only [List.length_cons] at this
      exact (F_fuel rest.length).2 _ _ _ _ _ _ _ (Nat.le_refl _) (by omega) (by omega)
  · split
    · rfl
    · exact (F_fuel r.length).2 _ _ _ _ _ _ _ (Nat.le_refl _) (by omega) (by omega)
theorem readT_len {l : List LnD} {k : Nat} {d : TD} {rest : List LnD} (h : readT l k = some (d, rest)) : rest.length < l.length := (F_len _).1 _ _ _ _ h
theorem F_sub : ∀ f, (∀ l k d rest, readF f l k = some (d, rest) → ∀ x ∈ rest, x ∈ l) ∧ (∀ nm ls cs l k d rest, bodyF f nm ls cs l k = some (d, rest) → ∀ x ∈ rest, x ∈ l) := by
  intro f
  induction f with
  | zero => exact ⟨fun l k d rest h => by simp [readF] at h, fun nm ls cs l k d rest h => by simp [bodyF] at h⟩
  | succ f ih =>
    obtain ⟨ih1, ih2⟩ := ih
    constructor
    · intro l k d rest h x hx
      simp only [readF] at h
      split at h
      · cases h
      · match l, h with
        | (n, ps, v) :: r, h =>
          simp only at h
          split at h
          · exact List.mem_cons_of_mem _ (ih2 _ _ _ _ _ _ _ h x hx)
          · cases h
    · intro nm ls cs l k d rest h x hx
      match l, h with
      | [], h => simp [bodyF] at h
      | (n, ps, v) :: r, h =>
        simp only [bodyF] at h
        split at h
        · cases hr : readF f ((n, ps, v) :: r) (k + 1) with
          | none => rw [hr] at h; cases h
          | some q =>
            obtain ⟨d', rest'⟩ := q
            rw [hr] at h
            exact ih1 _ _ _ _ hr x (ih2 _ _ _ _ _ _ _ h x hx)
        · split at h
          · split at h
            · cases h; exact List.mem_cons_of_mem _ hx
            · cases h
          · exact List.mem_cons_of_mem _ (ih2 _ _ _ _ _ _ _ h x hx)
theorem readT_sub {l : List LnD} {k : Nat} {d : TD} {rest : List LnD} (h : readT l k = some (d, rest)) : ∀ x ∈ rest, x ∈ l := (F_sub _).1 _ _ _ _ h
end Go.Ab
