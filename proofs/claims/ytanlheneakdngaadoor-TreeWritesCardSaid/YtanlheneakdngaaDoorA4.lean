/-
  The point at a text's front: the document's function.
-/
import Derived.Test.YtanlheneakdngaaDoorA3
import Derived.KernelRfl
import Derived.Test.YtanlheneakdngaaDoorA2
set_option linter.unusedVariables false
set_option linter.unusedSimpArgs false
namespace Go.Ab
variable {st s : St} {e : Env}

theorem mul32 {ek : EK} {a : Nat} (h : 64 * a < 2147483648) : binPV .mul ek (.int .i32 64) (.int .i32 (a : Int)) = some (.int .i32 ((64 * a : Nat) : Int)) := by
  simp only [binPV, binI, reduceIte, Option.some.injEq]
  rw [wrap32 (by omega) (by omega)]
  congr 1

set_option maxHeartbeats 1000000 in
theorem rNext_spec {x : PV} {l : List UInt8} (hx : x.by = some l) (hl : l.length ≤ 100000000) : call prog (.fn 75 []) [x] st = some (nextV l, st) := by
  refine call_of_W prog_75 ?_
  unfold F_posthornref02_Next; dsimp only
  by_cases hne : l = []
  · have e1 : decide ((l.length : Int) = 0) = true := by simp [hne]
    simp (maxSteps := 1000000) (disch := omega) only [len_by hx, e1, qaaz, qabz, qacz, qaiz, qajz, qalz, evOp, qaoz, qapz, qarz, qatz, qavz,
 ↓reduceIte, List.append_nil, qawz, Option.map_some, qazz, qbaz, qbhz, qblz, qbtz, reduceCtorEq]
    exact ⟨.tup [.int .i32 0, .int .i64 0, .int .i64 42], rfl, by
      rw [show nextV l = .tup [.int .i32 0, .int .i64 0, .int .i64 42] by simp [nextV, nextOf, hne]]
      exact Kept.start.leave rfl (fun _ _ => rfl)⟩
  have hlen : 0 < l.length := List.length_pos_iff.2 hne
  have e1 : ¬ ((l.length : Int) = 0) := by omega
  obtain ⟨c, hc⟩ : ∃ c, c = l.getD 0 0 := ⟨_, rfl⟩
  have hi0 : iaddrPV 1 x (.int .i64 0) = some (.cp [.b8 c]) := by rw [hc]; exact iaddr_by hx (by omega) (by simpa using hlen)
  by_cases h128 : c < 128
  · have h128' : c.toNat < 128 := by rw [UInt8.lt_iff_toNat_lt] at h128; simpa using h128
    simp (maxSteps := 1000000) (disch := omega) only [len_by hx, e1, hi0, qciz, h128, cI32, qaaz, qabz, qacz, qaez, qaiz, qajz, qalz, evOp, qaoz, qapz, qarz, qatz, qavz,
 ↓reduceIte, List.append_nil, qawz, Option.map_some, qazz, qbaz, qbhz, qblz, qbtz, qbxz, qciz, decide_true, decide_false,
 Bool.false_eq_true, reduceCtorEq]
    exact ⟨.tup [.int .i32 (c.toNat : Int), .int .i64 1, .int .i64 0], rfl, by
      rw [nextV_some (p := c.toNat) (n := 1) (by unfold nextOf; rw [if_neg hne, ← hc, if_pos h128'])]
      exact Kept.start.leave rfl (fun _ _ => rfl)⟩
  have h128' : ¬ (l.getD 0 0).toNat < 128 := by rw [← hc]; rw [UInt8.lt_iff_toNat_lt] at h128; simpa using h128
  simp (maxSteps := 1000000) (disch := omega) only [len_by hx, e1, hi0, qciz, h128, qaaz, qabz, qacz, qadz, qaez, qajz, qalz, evOp, qaoz, qapz, qarz, qatz, qavz,
 ↓reduceIte, List.append_nil, qawz, Option.map_some, qazz, qbhz, qbtz, qbxz, qciz, decide_false,
 Bool.false_eq_true, reduceCtorEq]
  obtain ⟨I, hI⟩ : ∃ I : Nat → Env → St → Prop, I = fun m E S => ∃ n, m = 5 - n ∧ 2 ≤ n ∧ n ≤ 5 ∧ Kept st S ∧ (∀ k, 2 ≤ k → k < n → k ≤ l.length → ¬ succN l k) ∧ E 0 = x ∧ E 5 = .int .i64 (n : Int) := ⟨_, rfl⟩
  refine W_loop I ?_ (n := 3) (by
    rw [hI]
    exact ⟨2, rfl, by omega, by omega, Kept.start, fun k h1 h2 => by omega, rfl, rfl⟩)
  intro m e S hh
  rw [hI] at hh
  obtain ⟨n, rfl, hn2, hn5, hk, hall, h0, h5⟩ := hh
  by_cases hr : n ≤ 4 ∧ n ≤ l.length
  · obtain ⟨hn4, hnl⟩ := hr
    have r1 : (n : Int) ≤ 4 := by omega
    have hn : n = 2 ∨ n = 3 ∨ n = 4 := by omega
    refine W_cut (fun E S => Kept st S ∧ E 0 = x ∧ E 5 = .int .i64 (n : Int)) ?_ ?_
    · simp (maxSteps := 1000000) (disch := omega) only [h0, h5, r1, len_by hx, hnl, qaaz, qabz, qacz, qaez, qajz, qakz, qalz, qamz, qanz, evOp, qaoz, qapz, qarz, qatz, qavz,
 ↓reduceIte, Nat.reduceEqDiff, Option.map_some, qazz, qbhz, qbqz, beq_true, decide_true, Int.ofNat_le, true_and, and_true, reduceCtorEq]
      exact hk
    clear hk h0 h5
    rintro e S ⟨hk, h0, h5⟩
    rw [qaaz, qadz]
    refine W_cut (fun E S => Kept st S ∧ E 0 = x ∧ E 5 = .int .i64 (n : Int) ∧ E 6 = .int .i32 ((c.toNat % 32 : Nat) : Int)) ?_ ?_
    · simp (maxSteps := 1000000) (disch := omega) only [h0, h5, hi0, qciz, cI32, rem32, qabz, qajz, qalz, evOp, qaoz, qapz, qarz, qatz, qavz,
 ↓reduceIte, Nat.reduceEqDiff, Option.map_some, qciz, Int.reduceToNat, true_and, and_true, reduceCtorEq]
      exact hk
    clear hk h0 h5
    rintro e S ⟨hk, h0, h5, h6⟩
    refine W_cut (fun E S => Kept st S ∧ E 0 = x ∧ E 5 = .int .i64 (n : Int) ∧ E 6 = .int .i32 ((if n = 3 then c.toNat % 16 else c.toNat % 32 : Nat) : Int)) ?_ ?_
    · by_cases q : n = 3
      · have d3 : decide ((n : Int) = 3) = true := by simp [q]
        simp (maxSteps := 1000000) (disch := omega) only [h0, h5, d3, hi0, qciz, cI32, rem32, qaaz, qabz, qacz, qajz, qalz, evOp, qaoz, qapz, qarz, qatz, qavz,
 ↓reduceIte, Nat.reduceEqDiff, Option.map_some, qazz, qbhz, qbtz, qciz, Int.reduceToNat, true_and, reduceCtorEq]
        exact ⟨hk, by simp [q]⟩
      · have d3 : ¬ (n : Int) = 3 := by omega
        simp (maxSteps := 1000000) (disch := omega) only [h0, h5, h6, d3, qaaz, qabz, qacz, qaez, qajz, qalz, evOp, qaoz, qapz, qarz, qatz, qavz,
 ↓reduceIte, Nat.reduceEqDiff, Option.map_some, qazz, qbhz, qbtz, decide_false,
 Bool.false_eq_true, true_and, reduceCtorEq]
        exact ⟨hk, by simp [q]⟩
    clear hk h0 h5 h6
    rintro e S ⟨hk, h0, h5, h6⟩
    refine W_cut (fun E S => Kept st S ∧ E 0 = x ∧ E 5 = .int .i64 (n : Int) ∧ E 6 = .int .i32 ((c.toNat % mdN n : Nat) : Int)) ?_ ?_
    · by_cases q : n = 4
      · have d4 : decide ((n : Int) = 4) = true := by simp [q]
        simp (maxSteps := 1000000) (disch := omega) only [h0, h5, d4, hi0, qciz, cI32, rem32, qaaz, qabz, qacz, qajz, qalz, evOp, qaoz, qapz, qarz, qatz, qavz,
 ↓reduceIte, Nat.reduceEqDiff, Option.map_some, qazz, qbhz, qbtz, qciz, Int.reduceToNat, true_and, reduceCtorEq]
        exact ⟨hk, by simp [q, mdN]⟩
      · have d4 : ¬ (n : Int) = 4 := by omega
        simp (maxSteps := 1000000) (disch := omega) only [h0, h5, h6, d4, qaaz, qabz, qacz, qaez, qajz, qalz, evOp, qaoz, qapz, qarz, qatz, qavz,
 ↓reduceIte, Nat.reduceEqDiff, Option.map_some, qazz, qbhz, qbtz, decide_false,
 Bool.false_eq_true, true_and, reduceCtorEq]
        refine ⟨hk, ?_⟩
        by_cases q3 : n = 3
        · simp [mdN, q3]
        · have q2 : n = 2 := by omega
          simp [mdN, q2]
    clear hk h0 h5 h6
    rintro e S ⟨hk, h0, h5, h6⟩
    obtain ⟨p, hp⟩ : ∃ p, p = c.toNat % mdN n := ⟨_, rfl⟩
    rw [← hp] at h6
    have hp32 : p < 32 := by
      rw [hp]; unfold mdN
      split
      · omega
      · split <;> omega
    have hacc : ∀ k, k ≤ 3 → accP l p k < 8388609 := by
      intro k hk
      have := accP_lt (l := l) (p := p) k
      have h64 : (p + 1) * 64 ^ k ≤ 32 * 64 ^ 3 := Nat.mul_le_mul (by omega) (Nat.pow_le_pow_right (by omega) hk)
      have : 32 * 64 ^ 3 = 8388608 := by decide
      omega
    have hq : qN l n = accP l p (n - 1) := by unfold qN; rw [← hc, ← hp]
    refine W_cut (fun E S => Kept st S ∧ E 0 = x ∧ E 5 = .int .i64 (n : Int) ∧ E 6 = .int .i32 ((accP l p (n - 1) : Nat) : Int)) ?_ ?_
    · simp (maxSteps := 1000000) (disch := omega) only [qaaz, qabz, qadz, qajz, qalz, evOp, qapz, qarz, qatz, qazz]
      obtain ⟨II, hII⟩ : ∃ II : Nat → Env → St → Prop, II = fun m E S => ∃ k, m = n - 1 - k ∧ k ≤ n - 1 ∧ Kept st S ∧ E 0 = x ∧ E 5 = .int .i64 (n : Int) ∧ E 6 = .int .i32 ((accP l p k : Nat) : Int) ∧ E 7 = .int .i64 ((k + 1 : Nat) : Int) := ⟨_, rfl⟩
      refine W_loop II ?_ (n := n - 1) (by
        rw [hII]
        exact ⟨0, rfl, by omega, hk, h0, h5, h6, rfl⟩)
      clear hk h0 h5 h6
      intro m E S hh
      rw [hII] at hh
      obtain ⟨k, rfl, hk1, hk, h0, h5, h6, h7⟩ := hh
      by_cases hlt : k + 1 < n
      · obtain ⟨d, hd⟩ : ∃ d, d = l.getD (k + 1) 0 := ⟨_, rfl⟩
        have hid : iaddrPV 1 x (.int .i64 ((k + 1 : Nat) : Int)) = some (.cp [.b8 d]) := by
          rw [hd]; exact iaddr_by hx (by omega) (by rw [Int.toNat_natCast]; omega)
        have ha := hacc k (by omega)
        have hstep : accP l p (k + 1) = 64 * accP l p k + d.toNat % 64 := by rw [hd]; rfl
        simp (maxSteps := 1000000) (disch := omega) only [h0, h5, h6, h7, hlt, hid, qciz, cI32, rem32, mul32, addc32, add_n, qaaz, qabz, qacz, qadz, qaez, qajz, qalz, evOp, qaoz, qapz, qarz, qatz, qavz,
 ↓reduceIte, Nat.reduceEqDiff, Option.map_some, qazz, qbdz, qbhz, qbpz, qciz, decide_true, Int.toNat_natCast, Int.ofNat_lt, Int.reduceToNat, reduceCtorEq]
        refine loopQ_intro (m := n - 1 - (k + 1)) (by omega) ?_
        rw [hII]
        exact ⟨k + 1, rfl, by omega, hk, h0, h5, by rw [hstep]; rfl, rfl⟩
      · obtain rfl : k = n - 1 := by omega
        simp (maxSteps := 1000000) (disch := omega) only [h0, h5, h6, h7, hlt, qaaz, qabz, qacz, qagz, qajz, qalz, evOp, qaoz, qarz, qatz, qavz,
 ↓reduceIte, Nat.reduceEqDiff, Option.map_some, qazz, qbbz, qbfz, qbhz, qbjz, qbpz, decide_false,
 Int.ofNat_lt, Bool.false_eq_true, true_and, and_true, reduceCtorEq]
        exact hk
    clear hk h0 h5 h6
    rintro e S ⟨hk, h0, h5, h6⟩
    rw [← hq] at h6
    have hqb : qN l n < 2147483648 := by rw [hq]; have := hacc (n - 1) (by omega); omega
    have hput := Put_spec (st := S) hqb
    have hnext : ¬ succN l n → ∀ (E : Env) (S : St), Kept st S → E 0 = x → E 5 = .int .i64 ((n + 1 : Nat) : Int) → I (5 - (n + 1)) E S := by
      intro hs E S k1 k2 k3
      rw [hI]
      refine ⟨n + 1, rfl, by omega, by omega, k1, fun k j1 j2 j3 => ?_, k2, k3⟩
      by_cases hkn : k = n
      · subst hkn; exact hs
      · exact hall k j1 (by omega) j3
    by_cases hpt : pointN (qN l n)
    · have hput' : call prog (.fn 81 []) [.int .i32 ((qN l n : Nat) : Int)] S = some (.tup [.bys (.own S.toks.length) (putOf (qN l n)), .int .i64 0], S.tok1) := by
        rw [hput]; simp [putV, hpt]
      have hsl := slc_hi (k := .i64) (c := (n : Int)) hx (by omega) (by simpa using hnl)
      rw [Int.toNat_natCast] at hsl
      by_cases hs : putOf (qN l n) = l.take n
      · have hyes := succ_next hn hnl h128' ⟨hpt, hs⟩
        simp (maxSteps := 1000000) (disch := omega) only [h0, h5, h6, hput', b2s_by qcgz, hsl, b2s_by (takeB_by hx), eq_true hs, qaaz, qabz, qacz, qaiz, qajz, qakz, qalz, qamz, qanz, evOp, qaoz, qapz, qaqz, qarz, qatz, qavz,
 ↓reduceIte, Nat.reduceEqDiff, List.map_cons, List.map_nil, Option.map_some, Option.map_none, qazz, qbaz, qbez, qbhz, qbiz, qblz, qbtz, qcbz, beq_true, decide_true, qcjz, List.getElem?_cons_zero, List.getElem?_cons_succ, reduceCtorEq]
        refine ⟨.tup [.int .i32 ((qN l n : Nat) : Int), .int .i64 (n : Int), .int .i64 0], rfl, ?_⟩
        rw [nextV_some hyes]
        exact hk.tok1.leave rfl (fun _ _ => rfl)
      · simp (maxSteps := 1000000) (disch := omega) only [h0, h5, h6, hput', b2s_by qcgz, hsl, b2s_by (takeB_by hx), hs, add_n, qaaz, qabz, qacz, qaez, qajz, qakz, qalz, qamz, qanz, evOp, qaoz, qapz, qaqz, qarz, qatz, qavz,
 ↓reduceIte, Nat.reduceEqDiff, List.map_cons, List.map_nil, Option.map_some, Option.map_none, qazz, qbdz, qbhz, qbtz, qcbz, beq_true, decide_true, decide_false,
 Bool.false_eq_true, qcjz, List.getElem?_cons_zero, List.getElem?_cons_succ, Int.reduceToNat, reduceCtorEq]
        exact loopQ_intro (m := 5 - (n + 1)) (by omega) (hnext (fun h => hs h.2) _ _ hk.tok1 h0 rfl)
    · have hput' : call prog (.fn 81 []) [.int .i32 ((qN l n : Nat) : Int)] S = some (.tup [.nils, .int .i64 20], S) := by
        rw [hput]; simp [putV, hpt]
      simp (maxSteps := 1000000) (disch := omega) only [h5, h6, hput', add_n, qaaz, qabz, qacz, qaez, qajz, qakz, qalz, qamz, qanz, evOp, qaoz, qapz, qaqz, qarz, qatz, qavz,
 ↓reduceIte, Nat.reduceEqDiff, List.map_cons, List.map_nil, Option.map_some, qazz, qbdz, qbhz, qbtz, beq_true, decide_false,
 Bool.false_eq_true, qcjz, List.getElem?_cons_zero, List.getElem?_cons_succ, Int.reduceToNat, Int.reduceEq]
      exact loopQ_intro (m := 5 - (n + 1)) (by omega) (hnext (fun h => hpt h.1) _ _ hk h0 rfl)
  · have hno : nextOf l = none := by
      cases h : nextOf l with
      | none => rfl
      | some r =>
        obtain ⟨v, k⟩ := r
        obtain ⟨k1, k2, k3⟩ := next_succ h128' h
        exact absurd k3 (hall k (by omega) (by omega) k2)
    have fin : ∀ E : Env, E 2 = .int .i32 0 → E 3 = .int .i64 0 → E 4 = .int .i64 20 → ∃ rv, resOf E S [.tmp 2, .tmp 3, .tmp 4] = some rv ∧ leave st S rv = (nextV l, st) := by
      intro E k2 k3 k4
      exact ⟨.tup [.int .i32 0, .int .i64 0, .int .i64 20], by simp [resOf, rvAll, rv1, k2, k3, k4, notTup, packRes], by rw [nextV_none hno hne]; exact hk.leave rfl (fun _ _ => rfl)⟩
    by_cases hn4 : n ≤ 4
    · have r1 : (n : Int) ≤ 4 := by omega
      have r2 : ¬ n ≤ l.length := by omega
      simp (maxSteps := 1000000) (disch := omega) only [h0, h5, r1, len_by hx, r2, qaaz, qabz, qacz, qagz, qaiz, qajz, qakz, qalz, qamz, qanz, evOp, qaoz, qapz, qarz, qatz, qavz,
 ↓reduceIte, Nat.reduceEqDiff, Option.map_some, qazz, qbbz, qbfz, qbhz, qbjz, qblz, qbqz, beq_true, decide_true, decide_false,
 Int.ofNat_le, Bool.false_eq_true, reduceCtorEq]
      exact fin _ rfl rfl rfl
    · have r1 : ¬ (n : Int) ≤ 4 := by omega
      simp (maxSteps := 1000000) (disch := omega) only [h5, r1, qaaz, qabz, qacz, qagz, qaiz, qajz, qakz, qalz, qamz, qanz, evOp, qaoz, qapz, qarz, qatz, qavz,
 ↓reduceIte, Nat.reduceEqDiff, Option.map_some, qazz, qbbz, qbfz, qbhz, qbjz, qblz, qbqz, beq_true, decide_false,
 Bool.false_eq_true]
      exact fin _ rfl rfl rfl
end Go.Ab
/-
  A text's points; whether it is one.
-/
namespace Go.Ab
variable {st s : St} {e : Env}

theorem next_pos {l : List UInt8} {p n : Nat} (h : nextOf l = some (p, n)) : 1 ≤ n ∧ n ≤ l.length ∧ p < 2147483648 := by
  by_cases hc : (l.getD 0 0).toNat < 128
  · unfold nextOf at h
    split at h
    · cases h
    · rename_i hne
      cases h
      have := List.length_pos_iff.2 hne
      omega
  · obtain ⟨h1, h2, h3⟩ := next_succ hc h
    have h4 := succ_next h1 h2 hc h3
    rw [h] at h4
    simp only [Option.some.injEq, Prod.mk.injEq] at h4
    have := h3.1
    rw [← h4.1] at this
    unfold pointN at this
    omega

def ptsOf : Nat → List UInt8 → Nat → Except Nat (List Nat)
  | 0, _, _ => .ok []
  | k + 1, l, i => if i < l.length then match nextOf (l.drop i) with
    | none => .error i
    | some (p, n) => match ptsOf k l (i + n) with
      | .ok r => .ok (p :: r)
      | .error j => .error j
    else .ok []
def ptV (p : Nat) : PV := .int .i32 (p : Int)
def ptsV (st : St) (r : Except Nat (List Nat)) : PV × St := match r with
  | .ok ps => (.tup [newSl st 1 (ps.map ptV), .agg [.int .i64 0, .int .i64 0]], newS st (ps.map ptV).isEmpty)
  | .error j => (.tup [.nils, .agg [.int .i64 (j : Int), .int .i64 20]], st)

theorem Kept.appS {esz : Nat} {v : PV} {xs : List PV} (hk : Kept st s) (h : Own st s esz v xs) : Kept st (Ab.appS s v) := by
  have htl := hk.tl
  rcases h with ⟨rfl, rfl⟩ | ⟨i, rfl, h2, h3⟩
  · exact hk.tok1
  · refine hk.of rfl rfl hk.lw (fun j hj => ?_) ?_
    · show (s.toks.set i false ++ [true])[j]? = s.toks[j]?
      rw [List.getElem?_append_left (by simp; omega), List.getElem?_set_ne (by omega)]
    · show st.toks.length ≤ (s.toks.set i false ++ [true]).length
      simp; omega
theorem Own.appK {esz : Nat} {v : PV} {xs ys : List PV} (hk : Kept st s) (h : Own st s esz v xs) : Own st (Ab.appS s v) esz (.sl esz (.own s.toks.length) ys) ys := by
  have htl := hk.tl
  refine .inr ⟨_, rfl, htl, ?_⟩
  rcases h with ⟨rfl, rfl⟩ | ⟨i, rfl, h2, h3⟩
  · simp [Ab.appS, St.tok1]
  · show (s.toks.set i false ++ [true])[s.toks.length]? = some true
    rw [List.getElem?_append_right (by simp)]; simp
theorem leave_ownA {v : PV} {xs : List PV} {a b : Int} (hk : Kept st s) (h : Own st s 1 v xs) (hne : xs = [] → v = .nils) : leave st s (.tup [v, .agg [.int .i64 a, .int .i64 b]]) = (.tup [newSl st 1 xs, .agg [.int .i64 a, .int .i64 b]], newS st xs.isEmpty) := by
  have e1 := hk.bx; have e2 := hk.lp; have e3 := hk.tk
  rcases h with ⟨rfl, rfl⟩ | ⟨i, rfl, h2, h3⟩
  · simp [leave, PV.inB, PV.inB.inBAll, hk.lw, keepRes, keepVals, keepVal, keepCells, keepLeaf, e1, e2, e3, newSl, newS]
  · by_cases hx : xs = []
    · have := hne hx; cases this
    · simp [leave, PV.inB, PV.inB.inBAll, hk.lw, keepRes, keepVals, keepVal, keepCells, keepLeaf, keepTok, h3, show ¬ i < st.toks.length by omega, e1, e2, e3, newSl, newS, hx, St.tok1]
theorem liti1 {p : Int} : litFill 1 (List.replicate 1 (.int .i32 0)) [(0, .int .i32 p)] = some [.int .i32 p] := lit1 rfl rfl
theorem build2i {a b : Int} : buildCells [.int .i64 0, .int .i64 0] [(0, 1, .int .i64 a), (1, 1, .int .i64 b)] = some [.int .i64 a, .int .i64 b] := by
  simp [buildCells, PV.cells, leafOk, setCells]
theorem build0i : buildCells [.int .i64 0, .int .i64 0] [] = some [.int .i64 0, .int .i64 0] := rfl

def FB (st s : St) (a b : Int) : Prop := st.boxes.length < s.boxes.length ∧ s.boxes[st.boxes.length]? = some [.int .i64 a, .int .i64 b]
theorem FB.store {a b c d : Int} (hk : Kept st s) (h : FB st s a b) : ∃ s', storePV s 2 (.ptr st.boxes.length 0) (.agg [.int .i64 c, .int .i64 d]) = some s' ∧ Kept st s' ∧ FB st s' c d ∧ s'.toks = s.toks := by
  refine ⟨{ s with boxes := s.boxes.set st.boxes.length [.int .i64 c, .int .i64 d] }, ?_, ?_, ⟨by simpa using h.1, by simp [h.1]⟩, rfl⟩
  · simp [storePV, h.2, PV.cells, PV.inB, PV.inB.inBAll, leafOk, hasTok, tokOf, setCells]
  · exact hk.of (by rw [List.take_set_of_le (Nat.le_refl _)]) rfl hk.lw (fun _ _ => rfl) hk.tl
theorem FB.load {a b : Int} (h : FB st s a b) : loadPV s true 2 (.ptr st.boxes.length 0) = some (.agg [.int .i64 a, .int .i64 b]) := by
  simp [loadPV, h.2, readCells]
theorem FB.appS {v : PV} {esz : Nat} {xs : List PV} {a b : Int} (h : FB st s a b) (ho : Own st s esz v xs) : FB st (Ab.appS s v) a b := by
  rcases ho with ⟨rfl, rfl⟩ | ⟨i, rfl, _, _⟩ <;> exact h

set_option maxHeartbeats 1000000 in
theorem uPoints_spec {x : PV} {l : List UInt8} (hx : x.by = some l) (hl : l.length ≤ 100000000) : call prog (.fn 69 []) [x] st = some (ptsV st (ptsOf (l.length + 1) l 0)) := by
  refine call_of_W prog_69 ?_
  unfold F_utf_Points; dsimp only
  obtain ⟨T, hT⟩ : ∃ T, T = ptsOf (l.length + 1) l 0 := ⟨_, rfl⟩
  rw [← hT]
  refine W_cut (fun E S => Kept st S ∧ FB st S 0 0 ∧ E 0 = x ∧ E 3 = .ptr st.boxes.length 0) ?_ ?_
  · simp (maxSteps := 1000000) (disch := omega) only [allocPV, qabz, qajz, qalz, evOp, qapz, qarz, qatz, qavz,
 ↓reduceIte, List.append_nil, qawz, true_and, and_true, reduceCtorEq]
    exact ⟨Kept.start.alloc, by simp, by simp⟩
  rintro e S ⟨hk, hb, h0, h3⟩
  simp (maxSteps := 1000000) (disch := omega) only [qaaz, qabz, qadz, qajz, qalz, evOp, qapz, qarz, qatz, qazz]
  obtain ⟨I, hI⟩ : ∃ I : Nat → Env → St → Prop, I = fun m E S => ∃ (i k : Nat) (v : PV) (acc : List Nat), m = l.length - i ∧ l.length + 1 - i ≤ k ∧ i ≤ l.length ∧ acc.length ≤ i ∧ Kept st S ∧ FB st S 0 0 ∧ Own st S 1 v (acc.map ptV) ∧ (acc.map ptV = [] → v = .nils) ∧ T = (match ptsOf k l i with | .ok r => .ok (acc ++ r) | .error j => .error j) ∧ E 0 = x ∧ E 3 = .ptr st.boxes.length 0 ∧ E 4 = v ∧ E 5 = .int .i64 (i : Int) := ⟨_, rfl⟩
  refine W_loop I ?_ (n := l.length) (by
    rw [hI]
    refine ⟨0, l.length + 1, .nils, [], rfl, by omega, by omega, by simp, hk, hb, .inl ⟨rfl, rfl⟩, fun _ => rfl, ?_, h0, h3, rfl, rfl⟩
    rw [hT]; split <;> simp_all)
  clear hk hb h0 h3
  intro m e S hh
  rw [hI] at hh
  obtain ⟨i, k, v, acc, rfl, hki, hil, hacl, hk, hb, ho, hnil, hTT, h0, h3, h4, h5⟩ := hh
  by_cases hlt : i < l.length
  · obtain ⟨k, rfl⟩ : ∃ k', k = k' + 1 := ⟨k - 1, by omega⟩
    simp only [ptsOf, hlt, if_true] at hTT
    have hnx := fun S : St => uNext_spec (st := S) (dropB_by (i := i) hx) (by simp; omega)
    have hsl := slc_lo (k := .i64) (c := (i : Int)) hx (by omega) (by simpa using hil)
    rw [Int.toNat_natCast] at hsl
    cases hno : nextOf (l.drop i) with
    | none =>
      simp only [hno] at hTT
      have hdn : l.drop i ≠ [] := by intro h; have := congrArg List.length h; simp at this; omega
      rw [nextV_none hno hdn] at hnx
      obtain ⟨S2, a1, k1, b1, -⟩ := FB.store (c := (i : Int)) (d := 20) hk hb
      have hld := b1.load
      simp (maxSteps := 1000000) (disch := omega) only [h0, h3, h5, len_by hx, hlt, hsl, hnx, build2i, a1, qaaz, qabz, qacz, qadz, qaez, qaiz, qajz, qalz, evOp, qaoz, qapz, qaqz, qarz, qatz, qauz, qavz,
 ↓reduceIte, Nat.reduceEqDiff, List.map_cons, List.map_nil, Option.map_some, Option.map_none, qazz, qbaz, qbez, qbhz, qbiz, qblz, qbpz, qbuz, decide_true, Int.ofNat_lt, qcjz, List.getElem?_cons_zero, List.getElem?_cons_succ, reduceCtorEq, ne_eq, Int.reduceEq, not_false_eq_true]
      refine ⟨.tup [.nils, .agg [.int .i64 (i : Int), .int .i64 20]], ?_, ?_⟩
      · simp [resOf, rvAll, rv1, qavz, h3, hld, notTup, packRes]
      · rw [hTT]; exact k1.leave rfl (fun _ _ => rfl)
    | some pn =>
      obtain ⟨p, n⟩ := pn
      simp only [hno] at hTT
      rw [nextV_some hno] at hnx
      obtain ⟨hn1, hn2, hn3⟩ := next_pos hno
      simp only [List.length_drop] at hn2
      have happ := appV_own (u := ptV p) (t := .own S.toks.length) ho.tok1 (by simp only [List.length_map, room]; omega)
      have k2 := hk.tok1.appS ho.tok1
      have o2 := Own.appK (ys := acc.map ptV ++ [ptV p]) hk.tok1 ho.tok1
      have b2 : FB st (Ab.appS S.tok1 v) 0 0 := FB.appS (s := S.tok1) hb ho.tok1
      unfold ptV at happ
      simp (maxSteps := 1000000) (disch := omega) only [h0, h4, h5, len_by hx, hlt, hsl, hnx, liti1, freshT_eq, happ, add_n, qaaz, qabz, qacz, qadz, qaez, qajz, qalz, evOp, qaoz, qapz, qaqz, qarz, qatz, qavz,
 ↓reduceIte, Nat.reduceEqDiff, List.map_cons, List.map_nil, Option.map_some, Option.map_none, qazz, qbdz, qbhz, qbpz, qbuz, decide_true, decide_false,
 Int.toNat_natCast, Int.ofNat_lt, Bool.false_eq_true, qcjz, List.getElem?_cons_zero, List.getElem?_cons_succ, reduceCtorEq, ne_eq, not_true_eq_false]
      refine loopQ_intro (m := l.length - (i + n)) (by omega) ?_
      rw [hI]
      refine ⟨i + n, k, _, acc ++ [p], rfl, by omega, by omega, by simp; omega, k2, b2, ?_, fun h => by simp at h, ?_, h0, h3, rfl, rfl⟩
      · rw [List.map_append]; exact o2
      · rw [hTT]
        cases ptsOf k l (i + n) with
        | ok r => simp
        | error j => rfl
  · obtain rfl : i = l.length := by omega
    have hTf : T = .ok acc := by
      rw [hTT]
      cases k with
      | zero => simp [ptsOf]
      | succ k => simp [ptsOf]
    obtain ⟨S2, a1, k1, b1, t1⟩ := FB.store (c := 0) (d := 0) hk hb
    have hld := b1.load
    have ho2 : Own st S2 1 v (acc.map ptV) := by
      rcases ho with h | ⟨i, h1, h2, h3⟩
      · exact .inl h
      · exact .inr ⟨i, h1, h2, by rw [t1]; exact h3⟩
    simp (maxSteps := 1000000) (disch := omega) only [h0, h3, h4, h5, len_by hx, hlt, build0i, a1, qaaz, qabz, qacz, qagz, qaiz, qajz, qalz, evOp, qaoz, qarz, qatz, qauz, qavz,
 ↓reduceIte, Nat.reduceEqDiff, List.map_nil, Option.map_some, qazz, qbbz, qbfz, qbhz, qbjz, qblz, qbpz, decide_false,
 Int.ofNat_lt, Bool.false_eq_true, reduceCtorEq]
    refine ⟨.tup [v, .agg [.int .i64 0, .int .i64 0]], ?_, ?_⟩
    · have hnt : notTup v = true := by rcases ho with ⟨rfl, _⟩ | ⟨i, rfl, _⟩ <;> rfl
      simp [resOf, rvAll, rv1, qavz, h3, hld, hnt, packRes]
      rfl
    · rw [hTf]; exact leave_ownA k1 ho2 hnil
set_option maxHeartbeats 1000000 in
theorem rPoints_spec {x : PV} {l : List UInt8} (hx : x.by = some l) (hl : l.length ≤ 100000000) : call prog (.fn 80 []) [x] st = some (ptsV st (ptsOf (l.length + 1) l 0)) := by
  refine call_of_W prog_80 ?_
  unfold F_posthornref02_Points; dsimp only
  obtain ⟨T, hT⟩ : ∃ T, T = ptsOf (l.length + 1) l 0 := ⟨_, rfl⟩
  rw [← hT]
  refine W_cut (fun E S => Kept st S ∧ FB st S 0 0 ∧ E 0 = x ∧ E 3 = .ptr st.boxes.length 0) ?_ ?_
  · simp (maxSteps := 1000000) (disch := omega) only [allocPV, qabz, qajz, qalz, evOp, qapz, qarz, qatz, qavz,
 ↓reduceIte, List.append_nil, qawz, true_and, and_true, reduceCtorEq]
    exact ⟨Kept.start.alloc, by simp, by simp⟩
  rintro e S ⟨hk, hb, h0, h3⟩
  simp (maxSteps := 1000000) (disch := omega) only [qaaz, qabz, qadz, qajz, qalz, evOp, qapz, qarz, qatz, qazz]
  obtain ⟨I, hI⟩ : ∃ I : Nat → Env → St → Prop, I = fun m E S => ∃ (i k : Nat) (v : PV) (acc : List Nat), m = l.length - i ∧ l.length + 1 - i ≤ k ∧ i ≤ l.length ∧ acc.length ≤ i ∧ Kept st S ∧ FB st S 0 0 ∧ Own st S 1 v (acc.map ptV) ∧ (acc.map ptV = [] → v = .nils) ∧ T = (match ptsOf k l i with | .ok r => .ok (acc ++ r) | .error j => .error j) ∧ E 0 = x ∧ E 3 = .ptr st.boxes.length 0 ∧ E 4 = v ∧ E 5 = .int .i64 (i : Int) := ⟨_, rfl⟩
  refine W_loop I ?_ (n := l.length) (by
    rw [hI]
    refine ⟨0, l.length + 1, .nils, [], rfl, by omega, by omega, by simp, hk, hb, .inl ⟨rfl, rfl⟩, fun _ => rfl, ?_, h0, h3, rfl, rfl⟩
    rw [hT]; split <;> simp_all)
  clear hk hb h0 h3
  intro m e S hh
  rw [hI] at hh
  obtain ⟨i, k, v, acc, rfl, hki, hil, hacl, hk, hb, ho, hnil, hTT, h0, h3, h4, h5⟩ := hh
  by_cases hlt : i < l.length
  · obtain ⟨k, rfl⟩ : ∃ k', k = k' + 1 := ⟨k - 1, by omega⟩
    simp only [ptsOf, hlt, if_true] at hTT
    have hnx := fun S : St => rNext_spec (st := S) (dropB_by (i := i) hx) (by simp; omega)
    have hsl := slc_lo (k := .i64) (c := (i : Int)) hx (by omega) (by simpa using hil)
    rw [Int.toNat_natCast] at hsl
    cases hno : nextOf (l.drop i) with
    | none =>
      simp only [hno] at hTT
      have hdn : l.drop i ≠ [] := by intro h; have := congrArg List.length h; simp at this; omega
      rw [nextV_none hno hdn] at hnx
      obtain ⟨S2, a1, k1, b1, -⟩ := FB.store (c := (i : Int)) (d := 20) hk hb
      have hld := b1.load
      simp (maxSteps := 1000000) (disch := omega) only [h0, h3, h5, len_by hx, hlt, hsl, hnx, build2i, a1, qaaz, qabz, qacz, qadz, qaez, qaiz, qajz, qalz, evOp, qaoz, qapz, qaqz, qarz, qatz, qauz, qavz,
 ↓reduceIte, Nat.reduceEqDiff, List.map_cons, List.map_nil, Option.map_some, Option.map_none, qazz, qbaz, qbez, qbhz, qbiz, qblz, qbpz, qbuz, decide_true, Int.ofNat_lt, qcjz, List.getElem?_cons_zero, List.getElem?_cons_succ, reduceCtorEq, ne_eq, Int.reduceEq, not_false_eq_true]
      refine ⟨.tup [.nils, .agg [.int .i64 (i : Int), .int .i64 20]], ?_, ?_⟩
      · simp [resOf, rvAll, rv1, qavz, h3, hld, notTup, packRes]
      · rw [hTT]; exact k1.leave rfl (fun _ _ => rfl)
    | some pn =>
      obtain ⟨p, n⟩ := pn
      simp only [hno] at hTT
      rw [nextV_some hno] at hnx
      obtain ⟨hn1, hn2, hn3⟩ := next_pos hno
      simp only [List.length_drop] at hn2
      have happ := appV_own (u := ptV p) (t := .own S.toks.length) ho.tok1 (by simp only [List.length_map, room]; omega)
      have k2 := hk.tok1.appS ho.tok1
      have o2 := Own.appK (ys := acc.map ptV ++ [ptV p]) hk.tok1 ho.tok1
      have b2 : FB st (Ab.appS S.tok1 v) 0 0 := FB.appS (s := S.tok1) hb ho.tok1
      unfold ptV at happ
      simp (maxSteps := 1000000) (disch := omega) only [h0, h4, h5, len_by hx, hlt, hsl, hnx, liti1, freshT_eq, happ, add_n, qaaz, qabz, qacz, qadz, qaez, qajz, qalz, evOp, qaoz, qapz, qaqz, qarz, qatz, qavz,
 ↓reduceIte, Nat.reduceEqDiff, List.map_cons, List.map_nil, Option.map_some, Option.map_none, qazz, qbdz, qbhz, qbpz, qbuz, decide_true, decide_false,
 Int.toNat_natCast, Int.ofNat_lt, Bool.false_eq_true, qcjz, List.getElem?_cons_zero, List.getElem?_cons_succ, reduceCtorEq, ne_eq, not_true_eq_false]
      refine loopQ_intro (m := l.length - (i + n)) (by omega) ?_
      rw [hI]
      refine ⟨i + n, k, _, acc ++ [p], rfl, by omega, by omega, by simp; omega, k2, b2, ?_, fun h => by simp at h, ?_, h0, h3, rfl, rfl⟩
      · rw [List.map_append]; exact o2
      · rw [hTT]
        cases ptsOf k l (i + n) with
        | ok r => simp
        | error j => rfl
  · obtain rfl : i = l.length := by omega
    have hTf : T = .ok acc := by
      rw [hTT]
      cases k with
      | zero => simp [ptsOf]
      | succ k => simp [ptsOf]
    obtain ⟨S2, a1, k1, b1, t1⟩ := FB.store (c := 0) (d := 0) hk hb
    have hld := b1.load
    have ho2 : Own st S2 1 v (acc.map ptV) := by
      rcases ho with h | ⟨i, h1, h2, h3⟩
      · exact .inl h
      · exact .inr ⟨i, h1, h2, by rw [t1]; exact h3⟩
    simp (maxSteps := 1000000) (disch := omega) only [h0, h3, h4, h5, len_by hx, hlt, build0i, a1, qaaz, qabz, qacz, qagz, qaiz, qajz, qalz, evOp, qaoz, qarz, qatz, qauz, qavz,
 ↓reduceIte, Nat.reduceEqDiff, List.map_nil, Option.map_some, qazz, qbbz, qbfz, qbhz, qbjz, qblz, qbpz, decide_false,
 Int.ofNat_lt, Bool.false_eq_true, reduceCtorEq]
    refine ⟨.tup [v, .agg [.int .i64 0, .int .i64 0]], ?_, ?_⟩
    · have hnt : notTup v = true := by rcases ho with ⟨rfl, _⟩ | ⟨i, rfl, _⟩ <;> rfl
      simp [resOf, rvAll, rv1, qavz, h3, hld, hnt, packRes]
      rfl
    · rw [hTf]; exact leave_ownA k1 ho2 hnil
end Go.Ab
/-
  Whether a text is one of points; where it can be cut.
-/
namespace Go.Ab
variable {st s : St} {e : Env}

def validOf (l : List UInt8) : Bool := match ptsOf (l.length + 1) l 0 with
  | .ok _ => true
  | .error _ => false

theorem pts_parts {l : List UInt8} {S : St} (hk : Kept st S) : ∃ w a S', ptsV S (ptsOf (l.length + 1) l 0) = (.tup [w, .agg [.int .i64 a, .int .i64 (if validOf l = true then 0 else 20)]], S') ∧ Kept st S' := by
  unfold validOf
  cases ptsOf (l.length + 1) l 0 with
  | ok ps =>
    refine ⟨_, 0, _, rfl, ?_⟩
    unfold newS; split
    · exact hk
    · exact hk.tok1
  | error j => exact ⟨_, _, _, rfl, hk⟩
theorem store_i2 {B : List (List PV)} {T : List Bool} {L : List LoopS} {lo : Nat} {a b : Int} : storePV ⟨B ++ [[.int .i64 0, .int .i64 0]], T, L, lo⟩ 2 (.ptr B.length 0) (.agg [.int .i64 a, .int .i64 b]) = some ⟨B ++ [[.int .i64 a, .int .i64 b]], T, L, lo⟩ := by
  simp [storePV, PV.cells, PV.inB, PV.inB.inBAll, leafOk, setCells, hasTok, tokOf]
theorem load_i1 {B : List (List PV)} {T : List Bool} {L : List LoopS} {lo : Nat} {a b : Int} : loadPV ⟨B ++ [[.int .i64 a, .int .i64 b]], T, L, lo⟩ false 1 (.ptr B.length 1) = some (.int .i64 b) := by
  simp [loadPV, readCells]

theorem uValid_spec {x : PV} {l : List UInt8} (hx : x.by = some l) (hl : l.length ≤ 100000000) : call prog (.fn 53 []) [x] st = some (.bool (validOf l), st) := by
  refine call_of_W prog_53 ?_
  unfold F_utf_Valid; dsimp only
  obtain ⟨w, a, S', h1, hk⟩ := pts_parts (l := l) (st := st) Kept.start
  have hp := uPoints_spec (st := { boxes := st.boxes, toks := st.toks, loops := st.loops, low := st.boxes.length }) hx hl
  rw [h1] at hp
  cases hv : validOf l with
  | true =>
    simp only [hv, if_true] at hp
    simp (maxSteps := 1000000) (disch := omega) only [hp, allocPV, store_i2, faddrPV, Nat.zero_add, load_i1, qaaz, qabz, qaiz, qajz, qalz, evOp, qaoz, qapz, qaqz, qarz, qatz, qauz, qavz,
 ↓reduceIte, Nat.reduceEqDiff, List.append_nil, List.map_cons, List.map_nil, qawz, Option.map_some, qazz, qblz, qbtz, decide_true, qcjz, List.getElem?_cons_zero, List.getElem?_cons_succ, reduceCtorEq]
    exact ⟨.bool true, rfl, hk.alloc.leave rfl (fun _ _ => rfl)⟩
  | false =>
    simp only [hv, Bool.false_eq_true, if_false] at hp
    simp (maxSteps := 1000000) (disch := omega) only [hp, allocPV, store_i2, faddrPV, Nat.zero_add, load_i1, qaaz, qabz, qaiz, qajz, qalz, evOp, qaoz, qapz, qaqz, qarz, qatz, qauz, qavz,
 ↓reduceIte, Nat.reduceEqDiff, List.append_nil, List.map_cons, List.map_nil, qawz, Option.map_some, qazz, qblz, qbtz, decide_false,
 qcjz, List.getElem?_cons_zero, List.getElem?_cons_succ, reduceCtorEq, Int.reduceEq]
    exact ⟨.bool false, rfl, hk.alloc.leave rfl (fun _ _ => rfl)⟩
theorem rValid_spec {x : PV} {l : List UInt8} (hx : x.by = some l) (hl : l.length ≤ 100000000) : call prog (.fn 74 []) [x] st = some (.bool (validOf l), st) := by
  refine call_of_W prog_74 ?_
  unfold F_posthornref02_Valid; dsimp only
  obtain ⟨w, a, S', h1, hk⟩ := pts_parts (l := l) (st := st) Kept.start
  have hp := rPoints_spec (st := { boxes := st.boxes, toks := st.toks, loops := st.loops, low := st.boxes.length }) hx hl
  rw [h1] at hp
  cases hv : validOf l with
  | true =>
    simp only [hv, if_true] at hp
    simp (maxSteps := 1000000) (disch := omega) only [hp, allocPV, store_i2, faddrPV, Nat.zero_add, load_i1, qaaz, qabz, qaiz, qajz, qalz, evOp, qaoz, qapz, qaqz, qarz, qatz, qauz, qavz,
 ↓reduceIte, Nat.reduceEqDiff, List.append_nil, List.map_cons, List.map_nil, qawz, Option.map_some, qazz, qblz, qbtz, decide_true, qcjz, List.getElem?_cons_zero, List.getElem?_cons_succ, reduceCtorEq]
    exact ⟨.bool true, rfl, hk.alloc.leave rfl (fun _ _ => rfl)⟩
  | false =>
    simp only [hv, Bool.false_eq_true, if_false] at hp
    simp (maxSteps := 1000000) (disch := omega) only [hp, allocPV, store_i2, faddrPV, Nat.zero_add, load_i1, qaaz, qabz, qaiz, qajz, qalz, evOp, qaoz, qapz, qaqz, qarz, qatz, qauz, qavz,
 ↓reduceIte, Nat.reduceEqDiff, List.append_nil, List.map_cons, List.map_nil, qawz, Option.map_some, qazz, qblz, qbtz, decide_false,
 qcjz, List.getElem?_cons_zero, List.getElem?_cons_succ, reduceCtorEq, Int.reduceEq]
    exact ⟨.bool false, rfl, hk.alloc.leave rfl (fun _ _ => rfl)⟩

def isCont (c : UInt8) : Prop := 128 ≤ c.toNat ∧ c.toNat < 192
instance {c : UInt8} : Decidable (isCont c) := by unfold isCont; infer_instance
def back (l : List UInt8) : Nat → Nat
  | 0 => 0
  | n + 1 => if n + 1 < l.length ∧ isCont (l.getD (n + 1) 0) then back l n else n + 1
def cutOf (l : List UInt8) (m : Nat) : Nat := if validOf l = true then back l (min m l.length) else min m l.length

theorem back_le {l : List UInt8} : ∀ n, back l n ≤ n := by
  intro n
  induction n with
  | zero => simp [back]
  | succ n ih => simp only [back]; split <;> omega
theorem back_to {l : List UInt8} {i : Nat} (h0 : i = 0 ∨ ¬ (i < l.length ∧ isCont (l.getD i 0))) : ∀ k, (∀ j, i < j → j ≤ i + k → j < l.length ∧ isCont (l.getD j 0)) → back l (i + k) = i := by
  intro k
  induction k with
  | zero =>
    intro _
    cases i with
    | zero => rfl
    | succ i =>
      simp only [back]
      rcases h0 with h | h
      · omega
      · rw [if_neg h]
  | succ k ih =>
    intro h
    show back l ((i + k) + 1) = i
    simp only [back]
    rw [if_pos (h (i + k + 1) (by omega) (by omega))]
    exact ih (fun j h1 h2 => h j h1 (by omega))

theorem next_cont {l : List UInt8} {p n : Nat} (h : nextOf l = some (p, n)) : ¬ isCont (l.getD 0 0) ∧ ∀ j, 1 ≤ j → j < n → isCont (l.getD j 0) := by
  unfold nextOf at h
  split at h
  · cases h
  split at h
  · rename_i hc
    cases h
    exact ⟨fun hh => by unfold isCont at hh; omega, fun j h1 h2 => by omega⟩
  · rename_i hc
    simp only at h
    split at h
    · cases h
    · rename_i hcond
      simp only [not_or, Classical.not_not] at hcond
      cases h
      refine ⟨fun hh => ?_, fun j h1 h2 => ?_⟩
      · apply hcond.1
        unfold isCont at hh
        unfold lead
        rw [if_neg (by omega), if_neg (by omega), if_neg (by omega)]
      · have := hcond.2.2.1 (j - 1) (by omega)
        rw [show j - 1 + 1 = j by omega] at this
        exact this

theorem uCut_spec {x : PV} {l : List UInt8} {m : Nat} (hx : x.by = some l) (hl : l.length ≤ 100000000) : call prog (.fn 61 []) [x, .int .i64 (m : Int)] st = some (.int .i64 ((cutOf l m : Nat) : Int), st) := by
  refine call_of_W prog_61 ?_
  unfold F_utf_Cut; dsimp only
  have hm1 : mnmxPV false [.int .i64 (m : Int), .int .i64 (l.length : Int)] = some (.int .i64 ((min m l.length : Nat) : Int)) := by
    simp [mnmxPV] <;> omega
  have hm2 : mnmxPV true [.int .i64 ((min m l.length : Nat) : Int), .int .i64 0] = some (.int .i64 ((min m l.length : Nat) : Int)) := by
    simp [mnmxPV] <;> omega
  have hv := fun S : St => uValid_spec (st := S) hx hl
  obtain ⟨q, hq⟩ : ∃ q, q = min m l.length := ⟨_, rfl⟩
  rw [← hq] at hm1 hm2
  have hql : q ≤ l.length := by omega
  cases hvl : validOf l with
  | false =>
    have hc : cutOf l m = q := by simp [cutOf, hvl, hq]
    rw [hc]
    simp only [hvl] at hv
    simp (maxSteps := 1000000) (disch := omega) only [len_by hx, hm1, hm2, hv, qaaz, qabz, qacz, qaiz, qajz, qalz, evOp, qaoz, qapz, qaqz, qarz, qatz, qavz,
 ↓reduceIte, Nat.reduceEqDiff, List.append_nil, List.map_cons, List.map_nil, qawz, qaxz, Option.map_some, qazz, qbaz, qbhz, qblz, qcfz, reduceCtorEq, Bool.not_false]
    exact ⟨.int .i64 (q : Int), rfl, Kept.start.leave rfl (fun _ _ => rfl)⟩
  | true =>
    have hc : cutOf l m = back l q := by simp [cutOf, hvl, hq]
    rw [hc]
    simp only [hvl] at hv
    simp (maxSteps := 1000000) (disch := omega) only [len_by hx, hm1, hm2, hv, qaaz, qabz, qacz, qadz, qaez, qajz, qalz, evOp, qaoz, qapz, qaqz, qarz, qatz, qavz,
 ↓reduceIte, Nat.reduceEqDiff, List.append_nil, List.map_cons, List.map_nil, qawz, qaxz, Option.map_some, qazz, qbhz, qcfz, Bool.false_eq_true, reduceCtorEq, Bool.not_true]
    obtain ⟨I, hI⟩ : ∃ I : Nat → Env → St → Prop, I = fun k E S => ∃ i : Nat, i = k ∧ i ≤ l.length ∧ Kept st S ∧ back l i = back l q ∧ E 0 = x ∧ E 1 = .int .i64 (i : Int) := ⟨_, rfl⟩
    refine W_loop I ?_ (n := q) (by
      rw [hI]
      exact ⟨q, rfl, hql, Kept.start, rfl, rfl, rfl⟩)
    intro k e S hh
    rw [hI] at hh
    obtain ⟨i, rfl, hil, hk, hb, h0, h1⟩ := hh
    have fin : back l i = i → ∀ E : Env, E 4 = .int .i64 (i : Int) → ∃ rv, resOf E S [.tmp 4] = some rv ∧ leave st S rv = (.int .i64 ((back l q : Nat) : Int), st) := by
      intro hbi E k4
      exact ⟨.int .i64 (i : Int), by simp [resOf, rvAll, rv1, k4, notTup, packRes], by rw [← hb, hbi]; exact hk.leave rfl (fun _ _ => rfl)⟩
    cases i with
    | zero =>
      have e0 : ¬ (0 : Int) < ((0 : Nat) : Int) := by omega
      simp (maxSteps := 1000000) (disch := omega) only [h1, e0, qaaz, qabz, qacz, qagz, qaiz, qajz, qakz, qalz, qamz, qanz, evOp, qaoz, qapz, qarz, qatz, qavz,
 ↓reduceIte, Nat.reduceEqDiff, Option.map_some, qazz, qbbz, qbfz, qbhz, qbjz, qblz, qbrz, beq_true, decide_false,
 Bool.false_eq_true]
      exact fin rfl _ rfl
    | succ i =>
      have e0 : (0 : Int) < ((i + 1 : Nat) : Int) := by omega
      by_cases hlt : i + 1 < l.length
      · obtain ⟨d, hd⟩ : ∃ d, d = l.getD (i + 1) 0 := ⟨_, rfl⟩
        have hid : iaddrPV 1 x (.int .i64 ((i + 1 : Nat) : Int)) = some (.cp [.b8 d]) := by
          rw [hd]; exact iaddr_by hx (by omega) (by rw [Int.toNat_natCast]; omega)
        by_cases q6 : UInt8.ofNat (d.toNat / 64) = 2
        · have hdc := (isC d).1 q6
          simp (maxSteps := 1000000) (disch := omega) only [h0, h1, e0, len_by hx, hlt, hid, qciz, shr6, eq_true q6, sub_n, qaaz, qabz, qacz, qadz, qaez, qajz, qakz, qalz, qamz, qanz, evOp, qaoz, qapz, qarz, qatz, qavz,
 ↓reduceIte, Nat.reduceEqDiff, Option.map_some, qazz, qbdz, qbhz, qbpz, qbrz, qbvz, qciz, beq_true, decide_true, Int.ofNat_lt, Int.reduceToNat, reduceCtorEq]
          refine loopQ_intro (m := i) (by omega) ?_
          rw [hI]
          refine ⟨i, rfl, by omega, hk, ?_, h0, rfl⟩
          rw [← hb]
          simp only [back]
          rw [if_pos ⟨hlt, by rw [← hd]; exact hdc⟩]
        · have hdc : ¬ isCont d := fun h => q6 ((isC d).2 h)
          simp (maxSteps := 1000000) (disch := omega) only [h0, h1, e0, len_by hx, hlt, hid, qciz, shr6, q6, qaaz, qabz, qacz, qagz, qaiz, qajz, qakz, qalz, qamz, qanz, evOp, qaoz, qapz, qarz, qatz, qavz,
 ↓reduceIte, Nat.reduceEqDiff, Option.map_some, qazz, qbbz, qbfz, qbhz, qbjz, qblz, qbpz, qbrz, qbvz, qciz, beq_true, decide_true, decide_false,
 Int.ofNat_lt, Bool.false_eq_true, reduceCtorEq]
          exact fin (by simp only [back]; rw [if_neg (by rw [← hd]; exact fun h => hdc h.2)]) _ rfl
      · simp (maxSteps := 1000000) (disch := omega) only [h0, h1, e0, len_by hx, hlt, qaaz, qabz, qacz, qagz, qaiz, qajz, qakz, qalz, qamz, qanz, evOp, qaoz, qapz, qarz, qatz, qavz,
 ↓reduceIte, Nat.reduceEqDiff, Option.map_some, qazz, qbbz, qbfz, qbhz, qbjz, qblz, qbpz, qbrz, beq_true, decide_true, decide_false,
 Int.ofNat_lt, Bool.false_eq_true, reduceCtorEq]
        exact fin (by simp only [back]; rw [if_neg (fun h => hlt h.1)]) _ rfl
end Go.Ab
/-
  Where a text can be cut, by the document.
-/
namespace Go.Ab
variable {st s : St} {e : Env}

theorem drop_get {l : List UInt8} {i j : Nat} : (l.drop i).getD j 0 = l.getD (i + j) 0 := by simp [List.getD]

theorem rCut_spec {x : PV} {l : List UInt8} {m : Nat} (hx : x.by = some l) (hl : l.length ≤ 100000000) (hm : m ≤ 100000000) : call prog (.fn 63 []) [x, .int .i64 (m : Int)] st = some (.int .i64 ((cutOf l m : Nat) : Int), st) := by
  refine call_of_W prog_63 ?_
  unfold F_posthornref02_Cut; dsimp only
  have hv := fun S : St => rValid_spec (st := S) hx hl
  have e0 : ¬ (m : Int) < 0 := by omega
  cases hvl : validOf l with
  | false =>
    have hc : cutOf l m = min m l.length := by simp [cutOf, hvl]
    rw [hc]
    simp only [hvl] at hv
    by_cases hlt : m < l.length
    · simp (maxSteps := 1000000) (disch := omega) only [e0, hv, len_by hx, hlt, qaaz, qabz, qacz, qaez, qaiz, qajz, qalz, evOp, qaoz, qapz, qaqz, qarz, qatz, qavz,
 ↓reduceIte, Nat.reduceEqDiff, List.append_nil, List.map_cons, List.map_nil, qawz, qaxz, Option.map_some, qazz, qbaz, qbhz, qblz, qbpz, qcfz, decide_true, decide_false,
 Int.ofNat_lt, Bool.false_eq_true, reduceCtorEq, Bool.not_false]
      exact ⟨.int .i64 (m : Int), rfl, by rw [Nat.min_eq_left (by omega)]; exact Kept.start.leave rfl (fun _ _ => rfl)⟩
    · simp (maxSteps := 1000000) (disch := omega) only [e0, hv, len_by hx, hlt, qaaz, qabz, qacz, qaez, qaiz, qajz, qalz, evOp, qaoz, qapz, qaqz, qarz, qatz, qavz,
 ↓reduceIte, Nat.reduceEqDiff, List.append_nil, List.map_cons, List.map_nil, qawz, qaxz, Option.map_some, qazz, qbaz, qbhz, qblz, qbpz, qcfz, decide_false,
 Int.ofNat_lt, Bool.false_eq_true, reduceCtorEq, Bool.not_false]
      exact ⟨.int .i64 (l.length : Int), rfl, by rw [Nat.min_eq_right (by omega)]; exact Kept.start.leave rfl (fun _ _ => rfl)⟩
  | true =>
    have hc : cutOf l m = back l (min m l.length) := by simp [cutOf, hvl]
    rw [hc]
    simp only [hvl] at hv
    have hok : ∃ r, ptsOf (l.length + 1) l 0 = .ok r := by
      unfold validOf at hvl
      cases h : ptsOf (l.length + 1) l 0 with
      | ok r => exact ⟨r, rfl⟩
      | error j => rw [h] at hvl; cases hvl
    simp (maxSteps := 1000000) (disch := omega) only [e0, hv, qaaz, qabz, qacz, qadz, qaez, qajz, qalz, evOp, qaoz, qapz, qaqz, qarz, qatz, qavz,
 ↓reduceIte, Nat.reduceEqDiff, List.append_nil, List.map_cons, List.map_nil, qawz, qaxz, Option.map_some, qazz, qbhz, qbpz, qcfz, decide_false,
 Bool.false_eq_true, reduceCtorEq, Bool.not_true]
    obtain ⟨I, hI⟩ : ∃ I : Nat → Env → St → Prop, I = fun z E S => ∃ i k : Nat, z = l.length - i ∧ l.length + 1 - i ≤ k ∧ i ≤ l.length ∧ i ≤ m ∧ (∃ r, ptsOf k l i = .ok r) ∧ Kept st S ∧ E 0 = x ∧ E 1 = .int .i64 (m : Int) ∧ E 5 = .int .i64 (i : Int) := ⟨_, rfl⟩
    refine W_loop I ?_ (n := l.length) (by
      rw [hI]
      exact ⟨0, l.length + 1, rfl, by omega, by omega, by omega, hok, Kept.start, rfl, rfl, rfl⟩)
    intro z E S hh
    rw [hI] at hh
    obtain ⟨i, k, rfl, hki, hil, him, ⟨r, hr⟩, hk, h0, h1, h5⟩ := hh
    have fin : back l (min m l.length) = i → ∀ E : Env, E 4 = .int .i64 (i : Int) → ∃ rv, resOf E S [.tmp 4] = some rv ∧ leave st S rv = (.int .i64 ((back l (min m l.length) : Nat) : Int), st) := by
      intro hbi E k4
      exact ⟨.int .i64 (i : Int), by simp [resOf, rvAll, rv1, k4, notTup, packRes], by rw [hbi]; exact hk.leave rfl (fun _ _ => rfl)⟩
    by_cases hlt : i < l.length
    · obtain ⟨k, rfl⟩ : ∃ k', k = k' + 1 := ⟨k - 1, by omega⟩
      simp only [ptsOf, hlt, if_true] at hr
      have hsl := slc_lo (k := .i64) (c := (i : Int)) hx (by omega) (by simpa using hil)
      rw [Int.toNat_natCast] at hsl
      have hnx := fun S : St => rNext_spec (st := S) (dropB_by (i := i) hx) (by simp; omega)
      cases hno : nextOf (l.drop i) with
      | none => rw [hno] at hr; cases hr
      | some pn =>
        obtain ⟨p, n⟩ := pn
        rw [nextV_some hno] at hnx
        rw [hno] at hr
        simp only at hr
        obtain ⟨hn1, hn2, hn3⟩ := next_pos hno
        simp only [List.length_drop] at hn2
        have hr2 : ∃ r, ptsOf k l (i + n) = .ok r := by
          cases h : ptsOf k l (i + n) with
          | ok r => exact ⟨r, rfl⟩
          | error j => rw [h] at hr; cases hr
        obtain ⟨c1, c2⟩ := next_cont hno
        rw [drop_get, Nat.add_zero] at c1
        have hsub : ∀ ek, binPV .sub ek (.int .i64 (m : Int)) (.int .i64 (i : Int)) = some (.int .i64 ((m - i : Nat) : Int)) := fun ek => by
          have := sub_n (ek := ek) (a := m) (c := (i : Int)) (by omega) (by omega) (by omega)
          simpa using this
        by_cases hgt : m - i < n
        · simp (maxSteps := 1000000) (disch := omega) only [h0, h1, h5, len_by hx, hlt, hsl, hnx, hsub, hgt, qaaz, qabz, qacz, qadz, qaez, qaiz, qajz, qalz, evOp, qaoz, qaqz, qarz, qatz, qavz,
 ↓reduceIte, Nat.reduceEqDiff, List.map_cons, List.map_nil, Option.map_some, Option.map_none, qazz, qbaz, qbez, qbhz, qbiz, qblz, qbpz, qbrz, decide_true, Int.ofNat_lt, qcjz, List.getElem?_cons_zero, List.getElem?_cons_succ, reduceCtorEq]
          refine fin ?_ _ rfl
          rw [Nat.min_eq_left (by omega)]
          have := back_to (l := l) (i := i) (.inr fun h => c1 h.2) (m - i) (fun j j1 j2 => ⟨by omega, by
            have := c2 (j - i) (by omega) (by omega)
            rw [drop_get, show i + (j - i) = j by omega] at this
            exact this⟩)
          rw [show i + (m - i) = m by omega] at this
          exact this
        · simp (maxSteps := 1000000) (disch := omega) only [h0, h1, h5, len_by hx, hlt, hsl, hnx, hsub, hgt, add_n, qaaz, qabz, qacz, qadz, qaez, qajz, qalz, evOp, qaoz, qaqz, qarz, qatz, qavz,
 ↓reduceIte, Nat.reduceEqDiff, List.map_cons, List.map_nil, Option.map_some, Option.map_none, qazz, qbdz, qbhz, qbpz, qbrz, decide_true, decide_false,
 Int.toNat_natCast, Int.ofNat_lt, Bool.false_eq_true, qcjz, List.getElem?_cons_zero, List.getElem?_cons_succ, reduceCtorEq]
          refine loopQ_intro (m := l.length - (i + n)) (by omega) ?_
          rw [hI]
          exact ⟨i + n, k, rfl, by omega, by omega, by omega, hr2, hk, h0, h1, rfl⟩
    · obtain rfl : i = l.length := by omega
      simp (maxSteps := 1000000) (disch := omega) only [h0, h5, len_by hx, hlt, qaaz, qabz, qacz, qagz, qaiz, qajz, qalz, evOp, qaoz, qarz, qatz, qavz,
 ↓reduceIte, Nat.reduceEqDiff, Option.map_some, qazz, qbbz, qbfz, qbhz, qbjz, qblz, qbpz, decide_false,
 Int.ofNat_lt, Bool.false_eq_true, reduceCtorEq]
      refine fin ?_ _ rfl
      rw [Nat.min_eq_right him]
      exact back_to (l := l) (i := l.length) (.inr fun h => by omega) 0 (fun j j1 j2 => by omega)
end Go.Ab
/-
  Names and texts of a calendar's lines.
-/
namespace Go.Ab
variable {st s : St} {e : Env}

def nmC (c : UInt8) : Bool := (decide (65 ≤ c) && decide (c ≤ 90)) || (decide (48 ≤ c) && decide (c ≤ 57)) || decide (c = 45)
def nmB (l : List UInt8) : Bool := decide (1 ≤ l.length) && decide (l.length ≤ 64) && l.all nmC
def txC (c : UInt8) : Bool := !(decide (c < 32) && !decide (c = 9)) && !decide (c = 127)
def txB (l : List UInt8) : Bool := l.all txC && validOf l

theorem sName_spec {l : List UInt8} (hl : l.length ≤ 1000000) : call prog (.fn 64 []) [.str l] st = some (.bool (nmB l), st) := by
  refine call_of_W prog_64 ?_
  unfold F_sheet_isName; dsimp only
  simp (maxSteps := 1000000) (disch := omega) only [len_s, qaaz, qabz, qadz, qajz, qalz, evOp, qaoz, qapz, qarz, qatz, qavz,
 ↓reduceIte, List.append_nil, qawz, Option.map_some, qazz, reduceCtorEq]
  obtain ⟨I, hI⟩ : ∃ I : Nat → Env → St → Prop, I = fun k e s' => ∃ (i : Nat), k = l.length - i ∧ i ≤ l.length ∧ Kept st s' ∧ (∀ j, j < i → nmC (l.getD j 0) = true) ∧ e 0 = .str l ∧ e 6 = .int .i64 (l.length : Int) ∧ e 7 = .int .i64 (i : Int) := ⟨_, rfl⟩
  refine W_loop I ?_ (n := l.length) (by
    rw [hI]
    exact ⟨0, rfl, by omega, Kept.start, fun j h => by omega, rfl, rfl, rfl⟩)
  intro k e s' hh
  rw [hI] at hh
  obtain ⟨i, rfl, hi, hk, hall, h0, h6, h7⟩ := hh
  by_cases hlt : i < l.length
  · obtain ⟨c, hc⟩ : ∃ c, c = l.getD i 0 := ⟨_, rfl⟩
    have bad : nmC c = false → ∀ E : Env, E 2 = .bool false → ∃ rv, resOf E s' [.tmp 2] = some rv ∧ leave st s' rv = (.bool (nmB l), st) := fun h E k2 =>
      ⟨.bool false, by simp [resOf, rvAll, rv1, k2, notTup, packRes], by
        rw [show nmB l = false by simp only [nmB, all_bad (p := nmC) hlt (by rw [← hc]; exact h), Bool.and_false]]
        exact hk.leave rfl (fun _ _ => rfl)⟩
    have good : nmC c = true → ∀ E : Env, E 0 = .str l → E 6 = .int .i64 (l.length : Int) → E 7 = .int .i64 ((i + 1 : Nat) : Int) → I (l.length - (i + 1)) E s' := fun h E k0 k6 k7 => by
      rw [hI]
      refine ⟨i + 1, rfl, by omega, hk, fun j hj => ?_, k0, k6, k7⟩
      by_cases hji : j = i
      · subst hji; rw [← hc]; exact h
      · exact hall j (by omega)
    by_cases q1 : 65 ≤ c
    · by_cases q2 : c ≤ 90
      · simp (maxSteps := 1000000) (disch := omega) only [h0, h6, h7, hlt, idx_s, ← hc, q1, q2, add_n, qaaz, qabz, qacz, qadz, qaez, qajz, qakz, qalz, qamz, qanz, evOp, qaoz, qapz, qarz, qatz, qavz,
 ↓reduceIte, Nat.reduceEqDiff, Option.map_some, qazz, qbdz, qbhz, qbpz, qbyz, qcaz, qcfz, beq_true, beq_false, decide_true, Int.toNat_natCast, Int.ofNat_lt, Bool.false_eq_true, Int.reduceToNat, reduceCtorEq, Bool.not_true]
        exact loopQ_intro (m := l.length - (i + 1)) (by omega) (good (by simp [nmC, q1, q2]) _ h0 h6 rfl)
      · by_cases q3 : 48 ≤ c
        · by_cases q4 : c ≤ 57
          · simp (maxSteps := 1000000) (disch := omega) only [h0, h6, h7, hlt, idx_s, ← hc, q1, q2, q3, q4, add_n, qaaz, qabz, qacz, qadz, qaez, qajz, qakz, qalz, qamz, qanz, evOp, qaoz, qapz, qarz, qatz, qavz,
 ↓reduceIte, Nat.reduceEqDiff, Option.map_some, qazz, qbdz, qbhz, qbpz, qbyz, qcaz, qcfz, beq_true, beq_false, decide_true, decide_false,
 Int.toNat_natCast, Int.ofNat_lt, Bool.false_eq_true, Int.reduceToNat, reduceCtorEq, Bool.not_true, Bool.not_false]
            exact loopQ_intro (m := l.length - (i + 1)) (by omega) (good (by simp [nmC, q3, q4]) _ h0 h6 rfl)
          · by_cases q5 : c = 45
            · simp (maxSteps := 1000000) (disch := omega) only [h0, h6, h7, hlt, idx_s, ← hc, q1, q2, q3, q4, eq_true q5, add_n, qaaz, qabz, qacz, qadz, qaez, qajz, qakz, qalz, qamz, qanz, evOp, qaoz, qapz, qarz, qatz, qavz,
 ↓reduceIte, Nat.reduceEqDiff, Option.map_some, qazz, qbdz, qbhz, qbpz, qbvz, qbyz, qcaz, qcfz, beq_true, beq_false, decide_true, decide_false,
 Int.toNat_natCast, Int.ofNat_lt, Bool.false_eq_true, Int.reduceToNat, reduceCtorEq, Bool.not_true, Bool.not_false]
              exact loopQ_intro (m := l.length - (i + 1)) (by omega) (good (by simp [nmC, q5]) _ h0 h6 rfl)
            · simp (maxSteps := 1000000) (disch := omega) only [h0, h6, h7, hlt, idx_s, ← hc, q1, q2, q3, q4, q5, qaaz, qabz, qacz, qadz, qaez, qaiz, qajz, qakz, qalz, qamz, qanz, evOp, qaoz, qapz, qarz, qatz, qavz,
 ↓reduceIte, Nat.reduceEqDiff, Option.map_some, qazz, qbaz, qbez, qbhz, qbiz, qblz, qbpz, qbvz, qbyz, qcaz, qcfz, beq_true, beq_false, decide_true, decide_false,
 Int.toNat_natCast, Int.ofNat_lt, Bool.false_eq_true, reduceCtorEq, Bool.not_false]
              exact bad (by simp [nmC, q2, q4, q5]) _ rfl
        · by_cases q5 : c = 45
          · simp (maxSteps := 1000000) (disch := omega) only [h0, h6, h7, hlt, idx_s, ← hc, q1, q2, q3, eq_true q5, add_n, qaaz, qabz, qacz, qadz, qaez, qajz, qakz, qalz, qamz, qanz, evOp, qaoz, qapz, qarz, qatz, qavz,
 ↓reduceIte, Nat.reduceEqDiff, Option.map_some, qazz, qbdz, qbhz, qbpz, qbvz, qbyz, qcaz, qcfz, beq_true, beq_false, decide_true, decide_false,
 Int.toNat_natCast, Int.ofNat_lt, Bool.false_eq_true, Int.reduceToNat, reduceCtorEq, Bool.not_true, Bool.not_false]
            exact loopQ_intro (m := l.length - (i + 1)) (by omega) (good (by simp [nmC, q5]) _ h0 h6 rfl)
          · simp (maxSteps := 1000000) (disch := omega) only [h0, h6, h7, hlt, idx_s, ← hc, q1, q2, q3, q5, qaaz, qabz, qacz, qadz, qaez, qaiz, qajz, qakz, qalz, qamz, qanz, evOp, qaoz, qapz, qarz, qatz, qavz,
 ↓reduceIte, Nat.reduceEqDiff, Option.map_some, qazz, qbaz, qbez, qbhz, qbiz, qblz, qbpz, qbvz, qbyz, qcaz, qcfz, beq_true, beq_false, decide_true, decide_false,
 Int.toNat_natCast, Int.ofNat_lt, Bool.false_eq_true, reduceCtorEq, Bool.not_false]
            exact bad (by simp [nmC, q2, q3, q5]) _ rfl
    · by_cases q3 : 48 ≤ c
      · by_cases q4 : c ≤ 57
        · simp (maxSteps := 1000000) (disch := omega) only [h0, h6, h7, hlt, idx_s, ← hc, q1, q3, q4, add_n, qaaz, qabz, qacz, qadz, qaez, qajz, qakz, qalz, qamz, qanz, evOp, qaoz, qapz, qarz, qatz, qavz,
 ↓reduceIte, Nat.reduceEqDiff, Option.map_some, qazz, qbdz, qbhz, qbpz, qbyz, qcaz, qcfz, beq_true, beq_false, decide_true, decide_false,
 Int.toNat_natCast, Int.ofNat_lt, Bool.false_eq_true, Int.reduceToNat, reduceCtorEq, Bool.not_true, Bool.not_false]
          exact loopQ_intro (m := l.length - (i + 1)) (by omega) (good (by simp [nmC, q3, q4]) _ h0 h6 rfl)
        · by_cases q5 : c = 45
          · simp (maxSteps := 1000000) (disch := omega) only [h0, h6, h7, hlt, idx_s, ← hc, q1, q3, q4, eq_true q5, add_n, qaaz, qabz, qacz, qadz, qaez, qajz, qakz, qalz, qamz, qanz, evOp, qaoz, qapz, qarz, qatz, qavz,
 ↓reduceIte, Nat.reduceEqDiff, Option.map_some, qazz, qbdz, qbhz, qbpz, qbvz, qbyz, qcaz, qcfz, beq_true, beq_false, decide_true, decide_false,
 Int.toNat_natCast, Int.ofNat_lt, Bool.false_eq_true, Int.reduceToNat, reduceCtorEq, Bool.not_true, Bool.not_false]
            exact loopQ_intro (m := l.length - (i + 1)) (by omega) (good (by simp [nmC, q5]) _ h0 h6 rfl)
          · simp (maxSteps := 1000000) (disch := omega) only [h0, h6, h7, hlt, idx_s, ← hc, q1, q3, q4, q5, qaaz, qabz, qacz, qadz, qaez, qaiz, qajz, qakz, qalz, qamz, qanz, evOp, qaoz, qapz, qarz, qatz, qavz,
 ↓reduceIte, Nat.reduceEqDiff, Option.map_some, qazz, qbaz, qbez, qbhz, qbiz, qblz, qbpz, qbvz, qbyz, qcaz, qcfz, beq_true, beq_false, decide_true, decide_false,
 Int.toNat_natCast, Int.ofNat_lt, Bool.false_eq_true, reduceCtorEq, Bool.not_false]
            exact bad (by simp [nmC, q1, q4, q5]) _ rfl
      · by_cases q5 : c = 45
        · simp (maxSteps := 1000000) (disch := omega) only [h0, h6, h7, hlt, idx_s, ← hc, q1, q3, eq_true q5, add_n, qaaz, qabz, qacz, qadz, qaez, qajz, qakz, qalz, qamz, qanz, evOp, qaoz, qapz, qarz, qatz, qavz,
 ↓reduceIte, Nat.reduceEqDiff, Option.map_some, qazz, qbdz, qbhz, qbpz, qbvz, qcaz, qcfz, beq_true, beq_false, decide_true, decide_false,
 Int.toNat_natCast, Int.ofNat_lt, Bool.false_eq_true, Int.reduceToNat, reduceCtorEq, Bool.not_true, Bool.not_false]
          exact loopQ_intro (m := l.length - (i + 1)) (by omega) (good (by simp [nmC, q5]) _ h0 h6 rfl)
        · simp (maxSteps := 1000000) (disch := omega) only [h0, h6, h7, hlt, idx_s, ← hc, q1, q3, q5, qaaz, qabz, qacz, qadz, qaez, qaiz, qajz, qakz, qalz, qamz, qanz, evOp, qaoz, qapz, qarz, qatz, qavz,
 ↓reduceIte, Nat.reduceEqDiff, Option.map_some, qazz, qbaz, qbez, qbhz, qbiz, qblz, qbpz, qbvz, qcaz, qcfz, beq_true, beq_false, decide_true, decide_false,
 Int.toNat_natCast, Int.ofNat_lt, Bool.false_eq_true, reduceCtorEq, Bool.not_false]
          exact bad (by simp [nmC, q1, q3, q5]) _ rfl
  · obtain rfl : i = l.length := by omega
    have ha := all_getD (p := nmC) hall
    by_cases g0 : l = []
    · simp (maxSteps := 1000000) (disch := omega) only [h0, h6, h7, hlt, eq_true g0, qaaz, qabz, qacz, qagz, qaiz, qajz, qakz, qalz, qamz, qanz, evOp, qaoz, qapz, qarz, qatz, qavz,
 ↓reduceIte, Nat.reduceEqDiff, Option.map_some, qazz, qbbz, qbfz, qbhz, qbjz, qblz, qbpz, qccz, beq_true, decide_false,
 Int.ofNat_lt, Bool.false_eq_true, reduceCtorEq, ne_eq, not_true_eq_false]
      exact ⟨.bool false, rfl, by rw [show nmB l = false by simp [nmB, g0]]; exact hk.leave rfl (fun _ _ => rfl)⟩
    · have hp := List.length_pos_iff.2 g0
      by_cases g2 : l.length ≤ 64
      · have e2 : (l.length : Int) ≤ 64 := by omega
        simp (maxSteps := 1000000) (disch := omega) only [h0, h6, h7, hlt, g0, len_s, e2, qaaz, qabz, qacz, qagz, qaiz, qajz, qakz, qalz, qamz, qanz, evOp, qaoz, qapz, qarz, qatz, qavz,
 ↓reduceIte, Nat.reduceEqDiff, Option.map_some, qazz, qbbz, qbfz, qbhz, qbjz, qblz, qbpz, qbqz, qccz, beq_true, decide_true, decide_false,
 Int.ofNat_lt, Bool.false_eq_true, reduceCtorEq, ne_eq, not_false_eq_true]
        exact ⟨.bool true, rfl, by rw [show nmB l = true by simp only [nmB, ha, Bool.and_true, Bool.and_eq_true, decide_eq_true_eq]; omega]; exact hk.leave rfl (fun _ _ => rfl)⟩
      · have e2 : ¬ (l.length : Int) ≤ 64 := by omega
        simp (maxSteps := 1000000) (disch := omega) only [h0, h6, h7, hlt, g0, len_s, e2, qaaz, qabz, qacz, qagz, qaiz, qajz, qakz, qalz, qamz, qanz, evOp, qaoz, qapz, qarz, qatz, qavz,
 ↓reduceIte, Nat.reduceEqDiff, Option.map_some, qazz, qbbz, qbfz, qbhz, qbjz, qblz, qbpz, qbqz, qccz, beq_true, decide_true, decide_false,
 Int.ofNat_lt, Bool.false_eq_true, reduceCtorEq, ne_eq, not_false_eq_true]
        exact ⟨.bool false, rfl, by rw [show nmB l = false by simp [nmB, g2]]; exact hk.leave rfl (fun _ _ => rfl)⟩
theorem rNm_spec {l : List UInt8} (hl : l.length ≤ 1000000) : call prog (.fn 67 []) [.str l] st = some (.bool (nmB l), st) := by
  refine call_of_W prog_67 ?_
  unfold F_posthornref10_Name; dsimp only
  simp (maxSteps := 1000000) (disch := omega) only [qaaz, qabz, qadz, qajz, qalz, evOp, qapz, qarz, qatz, List.append_nil, qazz]
  obtain ⟨I, hI⟩ : ∃ I : Nat → Env → St → Prop, I = fun k e s' => ∃ (i : Nat), k = l.length - i ∧ i ≤ l.length ∧ Kept st s' ∧ (∀ j, j < i → nmC (l.getD j 0) = true) ∧ e 0 = .str l ∧ e 3 = .int .i64 (i : Int) := ⟨_, rfl⟩
  refine W_loop I ?_ (n := l.length) (by
    rw [hI]
    exact ⟨0, rfl, by omega, Kept.start, fun j h => by omega, rfl, rfl⟩)
  intro k e s' hh
  rw [hI] at hh
  obtain ⟨i, rfl, hi, hk, hall, h0, h7⟩ := hh
  by_cases hlt : i < l.length
  · obtain ⟨c, hc⟩ : ∃ c, c = l.getD i 0 := ⟨_, rfl⟩
    have bad : nmC c = false → ∀ E : Env, E 2 = .bool false → ∃ rv, resOf E s' [.tmp 2] = some rv ∧ leave st s' rv = (.bool (nmB l), st) := fun h E k2 =>
      ⟨.bool false, by simp [resOf, rvAll, rv1, k2, notTup, packRes], by
        rw [show nmB l = false by simp only [nmB, all_bad (p := nmC) hlt (by rw [← hc]; exact h), Bool.and_false]]
        exact hk.leave rfl (fun _ _ => rfl)⟩
    have good : nmC c = true → ∀ E : Env, E 0 = .str l → E 3 = .int .i64 ((i + 1 : Nat) : Int) → I (l.length - (i + 1)) E s' := fun h E k0 k7 => by
      rw [hI]
      refine ⟨i + 1, rfl, by omega, hk, fun j hj => ?_, k0, k7⟩
      by_cases hji : j = i
      · subst hji; rw [← hc]; exact h
      · exact hall j (by omega)
    by_cases q1 : 65 ≤ c
    · by_cases q2 : c ≤ 90
      · simp (maxSteps := 1000000) (disch := omega) only [h0, h7, len_s, hlt, idx_s, ← hc, q1, q2, add_n, qaaz, qabz, qacz, qadz, qaez, qajz, qakz, qalz, qamz, qanz, evOp, qaoz, qapz, qarz, qatz, qavz,
 ↓reduceIte, Nat.reduceEqDiff, Option.map_some, qazz, qbdz, qbhz, qbpz, qbyz, qcaz, qcfz, beq_true, beq_false, decide_true, Int.toNat_natCast, Int.ofNat_lt, Bool.false_eq_true, Int.reduceToNat, reduceCtorEq, Bool.not_true]
        exact loopQ_intro (m := l.length - (i + 1)) (by omega) (good (by simp [nmC, q1, q2]) _ h0 rfl)
      · by_cases q3 : 48 ≤ c
        · by_cases q4 : c ≤ 57
          · simp (maxSteps := 1000000) (disch := omega) only [h0, h7, len_s, hlt, idx_s, ← hc, q1, q2, q3, q4, add_n, qaaz, qabz, qacz, qadz, qaez, qajz, qakz, qalz, qamz, qanz, evOp, qaoz, qapz, qarz, qatz, qavz,
 ↓reduceIte, Nat.reduceEqDiff, Option.map_some, qazz, qbdz, qbhz, qbpz, qbyz, qcaz, qcfz, beq_true, beq_false, decide_true, decide_false,
 Int.toNat_natCast, Int.ofNat_lt, Bool.false_eq_true, Int.reduceToNat, reduceCtorEq, Bool.not_true, Bool.not_false]
            exact loopQ_intro (m := l.length - (i + 1)) (by omega) (good (by simp [nmC, q3, q4]) _ h0 rfl)
          · by_cases q5 : c = 45
            · simp (maxSteps := 1000000) (disch := omega) only [h0, h7, len_s, hlt, idx_s, ← hc, q1, q2, q3, q4, eq_true q5, add_n, qaaz, qabz, qacz, qadz, qaez, qajz, qakz, qalz, qamz, qanz, evOp, qaoz, qapz, qarz, qatz, qavz,
 ↓reduceIte, Nat.reduceEqDiff, Option.map_some, qazz, qbdz, qbhz, qbpz, qbvz, qbyz, qcaz, qcfz, beq_true, beq_false, decide_true, decide_false,
 Int.toNat_natCast, Int.ofNat_lt, Bool.false_eq_true, Int.reduceToNat, reduceCtorEq, Bool.not_true, Bool.not_false]
              exact loopQ_intro (m := l.length - (i + 1)) (by omega) (good (by simp [nmC, q5]) _ h0 rfl)
            · simp (maxSteps := 1000000) (disch := omega) only [h0, h7, len_s, hlt, idx_s, ← hc, q1, q2, q3, q4, q5, qaaz, qabz, qacz, qadz, qaez, qaiz, qajz, qakz, qalz, qamz, qanz, evOp, qaoz, qapz, qarz, qatz, qavz,
 ↓reduceIte, Nat.reduceEqDiff, Option.map_some, qazz, qbaz, qbez, qbhz, qbiz, qblz, qbpz, qbvz, qbyz, qcaz, qcfz, beq_true, beq_false, decide_true, decide_false,
 Int.toNat_natCast, Int.ofNat_lt, Bool.false_eq_true, reduceCtorEq, Bool.not_false]
              exact bad (by simp [nmC, q2, q4, q5]) _ rfl
        · by_cases q5 : c = 45
          · simp (maxSteps := 1000000) (disch := omega) only [h0, h7, len_s, hlt, idx_s, ← hc, q1, q2, q3, eq_true q5, add_n, qaaz, qabz, qacz, qadz, qaez, qajz, qakz, qalz, qamz, qanz, evOp, qaoz, qapz, qarz, qatz, qavz,
 ↓reduceIte, Nat.reduceEqDiff, Option.map_some, qazz, qbdz, qbhz, qbpz, qbvz, qbyz, qcaz, qcfz, beq_true, beq_false, decide_true, decide_false,
 Int.toNat_natCast, Int.ofNat_lt, Bool.false_eq_true, Int.reduceToNat, reduceCtorEq, Bool.not_true, Bool.not_false]
            exact loopQ_intro (m := l.length - (i + 1)) (by omega) (good (by simp [nmC, q5]) _ h0 rfl)
          · simp (maxSteps := 1000000) (disch := omega) only [h0, h7, len_s, hlt, idx_s, ← hc, q1, q2, q3, q5, qaaz, qabz, qacz, qadz, qaez, qaiz, qajz, qakz, qalz, qamz, qanz, evOp, qaoz, qapz, qarz, qatz, qavz,
 ↓reduceIte, Nat.reduceEqDiff, Option.map_some, qazz, qbaz, qbez, qbhz, qbiz, qblz, qbpz, qbvz, qbyz, qcaz, qcfz, beq_true, beq_false, decide_true, decide_false,
 Int.toNat_natCast, Int.ofNat_lt, Bool.false_eq_true, reduceCtorEq, Bool.not_false]
            exact bad (by simp [nmC, q2, q3, q5]) _ rfl
    · by_cases q3 : 48 ≤ c
      · by_cases q4 : c ≤ 57
        · simp (maxSteps := 1000000) (disch := omega) only [h0, h7, len_s, hlt, idx_s, ← hc, q1, q3, q4, add_n, qaaz, qabz, qacz, qadz, qaez, qajz, qakz, qalz, qamz, qanz, evOp, qaoz, qapz, qarz, qatz, qavz,
 ↓reduceIte, Nat.reduceEqDiff, Option.map_some, qazz, qbdz, qbhz, qbpz, qbyz, qcaz, qcfz, beq_true, beq_false, decide_true, decide_false,
 Int.toNat_natCast, Int.ofNat_lt, Bool.false_eq_true, Int.reduceToNat, reduceCtorEq, Bool.not_true, Bool.not_false]
          exact loopQ_intro (m := l.length - (i + 1)) (by omega) (good (by simp [nmC, q3, q4]) _ h0 rfl)
        · by_cases q5 : c = 45
          · simp (maxSteps := 1000000) (disch := omega) only [h0, h7, len_s, hlt, idx_s, ← hc, q1, q3, q4, eq_true q5, add_n, qaaz, qabz, qacz, qadz, qaez, qajz, qakz, qalz, qamz, qanz, evOp, qaoz, qapz, qarz, qatz, qavz,
 ↓reduceIte, Nat.reduceEqDiff, Option.map_some, qazz, qbdz, qbhz, qbpz, qbvz, qbyz, qcaz, qcfz, beq_true, beq_false, decide_true, decide_false,
 Int.toNat_natCast, Int.ofNat_lt, Bool.false_eq_true, Int.reduceToNat, reduceCtorEq, Bool.not_true, Bool.not_false]
            exact loopQ_intro (m := l.length - (i + 1)) (by omega) (good (by simp [nmC, q5]) _ h0 rfl)
          · simp (maxSteps := 1000000) (disch := omega) only [h0, h7, len_s, hlt, idx_s, ← hc, q1, q3, q4, q5, qaaz, qabz, qacz, qadz, qaez, qaiz, qajz, qakz, qalz, qamz, qanz, evOp, qaoz, qapz, qarz, qatz, qavz,
 ↓reduceIte, Nat.reduceEqDiff, Option.map_some, qazz, qbaz, qbez, qbhz, qbiz, qblz, qbpz, qbvz, qbyz, qcaz, qcfz, beq_true, beq_false, decide_true, decide_false,
 Int.toNat_natCast, Int.ofNat_lt, Bool.false_eq_true, reduceCtorEq, Bool.not_false]
            exact bad (by simp [nmC, q1, q4, q5]) _ rfl
      · by_cases q5 : c = 45
        · simp (maxSteps := 1000000) (disch := omega) only [h0, h7, len_s, hlt, idx_s, ← hc, q1, q3, eq_true q5, add_n, qaaz, qabz, qacz, qadz, qaez, qajz, qakz, qalz, qamz, qanz, evOp, qaoz, qapz, qarz, qatz, qavz,
 ↓reduceIte, Nat.reduceEqDiff, Option.map_some, qazz, qbdz, qbhz, qbpz, qbvz, qcaz, qcfz, beq_true, beq_false, decide_true, decide_false,
 Int.toNat_natCast, Int.ofNat_lt, Bool.false_eq_true, Int.reduceToNat, reduceCtorEq, Bool.not_true, Bool.not_false]
          exact loopQ_intro (m := l.length - (i + 1)) (by omega) (good (by simp [nmC, q5]) _ h0 rfl)
        · simp (maxSteps := 1000000) (disch := omega) only [h0, h7, len_s, hlt, idx_s, ← hc, q1, q3, q5, qaaz, qabz, qacz, qadz, qaez, qaiz, qajz, qakz, qalz, qamz, qanz, evOp, qaoz, qapz, qarz, qatz, qavz,
 ↓reduceIte, Nat.reduceEqDiff, Option.map_some, qazz, qbaz, qbez, qbhz, qbiz, qblz, qbpz, qbvz, qcaz, qcfz, beq_true, beq_false, decide_true, decide_false,
 Int.toNat_natCast, Int.ofNat_lt, Bool.false_eq_true, reduceCtorEq, Bool.not_false]
          exact bad (by simp [nmC, q1, q3, q5]) _ rfl
  · obtain rfl : i = l.length := by omega
    have ha := all_getD (p := nmC) hall
    by_cases g1 : 1 ≤ l.length
    · have e1 : (1 : Int) ≤ (l.length : Int) := by omega
      by_cases g2 : l.length ≤ 64
      · have e2 : (l.length : Int) ≤ 64 := by omega
        simp (maxSteps := 1000000) (disch := omega) only [h0, h7, hlt, len_s, e1, e2, qaaz, qabz, qacz, qagz, qaiz, qajz, qakz, qalz, qamz, qanz, evOp, qaoz, qapz, qarz, qatz, qavz,
 ↓reduceIte, Nat.reduceEqDiff, Option.map_some, qazz, qbbz, qbfz, qbhz, qbjz, qblz, qbpz, qbqz, qbsz, beq_true, decide_true, decide_false,
 Int.ofNat_lt, Bool.false_eq_true, reduceCtorEq]
        exact ⟨.bool true, rfl, by rw [show nmB l = true by simp only [nmB, ha, Bool.and_true, Bool.and_eq_true, decide_eq_true_eq]; omega]; exact hk.leave rfl (fun _ _ => rfl)⟩
      · have e2 : ¬ (l.length : Int) ≤ 64 := by omega
        simp (maxSteps := 1000000) (disch := omega) only [h0, h7, hlt, len_s, e1, e2, qaaz, qabz, qacz, qagz, qaiz, qajz, qakz, qalz, qamz, qanz, evOp, qaoz, qapz, qarz, qatz, qavz,
 ↓reduceIte, Nat.reduceEqDiff, Option.map_some, qazz, qbbz, qbfz, qbhz, qbjz, qblz, qbpz, qbqz, qbsz, beq_true, decide_true, decide_false,
 Int.ofNat_lt, Bool.false_eq_true, reduceCtorEq]
        exact ⟨.bool false, rfl, by rw [show nmB l = false by simp [nmB, g2]]; exact hk.leave rfl (fun _ _ => rfl)⟩
    · have e1 : ¬ (1 : Int) ≤ (l.length : Int) := by omega
      simp (maxSteps := 1000000) (disch := omega) only [h0, h7, hlt, len_s, e1, qaaz, qabz, qacz, qagz, qaiz, qajz, qakz, qalz, qamz, qanz, evOp, qaoz, qapz, qarz, qatz, qavz,
 ↓reduceIte, Nat.reduceEqDiff, Option.map_some, qazz, qbbz, qbfz, qbhz, qbjz, qblz, qbpz, qbsz, beq_true, decide_false,
 Int.ofNat_lt, Bool.false_eq_true, reduceCtorEq]
      exact ⟨.bool false, rfl, by rw [show nmB l = false by simp [nmB]; omega]; exact hk.leave rfl (fun _ _ => rfl)⟩

theorem sText_spec {l : List UInt8} {m : Nat} (hl : l.length ≤ 1000000) : call prog (.fn 65 []) [.str l, .int .i64 (m : Int)] st = some (.bool (txB l && decide (l.length ≤ m)), st) := by
  refine call_of_W prog_65 ?_
  unfold F_sheet_isText; dsimp only
  simp (maxSteps := 1000000) (disch := omega) only [len_s, qaaz, qabz, qadz, qajz, qalz, evOp, qaoz, qapz, qarz, qatz, qavz,
 ↓reduceIte, List.append_nil, qawz, Option.map_some, qazz, reduceCtorEq]
  obtain ⟨I, hI⟩ : ∃ I : Nat → Env → St → Prop, I = fun k e s' => ∃ (i : Nat), k = l.length - i ∧ i ≤ l.length ∧ Kept st s' ∧ (∀ j, j < i → txC (l.getD j 0) = true) ∧ e 0 = .str l ∧ e 1 = .int .i64 (m : Int) ∧ e 7 = .int .i64 (l.length : Int) ∧ e 8 = .int .i64 (i : Int) := ⟨_, rfl⟩
  refine W_loop I ?_ (n := l.length) (by
    rw [hI]
    exact ⟨0, rfl, by omega, Kept.start, fun j h => by omega, rfl, rfl, rfl, rfl⟩)
  intro k e s' hh
  rw [hI] at hh
  obtain ⟨i, rfl, hi, hk, hall, h0, h1, h7, h8⟩ := hh
  by_cases hlt : i < l.length
  · obtain ⟨c, hc⟩ : ∃ c, c = l.getD i 0 := ⟨_, rfl⟩
    have bad : txC c = false → ∀ E : Env, E 4 = .bool false → ∃ rv, resOf E s' [.tmp 4] = some rv ∧ leave st s' rv = (.bool (txB l && decide (l.length ≤ m)), st) := fun h E k2 =>
      ⟨.bool false, by simp [resOf, rvAll, rv1, k2, notTup, packRes], by
        rw [show txB l = false by simp only [txB, all_bad (p := txC) hlt (by rw [← hc]; exact h), Bool.false_and], Bool.false_and]
        exact hk.leave rfl (fun _ _ => rfl)⟩
    have good : txC c = true → ∀ E : Env, E 0 = .str l → E 1 = .int .i64 (m : Int) → E 7 = .int .i64 (l.length : Int) → E 8 = .int .i64 ((i + 1 : Nat) : Int) → I (l.length - (i + 1)) E s' := fun h E k0 k1 k7 k8 => by
      rw [hI]
      refine ⟨i + 1, rfl, by omega, hk, fun j hj => ?_, k0, k1, k7, k8⟩
      by_cases hji : j = i
      · subst hji; rw [← hc]; exact h
      · exact hall j (by omega)
    by_cases q1 : c < 32
    · by_cases q2 : c = 9
      · have q3 : ¬ c = 127 := by rintro rfl; exact absurd q1 (by decide)
        simp (maxSteps := 1000000) (disch := omega) only [h0, h7, h8, hlt, idx_s, ← hc, eq_true q1, eq_true q2, q3, add_n, qaaz, qabz, qacz, qadz, qaez, qajz, qakz, qalz, qamz, qanz, evOp, qaoz, qapz, qarz, qatz, qavz,
 ↓reduceIte, Nat.reduceEqDiff, Option.map_some, qazz, qbdz, qbhz, qbpz, qbvz, qbwz, qbxz, beq_true, beq_false, decide_true, decide_false,
 Int.toNat_natCast, Int.ofNat_lt, Bool.false_eq_true, Int.reduceToNat, reduceCtorEq, Bool.not_false, ne_eq, not_true_eq_false]
        exact loopQ_intro (m := l.length - (i + 1)) (by omega) (good (by simp [txC, q2]) _ h0 h1 h7 rfl)
      · simp (maxSteps := 1000000) (disch := omega) only [h0, h7, h8, hlt, idx_s, ← hc, eq_true q1, q2, qaaz, qabz, qacz, qadz, qaez, qaiz, qajz, qakz, qalz, qamz, qanz, evOp, qaoz, qapz, qarz, qatz, qavz,
 ↓reduceIte, Nat.reduceEqDiff, Option.map_some, qazz, qbaz, qbez, qbhz, qbiz, qblz, qbpz, qbwz, qbxz, beq_true, beq_false, decide_true, Int.toNat_natCast, Int.ofNat_lt, Bool.false_eq_true, reduceCtorEq, Bool.not_true, ne_eq, not_false_eq_true]
        exact bad (by simp [txC, q1, q2]) _ rfl
    · by_cases q3 : c = 127
      · simp (maxSteps := 1000000) (disch := omega) only [h0, h7, h8, hlt, idx_s, ← hc, q1, eq_true q3, qaaz, qabz, qacz, qadz, qaez, qaiz, qajz, qakz, qalz, qamz, qanz, evOp, qaoz, qapz, qarz, qatz, qavz,
 ↓reduceIte, Nat.reduceEqDiff, Option.map_some, qazz, qbaz, qbez, qbhz, qbiz, qblz, qbpz, qbvz, qbxz, beq_true, beq_false, decide_true, decide_false,
 Int.toNat_natCast, Int.ofNat_lt, Bool.false_eq_true, reduceCtorEq, Bool.not_false]
        exact bad (by simp [txC, q3]) _ rfl
      · simp (maxSteps := 1000000) (disch := omega) only [h0, h7, h8, hlt, idx_s, ← hc, q1, q3, add_n, qaaz, qabz, qacz, qadz, qaez, qajz, qakz, qalz, qamz, qanz, evOp, qaoz, qapz, qarz, qatz, qavz,
 ↓reduceIte, Nat.reduceEqDiff, Option.map_some, qazz, qbdz, qbhz, qbpz, qbvz, qbxz, beq_true, beq_false, decide_true, decide_false,
 Int.toNat_natCast, Int.ofNat_lt, Bool.false_eq_true, Int.reduceToNat, reduceCtorEq, Bool.not_false]
        exact loopQ_intro (m := l.length - (i + 1)) (by omega) (good (by simp [txC, q1, q3]) _ h0 h1 h7 rfl)
  · obtain rfl : i = l.length := by omega
    have ha := all_getD (p := txC) hall
    by_cases g1 : l.length ≤ m
    · have hv := uValid_spec (st := s'.tok1) (x := .bys (.own s'.toks.length) l) (l := l) rfl (by omega)
      simp (maxSteps := 1000000) (disch := omega) only [h0, h1, h7, h8, hlt, len_s, g1, freshT_eq, hv, qaaz, qabz, qacz, qagz, qaiz, qajz, qakz, qalz, qamz, qanz, evOp, qaoz, qaqz, qarz, qatz, qavz,
 ↓reduceIte, Nat.reduceEqDiff, List.map_cons, List.map_nil, Option.map_some, qazz, qbbz, qbfz, qbhz, qbjz, qblz, qbpz, qbqz, beq_true, decide_true, decide_false,
 Int.ofNat_lt, Int.ofNat_le, Bool.false_eq_true, reduceCtorEq]
      exact ⟨.bool (validOf l), rfl, by rw [show (txB l && true) = validOf l by simp [txB, ha]]; exact hk.tok1.leave rfl (fun _ _ => rfl)⟩
    · simp (maxSteps := 1000000) (disch := omega) only [h0, h1, h7, h8, hlt, len_s, g1, qaaz, qabz, qacz, qagz, qaiz, qajz, qakz, qalz, qamz, qanz, evOp, qaoz, qapz, qarz, qatz, qavz,
 ↓reduceIte, Nat.reduceEqDiff, Option.map_some, qazz, qbbz, qbfz, qbhz, qbjz, qblz, qbpz, qbqz, beq_true, decide_false,
 Int.ofNat_lt, Int.ofNat_le, Bool.false_eq_true, reduceCtorEq]
      exact ⟨.bool false, rfl, by rw [Bool.and_false]; exact hk.leave rfl (fun _ _ => rfl)⟩

theorem rText_spec {l : List UInt8} (hl : l.length ≤ 1000000) : call prog (.fn 68 []) [.str l] st = some (.bool (txB l), st) := by
  refine call_of_W prog_68 ?_
  unfold F_posthornref10_Text; dsimp only
  simp (maxSteps := 1000000) (disch := omega) only [qaaz, qabz, qadz, qajz, qalz, evOp, qapz, qarz, qatz, List.append_nil, qazz]
  obtain ⟨I, hI⟩ : ∃ I : Nat → Env → St → Prop, I = fun k e s' => ∃ (i : Nat), k = l.length - i ∧ i ≤ l.length ∧ Kept st s' ∧ (∀ j, j < i → txC (l.getD j 0) = true) ∧ e 0 = .str l ∧ e 3 = .int .i64 (i : Int) := ⟨_, rfl⟩
  refine W_loop I ?_ (n := l.length) (by
    rw [hI]
    exact ⟨0, rfl, by omega, Kept.start, fun j h => by omega, rfl, rfl⟩)
  intro k e s' hh
  rw [hI] at hh
  obtain ⟨i, rfl, hi, hk, hall, h0, h3⟩ := hh
  by_cases hlt : i < l.length
  · obtain ⟨c, hc⟩ : ∃ c, c = l.getD i 0 := ⟨_, rfl⟩
    have bad : txC c = false → ∀ E : Env, E 2 = .bool false → ∃ rv, resOf E s' [.tmp 2] = some rv ∧ leave st s' rv = (.bool (txB l), st) := fun h E k2 =>
      ⟨.bool false, by simp [resOf, rvAll, rv1, k2, notTup, packRes], by
        rw [show txB l = false by simp only [txB, all_bad (p := txC) hlt (by rw [← hc]; exact h), Bool.false_and]]
        exact hk.leave rfl (fun _ _ => rfl)⟩
    have good : txC c = true → ∀ E : Env, E 0 = .str l → E 3 = .int .i64 ((i + 1 : Nat) : Int) → I (l.length - (i + 1)) E s' := fun h E k0 k3 => by
      rw [hI]
      refine ⟨i + 1, rfl, by omega, hk, fun j hj => ?_, k0, k3⟩
      by_cases hji : j = i
      · subst hji; rw [← hc]; exact h
      · exact hall j (by omega)
    by_cases q3 : c = 127
    · simp (maxSteps := 1000000) (disch := omega) only [h0, h3, len_s, hlt, idx_s, ← hc, eq_true q3, qaaz, qabz, qacz, qadz, qaez, qaiz, qajz, qakz, qalz, qamz, qanz, evOp, qaoz, qapz, qarz, qatz, qavz,
 ↓reduceIte, Nat.reduceEqDiff, Option.map_some, qazz, qbaz, qbez, qbhz, qbiz, qblz, qbpz, qbvz, beq_false, decide_true, Int.toNat_natCast, Int.ofNat_lt, Bool.false_eq_true, reduceCtorEq, Bool.not_true]
      exact bad (by simp [txC, q3]) _ rfl
    by_cases q1 : c < 32
    · by_cases q2 : c = 9
      · simp (maxSteps := 1000000) (disch := omega) only [h0, h3, len_s, hlt, idx_s, ← hc, q3, eq_true q1, eq_true q2, add_n, qaaz, qabz, qacz, qadz, qaez, qajz, qakz, qalz, qamz, qanz, evOp, qaoz, qapz, qarz, qatz, qavz,
 ↓reduceIte, Nat.reduceEqDiff, Option.map_some, qazz, qbdz, qbhz, qbpz, qbvz, qbwz, qbxz, beq_true, beq_false, decide_true, decide_false,
 Int.toNat_natCast, Int.ofNat_lt, Bool.false_eq_true, Int.reduceToNat, reduceCtorEq, Bool.not_false, ne_eq, not_true_eq_false]
        exact loopQ_intro (m := l.length - (i + 1)) (by omega) (good (by simp [txC, q2]) _ h0 rfl)
      · simp (maxSteps := 1000000) (disch := omega) only [h0, h3, len_s, hlt, idx_s, ← hc, q3, eq_true q1, q2, qaaz, qabz, qacz, qadz, qaez, qaiz, qajz, qakz, qalz, qamz, qanz, evOp, qaoz, qapz, qarz, qatz, qavz,
 ↓reduceIte, Nat.reduceEqDiff, Option.map_some, qazz, qbaz, qbez, qbhz, qbiz, qblz, qbpz, qbvz, qbwz, qbxz, beq_true, beq_false, decide_true, decide_false,
 Int.toNat_natCast, Int.ofNat_lt, Bool.false_eq_true, reduceCtorEq, Bool.not_false, ne_eq, not_false_eq_true]
        exact bad (by simp [txC, q1, q2]) _ rfl
    · simp (maxSteps := 1000000) (disch := omega) only [h0, h3, len_s, hlt, idx_s, ← hc, q1, q3, add_n, qaaz, qabz, qacz, qadz, qaez, qajz, qakz, qalz, qamz, qanz, evOp, qaoz, qapz, qarz, qatz, qavz,
 ↓reduceIte, Nat.reduceEqDiff, Option.map_some, qazz, qbdz, qbhz, qbpz, qbvz, qbxz, beq_true, beq_false, decide_true, decide_false,
 Int.toNat_natCast, Int.ofNat_lt, Bool.false_eq_true, Int.reduceToNat, reduceCtorEq, Bool.not_false]
      exact loopQ_intro (m := l.length - (i + 1)) (by omega) (good (by simp [txC, q1, q3]) _ h0 rfl)
  · obtain rfl : i = l.length := by omega
    have ha := all_getD (p := txC) hall
    have hv := rValid_spec (st := s'.tok1) (x := .bys (.own s'.toks.length) l) (l := l) rfl (by omega)
    simp (maxSteps := 1000000) (disch := omega) only [h0, h3, hlt, len_s, freshT_eq, hv, qaaz, qabz, qacz, qagz, qaiz, qajz, qalz, evOp, qaoz, qaqz, qarz, qatz, qavz,
 ↓reduceIte, Nat.reduceEqDiff, List.map_cons, List.map_nil, Option.map_some, qazz, qbbz, qbfz, qbhz, qbjz, qblz, qbpz, decide_false,
 Int.ofNat_lt, Bool.false_eq_true, reduceCtorEq]
    exact ⟨.bool (validOf l), rfl, by rw [show txB l = validOf l by simp [txB, ha]]; exact hk.tok1.leave rfl (fun _ _ => rfl)⟩
end Go.Ab
/-
  Lines that may be.
-/
namespace Go.Ab
variable {st s : St} {e : Env}

structure Ln where
  n : List UInt8
  pv : PV
  ps : List Fld
  v : List UInt8
def lV (L : Ln) : PV := .agg [.str L.n, L.pv, .str L.v]
structure Ln.ok (L : Ln) : Prop where
  vs : L.pv.vs 2 = some (L.ps.map fV)
  ib : ∀ n, L.pv.inB n = true
  lf : leafOk L.pv = true
  tk : tokOf L.pv = none
  l1 : L.n.length ≤ 300
  l2 : L.v.length ≤ 5000
  l3 : L.ps.length ≤ 30
  l4 : ∀ p ∈ L.ps, p.1.length + p.2.length ≤ 500

structure Ln.okR (L : Ln) : Prop where
  vs : L.pv.vs 2 = some (L.ps.map fV)
  ib : ∀ n, L.pv.inB n = true
  lf : leafOk L.pv = true
  l1 : L.n.length ≤ 1000000
  l2 : L.v.length ≤ 1000000
  l3 : L.ps.length ≤ 1000000
  l4 : ∀ p ∈ L.ps, p.1.length + p.2.length ≤ 1000000
theorem Ln.ok.r {L : Ln} (h : L.ok) : L.okR := ⟨h.vs, h.ib, h.lf, by have := h.l1; omega, by have := h.l2; omega, by have := h.l3; omega, fun p hp => by have := h.l4 p hp; omega⟩

def parOK (p : Fld) : Prop := nmB p.1 = true ∧ txB p.2 = true ∧ p.2.length ≤ 256 ∧ hasB p.2 [34] = false
def rtP (L : Ln) : Prop := nmB L.n = true ∧ txB L.v = true ∧ L.v.length ≤ 4096 ∧ L.ps.length ≤ 16 ∧ (∀ i, i < L.ps.length → parOK (L.ps.getD i ([], []))) ∧ ∀ i, i < L.ps.length → ∀ k, k < i → (L.ps.getD k ([], [])).1 ≠ (L.ps.getD i ([], [])).1
noncomputable def rtB (L : Ln) : Bool := @decide (rtP L) (Classical.propDecidable _)
theorem rtB_true {L : Ln} (h : rtP L) : rtB L = true := by unfold rtB; simp [h]
theorem rtB_false {L : Ln} (h : ¬ rtP L) : rtB L = false := by unfold rtB; simp [h]

def At (s : St) (b : Nat) (cs : List PV) : Prop := s.boxes[b]? = some cs
theorem At.alloc {b : Nat} {cs z : List PV} {T : List Bool} {Lp : List LoopS} {lo : Nat} (h : At s b cs) : At ⟨s.boxes ++ [z], T, Lp, lo⟩ b cs := by
  unfold At at *
  have := (List.getElem?_eq_some_iff.1 h).1
  show (s.boxes ++ [z])[b]? = _
  rw [List.getElem?_append_left this]; exact h
theorem At.last {z : List PV} {T : List Bool} {Lp : List LoopS} {lo : Nat} : At ⟨s.boxes ++ [z], T, Lp, lo⟩ s.boxes.length z := by
  unfold At; simp
theorem At.load {b k : Nat} {cs : List PV} {v : PV} {r : List PV} (h : At s b cs) (hk : cs.drop k = v :: r) : loadPV s false 1 (.ptr b k) = some v := by
  unfold At at h
  simp [loadPV, h, hk, readCells]
theorem slc_vs {x : PV} {xs : List PV} {esz : Nat} {k : IntKind} {c : Nat} (h : x.vs esz = some xs) (he : esz ≠ 0) (hc : c ≤ xs.length) : ∃ y, slcPV esz x none (some (.int k (c : Int))) none = some y ∧ y.vs esz = some (xs.take c) := by
  rcases vs_cases h with ⟨rfl, rfl⟩ | ⟨t, rfl⟩
  · simp at hc; subst hc
    exact ⟨.nils, by simp [slcPV, bnd, intOf, he], by simp [PV.vs]⟩
  · exact ⟨.sl esz .no (xs.take c), by simp [slcPV, bnd, intOf, he, sufTok, hc], by simp [PV.vs]⟩

theorem box_l {L : Ln} (h : L.okR) {n : Nat} : (lV L).inB n = true ∧ (lV L).cells.all leafOk = true := by
  constructor
  · simp [lV, PV.inB, PV.inB.inBAll, h.ib]
  · show (leafOk (.str L.n) && (leafOk L.pv && (leafOk (.str L.v) && true))) = true
    rw [h.lf]; rfl

set_option maxHeartbeats 1000000 in
theorem sRightR_spec {L : Ln} (h : L.okR) : call prog (.fn 50 []) [lV L] st = some (.bool (rtB L), st) := by
  refine call_of_W prog_50 ?_
  unfold F_sheet_Right; dsimp only
  have hbx := box_l h (n := st.boxes.length)
  obtain ⟨q, hq⟩ : ∃ q, q = lV L := ⟨_, rfl⟩
  rw [← hq] at hbx
  have hqc : q.cells = [.str L.n, L.pv, .str L.v] := by rw [hq]; rfl
  rw [hqc] at hbx
  have hll := len_vs h.vs
  rw [List.length_map] at hll
  have hl3 := h.l3
  obtain ⟨b0, hb0⟩ : ∃ b0, b0 = st.boxes.length := ⟨_, rfl⟩
  refine W_cut (fun E S => Kept st S ∧ At S b0 [.str L.n, L.pv, .str L.v] ∧ E 1 = .ptr b0 0) ?_ ?_
  · rw [← hq]
    simp (maxSteps := 1000000) (disch := omega) only [hbx.1, hbx.2, and_self, allocPV, hqc, qabz, qajz, qalz, evOp, qaoz, qapz, qarz, qatz, qavz,
 ↓reduceIte, Nat.reduceEqDiff, List.append_nil, qawz, true_and]
    refine ⟨Kept.start.alloc, ?_, by rw [hb0]⟩
    rw [hb0]; exact At.last
  clear hbx hqc hq
  rintro e S ⟨hk, hA, h1⟩
  have fin : ∀ (E : Env) (S : St) (b : Bool), Kept st S → rtB L = b → E 2 = .bool b → ∃ rv, resOf E S [.tmp 2] = some rv ∧ leave st S rv = (.bool (rtB L), st) := fun E S b k1 hb k2 =>
    ⟨.bool b, by simp [resOf, rvAll, rv1, k2, notTup, packRes], by rw [hb]; exact k1.leave rfl (fun _ _ => rfl)⟩
  have hld1 := fun (S : St) (hA : At S b0 [.str L.n, L.pv, .str L.v]) => hA.load (k := 1) (v := L.pv) (r := [.str L.v]) rfl
  have hld0 := fun (S : St) (hA : At S b0 [.str L.n, L.pv, .str L.v]) => hA.load (k := 0) (v := .str L.n) (r := [L.pv, .str L.v]) rfl
  have hld2 := fun (S : St) (hA : At S b0 [.str L.n, L.pv, .str L.v]) => hA.load (k := 2) (v := .str L.v) (r := []) rfl
  simp (maxSteps := 1000000) (disch := omega) only [h1, faddrPV, Nat.zero_add, hld1 S hA, hll, qaaz, qabz, qadz, qajz, qalz, evOp, qaoz, qapz, qarz, qatz, qavz,
 ↓reduceIte, Option.map_some, qazz]
  obtain ⟨I, hI⟩ : ∃ I : Nat → Env → St → Prop, I = fun z E S => ∃ i, z = L.ps.length - i ∧ i ≤ L.ps.length ∧ Kept st S ∧ At S b0 [.str L.n, L.pv, .str L.v] ∧ (∀ j, j < i → parOK (L.ps.getD j ([], [])) ∧ ∀ k, k < j → (L.ps.getD k ([], [])).1 ≠ (L.ps.getD j ([], [])).1) ∧ E 1 = .ptr b0 0 ∧ E 8 = L.pv ∧ E 9 = .int .i64 (L.ps.length : Int) ∧ E 10 = .int .i64 (i : Int) := ⟨_, rfl⟩
  refine W_loop I ?_ (n := L.ps.length) (by
    rw [hI]
    exact ⟨0, rfl, by omega, hk, hA, fun j hj => by omega, h1, rfl, rfl, rfl⟩)
  clear hk hA h1
  intro z e S hh
  rw [hI] at hh
  obtain ⟨i, rfl, hi, hk, hA, hall, h1, h8, h9, h10⟩ := hh
  by_cases hlt : i < L.ps.length
  · obtain ⟨f, hfe⟩ : ∃ f, f = L.ps.getD i ([], []) := ⟨_, rfl⟩
    have hfm : f ∈ L.ps := by rw [hfe]; simp [List.getD, hlt]
    have hf4 := h.l4 f hfm
    have hnot : ¬ parOK f → ¬ rtP L := fun hn hp => hn (by rw [hfe]; exact hp.2.2.2.2.1 i hlt)
    have hnm : ∀ S : St, call prog (.fn 64 []) [.str f.1] S = some (.bool (nmB f.1), S) := fun S => sName_spec (by omega)
    have htx : ∀ S : St, call prog (.fn 65 []) [.str f.2, .int .i64 256] S = some (.bool (txB f.2 && decide (f.2.length ≤ 256)), S) := fun S => sText_spec (m := 256) (by omega)
    have hco : ∀ S : St, call prog (.fn 66 []) [.str f.2, .str [34]] S = some (.bool (hasB f.2 [34]), S) := fun S => Contains_spec (by omega)
    have hk2 := hk.alloc' (z := [.str f.1, .str f.2])
    have hA2 := hA.alloc (z := [.str f.1, .str f.2]) (T := S.toks) (Lp := S.loops) (lo := S.low)
    cases q1 : nmB f.1 with
    | false =>
      rw [q1] at hnm
      simp (maxSteps := 1000000) (disch := omega) only [h8, h9, h10, hlt, iaddr_f h.vs, ← hfe, load_f2, allocPV, store_f, faddrPV, Nat.add_zero, load_b0, hnm, qaaz, qabz, qacz, qadz, qaez, qaiz, qajz, qakz, qalz, qamz, qanz, evOp, qaoz, qapz, qaqz, qarz, qatz, qauz, qavz,
 ↓reduceIte, Nat.reduceEqDiff, List.map_cons, List.map_nil, Option.map_some, qazz, qbaz, qbez, qbhz, qbiz, qblz, qbpz, qcfz, beq_false, decide_true, Int.toNat_natCast, Int.ofNat_lt, Bool.false_eq_true, Bool.not_true, Bool.not_false]
      exact fin _ _ false hk2 (rtB_false (hnot fun hp => by rw [hp.1] at q1; cases q1)) rfl
    | true =>
    rw [q1] at hnm
    cases q2 : (txB f.2 && decide (f.2.length ≤ 256)) with
    | false =>
      rw [q2] at htx
      simp (maxSteps := 1000000) (disch := omega) only [h8, h9, h10, hlt, iaddr_f h.vs, ← hfe, load_f2, allocPV, store_f, faddrPV, Nat.add_zero, Nat.zero_add, load_b0, load_b1, hnm, htx, qaaz, qabz, qacz, qadz, qaez, qaiz, qajz, qakz, qalz, qamz, qanz, evOp, qaoz, qapz, qaqz, qarz, qatz, qauz, qavz,
 ↓reduceIte, Nat.reduceEqDiff, List.map_cons, List.map_nil, Option.map_some, qazz, qbaz, qbez, qbhz, qbiz, qblz, qbpz, qcfz, beq_false, decide_true, Int.toNat_natCast, Int.ofNat_lt, Bool.false_eq_true, Bool.not_true, Bool.not_false]
      exact fin _ _ false hk2 (rtB_false (hnot fun hp => by rw [hp.2.1] at q2; simp [hp.2.2.1] at q2)) rfl
    | true =>
    rw [q2] at htx
    cases q3 : hasB f.2 [34] with
    | true =>
      rw [q3] at hco
      simp (maxSteps := 1000000) (disch := omega) only [h8, h9, h10, hlt, iaddr_f h.vs, ← hfe, load_f2, allocPV, store_f, faddrPV, Nat.add_zero, Nat.zero_add, load_b0, load_b1, hnm, htx, hco, qaaz, qabz, qacz, qadz, qaez, qaiz, qajz, qakz, qalz, qamz, qanz, evOp, qaoz, qapz, qaqz, qarz, qatz, qauz, qavz,
 ↓reduceIte, Nat.reduceEqDiff, List.map_cons, List.map_nil, Option.map_some, qazz, qbaz, qbez, qbhz, qbiz, qblz, qbpz, qcfz, beq_false, decide_true, Int.toNat_natCast, Int.ofNat_lt, Bool.false_eq_true, Bool.not_true, Bool.not_false]
      exact fin _ _ false hk2 (rtB_false (hnot fun hp => by rw [hp.2.2.2] at q3; cases q3)) rfl
    | false =>
    rw [q3] at hco
    have hpar : parOK f := by
      simp only [Bool.and_eq_true, decide_eq_true_eq] at q2
      exact ⟨q1, q2.1, q2.2, q3⟩
    obtain ⟨y, hy1, hy2⟩ := slc_vs (k := .i64) (c := i) h.vs (by omega) (by simpa using hi)
    rw [← List.map_take] at hy2
    have hly := len_vs hy2
    rw [List.length_map, List.length_take, Nat.min_eq_left hi] at hly
    simp (maxSteps := 1000000) (disch := omega) only [h1, h8, h9, h10, hlt, iaddr_f h.vs, ← hfe, load_f2, allocPV, store_f, faddrPV, Nat.add_zero, Nat.zero_add, load_b0, load_b1, hnm, htx, hco, hld1 _ hA2, hy1, hly, qaaz, qabz, qacz, qadz, qaez, qajz, qakz, qalz, qamz, qanz, evOp, qaoz, qapz, qaqz, qarz, qatz, qauz, qavz,
 ↓reduceIte, Nat.reduceEqDiff, List.map_cons, List.map_nil, Option.map_some, Option.map_none, qazz, qbhz, qbpz, qcfz, beq_false, decide_true, Int.toNat_natCast, Int.ofNat_lt, Bool.false_eq_true, Bool.not_true, Bool.not_false]
    obtain ⟨b1, hb1⟩ : ∃ b1, b1 = S.boxes.length := ⟨_, rfl⟩
    obtain ⟨II, hII⟩ : ∃ II : Nat → Env → St → Prop, II = fun z E S => ∃ k, z = i - k ∧ k ≤ i ∧ Kept st S ∧ At S b0 [.str L.n, L.pv, .str L.v] ∧ At S b1 [.str f.1, .str f.2] ∧ (∀ j, j < k → (L.ps.getD j ([], [])).1 ≠ f.1) ∧ E 1 = .ptr b0 0 ∧ E 4 = .ptr b1 0 ∧ E 8 = L.pv ∧ E 9 = .int .i64 (L.ps.length : Int) ∧ E 10 = .int .i64 (i : Int) ∧ E 33 = y ∧ E 34 = .int .i64 (i : Int) ∧ E 35 = .int .i64 (k : Int) := ⟨_, rfl⟩
    refine W_loop II ?_ (n := i) (by
      rw [hII]
      exact ⟨0, rfl, by omega, hk2, hA2, by rw [hb1]; exact At.last, fun j hj => by omega, h1, by rw [hb1]; rfl, h8, h9, h10, rfl, rfl, rfl⟩)
    clear hk hA hk2 hA2 h1 h8 h9 h10
    intro z e S hh
    rw [hII] at hh
    obtain ⟨k, rfl, hki, hk, hA, hB, hdif, h1, h4, h8, h9, h10, h33, h34, h35⟩ := hh
    have hldB := hB.load (k := 0) (v := .str f.1) (r := [.str f.2]) rfl
    by_cases hkt : k < i
    · obtain ⟨g, hge⟩ : ∃ g, g = L.ps.getD k ([], []) := ⟨_, rfl⟩
      have hgt : (L.ps.take i).getD k ([], []) = g := by
        rw [hge]; simp [List.getD, hkt]
      have hiy := iaddr_f (k := .i64) (c := (k : Int)) hy2 (by omega) (by rw [Int.toNat_natCast, List.length_take, Nat.min_eq_left hi]; exact hkt)
      rw [Int.toNat_natCast, hgt] at hiy
      have hk3 := hk.alloc' (z := [.str g.1, .str g.2])
      have hA3 := hA.alloc (z := [.str g.1, .str g.2]) (T := S.toks) (Lp := S.loops) (lo := S.low)
      have hB3 := hB.alloc (z := [.str g.1, .str g.2]) (T := S.toks) (Lp := S.loops) (lo := S.low)
      have hldB3 := hB3.load (k := 0) (v := .str f.1) (r := [.str f.2]) rfl
      by_cases hgf : g.1 = f.1
      · simp (maxSteps := 1000000) (disch := omega) only [h4, h33, h34, h35, hkt, hiy, load_f2, allocPV, store_f, faddrPV, Nat.add_zero, load_b0, hldB3, eq_true hgf, qaaz, qabz, qacz, qadz, qaez, qaiz, qajz, qalz, evOp, qaoz, qapz, qarz, qatz, qauz, qavz,
 ↓reduceIte, Nat.reduceEqDiff, Option.map_some, qazz, qbaz, qbez, qbhz, qbiz, qblz, qbpz, qcbz, decide_true, Int.ofNat_lt]
        exact fin _ _ false hk3 (rtB_false fun hp => hp.2.2.2.2.2 i hlt k hkt (by rw [← hge, ← hfe]; exact hgf)) rfl
      · simp (maxSteps := 1000000) (disch := omega) only [h4, h33, h34, h35, hkt, hiy, load_f2, allocPV, store_f, faddrPV, Nat.add_zero, load_b0, hldB3, hgf, add_n, qaaz, qabz, qacz, qadz, qaez, qajz, qalz, evOp, qaoz, qapz, qarz, qatz, qauz, qavz,
 ↓reduceIte, Nat.reduceEqDiff, Option.map_some, qazz, qbdz, qbhz, qbpz, qcbz, decide_true, decide_false,
 Int.ofNat_lt, Bool.false_eq_true, Int.reduceToNat]
        refine loopQ_intro (m := i - (k + 1)) (by omega) ?_
        rw [hII]
        refine ⟨k + 1, rfl, by omega, hk3, hA3, hB3, fun j hj => ?_, h1, h4, h8, h9, h10, h33, h34, rfl⟩
        by_cases hjk : j = k
        · subst hjk; rw [← hge]; exact hgf
        · exact hdif j (by omega)
    · obtain rfl : k = i := by omega
      simp (maxSteps := 1000000) (disch := omega) only [h10, h34, h35, hkt, add_n, qaaz, qabz, qacz, qagz, qajz, qalz, evOp, qaoz, qapz, qarz, qatz, qavz,
 ↓reduceIte, Nat.reduceEqDiff, Option.map_some, qazz, qbbz, qbdz, qbfz, qbhz, qbjz, qbpz, decide_false,
 Int.ofNat_lt, Bool.false_eq_true, Int.reduceToNat]
      refine loopQ_intro (m := L.ps.length - (k + 1)) (by omega) ?_
      rw [hI]
      refine ⟨k + 1, rfl, by omega, hk, hA, fun j hj => ?_, h1, h8, h9, rfl⟩
      by_cases hji : j = k
      · subst hji
        refine ⟨by rw [← hfe]; exact hpar, fun k' hk' => by rw [← hfe]; exact hdif k' hk'⟩
      · exact hall j (by omega)
  · obtain rfl : i = L.ps.length := by omega
    have hnm : ∀ S : St, call prog (.fn 64 []) [.str L.n] S = some (.bool (nmB L.n), S) := fun S => sName_spec (by have := h.l1; omega)
    have htx : ∀ S : St, call prog (.fn 65 []) [.str L.v, .int .i64 4096] S = some (.bool (txB L.v && decide (L.v.length ≤ 4096)), S) := fun S => sText_spec (m := 4096) (by have := h.l2; omega)
    cases q1 : nmB L.n with
    | false =>
      rw [q1] at hnm
      simp (maxSteps := 1000000) (disch := omega) only [h1, h9, h10, hlt, faddrPV, Nat.zero_add, hld0 S hA, hnm, qaaz, qabz, qacz, qagz, qaiz, qajz, qakz, qalz, qamz, qanz, evOp, qaoz, qapz, qaqz, qarz, qatz, qavz,
 ↓reduceIte, Nat.reduceEqDiff, List.map_cons, List.map_nil, Option.map_some, qazz, qbbz, qbfz, qbhz, qbjz, qblz, qbpz, beq_true, decide_false,
 Int.ofNat_lt, Bool.false_eq_true]
      exact fin _ _ false hk (rtB_false fun hp => by rw [hp.1] at q1; cases q1) rfl
    | true =>
    rw [q1] at hnm
    cases q2 : (txB L.v && decide (L.v.length ≤ 4096)) with
    | false =>
      rw [q2] at htx
      simp (maxSteps := 1000000) (disch := omega) only [h1, h9, h10, hlt, faddrPV, Nat.zero_add, hld0 S hA, hld2 S hA, hnm, htx, qaaz, qabz, qacz, qagz, qaiz, qajz, qakz, qalz, qamz, qanz, evOp, qaoz, qapz, qaqz, qarz, qatz, qavz,
 ↓reduceIte, Nat.reduceEqDiff, List.map_cons, List.map_nil, Option.map_some, qazz, qbbz, qbfz, qbhz, qbjz, qblz, qbpz, beq_true, decide_false,
 Int.ofNat_lt, Bool.false_eq_true]
      exact fin _ _ false hk (rtB_false fun hp => by rw [hp.2.1] at q2; simp [hp.2.2.1] at q2) rfl
    | true =>
    rw [q2] at htx
    simp only [Bool.and_eq_true, decide_eq_true_eq] at q2
    by_cases q3 : L.ps.length ≤ 16
    · have e3 : (L.ps.length : Int) ≤ 16 := by omega
      simp (maxSteps := 1000000) (disch := omega) only [h1, h9, h10, hlt, faddrPV, Nat.zero_add, hld0 S hA, hld1 S hA, hld2 S hA, hnm, htx, hll, e3, qaaz, qabz, qacz, qagz, qaiz, qajz, qakz, qalz, qamz, qanz, evOp, qaoz, qapz, qaqz, qarz, qatz, qavz,
 ↓reduceIte, Nat.reduceEqDiff, List.map_cons, List.map_nil, Option.map_some, qazz, qbbz, qbfz, qbhz, qbjz, qblz, qbpz, qbqz, beq_true, decide_true, decide_false,
 Int.ofNat_lt, Bool.false_eq_true]
      exact fin _ _ true hk (rtB_true ⟨q1, q2.1, q2.2, q3, fun i hi => (hall i hi).1, fun i hi => (hall i hi).2⟩) rfl
    · have e3 : ¬ (L.ps.length : Int) ≤ 16 := by omega
      simp (maxSteps := 1000000) (disch := omega) only [h1, h9, h10, hlt, faddrPV, Nat.zero_add, hld0 S hA, hld1 S hA, hld2 S hA, hnm, htx, hll, e3, qaaz, qabz, qacz, qagz, qaiz, qajz, qakz, qalz, qamz, qanz, evOp, qaoz, qapz, qaqz, qarz, qatz, qavz,
 ↓reduceIte, Nat.reduceEqDiff, List.map_cons, List.map_nil, Option.map_some, qazz, qbbz, qbfz, qbhz, qbjz, qblz, qbpz, qbqz, beq_true, decide_false,
 Int.ofNat_lt, Bool.false_eq_true]
      exact fin _ _ false hk (rtB_false fun hp => q3 hp.2.2.2.1) rfl
theorem sRight_spec {L : Ln} (h : L.ok) : call prog (.fn 50 []) [lV L] st = some (.bool (rtB L), st) := sRightR_spec h.r
end Go.Ab
/-
  Lines that may be, by the document.
-/
namespace Go.Ab
variable {st s : St} {e : Env}

theorem load_ch {a : PV} {r : List PV} : loadPV st false 1 (.cp (a :: r)) = some a := rfl

set_option maxHeartbeats 1000000 in
theorem rRightR_spec {L : Ln} (h : L.okR) : call prog (.fn 51 []) [lV L] st = some (.bool (rtB L), st) := by
  refine call_of_W prog_51 ?_
  unfold F_posthornref10_Right; dsimp only
  have hbx := box_l h (n := st.boxes.length)
  obtain ⟨q, hq⟩ : ∃ q, q = lV L := ⟨_, rfl⟩
  rw [← hq] at hbx
  have hqc : q.cells = [.str L.n, L.pv, .str L.v] := by rw [hq]; rfl
  rw [hqc] at hbx
  have hll := len_vs h.vs
  rw [List.length_map] at hll
  have hl3 := h.l3
  obtain ⟨b0, hb0⟩ : ∃ b0, b0 = st.boxes.length := ⟨_, rfl⟩
  refine W_cut (fun E S => Kept st S ∧ At S b0 [.str L.n, L.pv, .str L.v] ∧ E 1 = .ptr b0 0) ?_ ?_
  · rw [← hq]
    simp (maxSteps := 1000000) (disch := omega) only [hbx.1, hbx.2, and_self, allocPV, hqc, qabz, qajz, qalz, evOp, qaoz, qapz, qarz, qatz, qavz,
 ↓reduceIte, Nat.reduceEqDiff, List.append_nil, qawz, true_and]
    refine ⟨Kept.start.alloc, ?_, by rw [hb0]⟩
    rw [hb0]; exact At.last
  clear hbx hqc hq
  rintro e S ⟨hk, hA, h1⟩
  have fin : ∀ (E : Env) (S : St) (b : Bool), Kept st S → rtB L = b → E 2 = .bool b → ∃ rv, resOf E S [.tmp 2] = some rv ∧ leave st S rv = (.bool (rtB L), st) := fun E S b k1 hb k2 =>
    ⟨.bool b, by simp [resOf, rvAll, rv1, k2, notTup, packRes], by rw [hb]; exact k1.leave rfl (fun _ _ => rfl)⟩
  have hld1 := fun (S : St) (hA : At S b0 [.str L.n, L.pv, .str L.v]) => hA.load (k := 1) (v := L.pv) (r := [.str L.v]) rfl
  have hld0 := fun (S : St) (hA : At S b0 [.str L.n, L.pv, .str L.v]) => hA.load (k := 0) (v := .str L.n) (r := [L.pv, .str L.v]) rfl
  have hld2 := fun (S : St) (hA : At S b0 [.str L.n, L.pv, .str L.v]) => hA.load (k := 2) (v := .str L.v) (r := []) rfl
  have hnm : ∀ S : St, call prog (.fn 67 []) [.str L.n] S = some (.bool (nmB L.n), S) := fun S => rNm_spec (by have := h.l1; omega)
  have htx : ∀ S : St, call prog (.fn 68 []) [.str L.v] S = some (.bool (txB L.v), S) := fun S => rText_spec (by have := h.l2; omega)
  cases q1 : nmB L.n with
  | false =>
    rw [q1] at hnm
    simp (maxSteps := 1000000) (disch := omega) only [h1, faddrPV, Nat.zero_add, hld0 S hA, hnm, qaaz, qabz, qacz, qaiz, qajz, qakz, qalz, qamz, qanz, evOp, qaoz, qapz, qaqz, qarz, qatz, qavz,
 ↓reduceIte, Nat.reduceEqDiff, List.map_cons, List.map_nil, Option.map_some, qazz, qbaz, qbhz, qblz, qcfz, beq_false, Bool.false_eq_true, Bool.not_true, Bool.not_false]
    exact fin _ _ false hk (rtB_false fun hp => by rw [hp.1] at q1; cases q1) rfl
  | true =>
  rw [q1] at hnm
  cases q2 : txB L.v with
  | false =>
    rw [q2] at htx
    simp (maxSteps := 1000000) (disch := omega) only [h1, faddrPV, Nat.zero_add, hld0 S hA, hld2 S hA, hnm, htx, qaaz, qabz, qacz, qaiz, qajz, qakz, qalz, qamz, qanz, evOp, qaoz, qapz, qaqz, qarz, qatz, qavz,
 ↓reduceIte, Nat.reduceEqDiff, List.map_cons, List.map_nil, Option.map_some, qazz, qbaz, qbhz, qblz, qcfz, beq_false, Bool.false_eq_true, Bool.not_true, Bool.not_false]
    exact fin _ _ false hk (rtB_false fun hp => by rw [hp.2.1] at q2; cases q2) rfl
  | true =>
  rw [q2] at htx
  by_cases q3 : 4096 < L.v.length
  · have e3 : (4096 : Int) < (L.v.length : Int) := by omega
    simp (maxSteps := 1000000) (disch := omega) only [h1, faddrPV, Nat.zero_add, hld0 S hA, hld2 S hA, hnm, htx, len_s, e3, qaaz, qabz, qacz, qaiz, qajz, qakz, qalz, qamz, qanz, evOp, qaoz, qapz, qaqz, qarz, qatz, qavz,
 ↓reduceIte, Nat.reduceEqDiff, List.map_cons, List.map_nil, Option.map_some, qazz, qbaz, qbhz, qblz, qbrz, qcfz, beq_false, decide_true, Bool.false_eq_true, Bool.not_true, Bool.not_false]
    exact fin _ _ false hk (rtB_false fun hp => by have := hp.2.2.1; omega) rfl
  have e3 : ¬ (4096 : Int) < (L.v.length : Int) := by omega
  by_cases q4 : 16 < L.ps.length
  · have e4 : (16 : Int) < (L.ps.length : Int) := by omega
    simp (maxSteps := 1000000) (disch := omega) only [h1, faddrPV, Nat.zero_add, hld0 S hA, hld1 S hA, hld2 S hA, hnm, htx, hll, len_s, e3, e4, qaaz, qabz, qacz, qaiz, qajz, qakz, qalz, qamz, qanz, evOp, qaoz, qapz, qaqz, qarz, qatz, qavz,
 ↓reduceIte, Nat.reduceEqDiff, List.map_cons, List.map_nil, Option.map_some, qazz, qbaz, qbhz, qblz, qbrz, qcfz, beq_false, decide_true, decide_false,
 Bool.false_eq_true, Bool.not_true, Bool.not_false]
    exact fin _ _ false hk (rtB_false fun hp => by have := hp.2.2.2.1; omega) rfl
  have e4 : ¬ (16 : Int) < (L.ps.length : Int) := by omega
  simp (maxSteps := 1000000) (disch := omega) only [h1, faddrPV, Nat.zero_add, hld0 S hA, hld1 S hA, hld2 S hA, hnm, htx, hll, len_s, e3, e4, qaaz, qabz, qacz, qadz, qaez, qajz, qakz, qalz, qamz, qanz, evOp, qaoz, qapz, qaqz, qarz, qatz, qavz,
 ↓reduceIte, Nat.reduceEqDiff, List.map_cons, List.map_nil, Option.map_some, qazz, qbhz, qbrz, qcfz, beq_false, decide_false,
 Bool.false_eq_true, Bool.not_true, Bool.not_false]
  obtain ⟨I, hI⟩ : ∃ I : Nat → Env → St → Prop, I = fun z E S => ∃ i, z = L.ps.length - i ∧ i ≤ L.ps.length ∧ Kept st S ∧ At S b0 [.str L.n, L.pv, .str L.v] ∧ (∀ j, j < i → parOK (L.ps.getD j ([], [])) ∧ ∀ k, k < j → (L.ps.getD k ([], [])).1 ≠ (L.ps.getD j ([], [])).1) ∧ E 1 = .ptr b0 0 ∧ E 3 = .int .i64 (i : Int) := ⟨_, rfl⟩
  refine W_loop I ?_ (n := L.ps.length) (by
    rw [hI]
    exact ⟨0, rfl, by omega, hk, hA, fun j hj => by omega, h1, rfl⟩)
  clear hk hA h1
  intro z e S hh
  rw [hI] at hh
  obtain ⟨i, rfl, hi, hk, hA, hall, h1, h3⟩ := hh
  by_cases hlt : i < L.ps.length
  · obtain ⟨f, hfe⟩ : ∃ f, f = L.ps.getD i ([], []) := ⟨_, rfl⟩
    have hfm : f ∈ L.ps := by rw [hfe]; simp [List.getD, hlt]
    have hf4 := h.l4 f hfm
    have hnot : ¬ parOK f → ¬ rtP L := fun hn hp => hn (by rw [hfe]; exact hp.2.2.2.2.1 i hlt)
    have hnm2 : ∀ S : St, call prog (.fn 67 []) [.str f.1] S = some (.bool (nmB f.1), S) := fun S => rNm_spec (by omega)
    have htx2 : ∀ S : St, call prog (.fn 68 []) [.str f.2] S = some (.bool (txB f.2), S) := fun S => rText_spec (by omega)
    have hco : ∀ S : St, call prog (.fn 56 []) [.str f.2, .str [34]] S = some (.bool (hasB f.2 [34]), S) := fun S => Has_spec (by omega) (by simp)
    have hk2 := hk.alloc' (z := [.str f.1, .str f.2])
    have hA2 := hA.alloc (z := [.str f.1, .str f.2]) (T := S.toks) (Lp := S.loops) (lo := S.low)
    cases p1 : nmB f.1 with
    | false =>
      rw [p1] at hnm2
      simp (maxSteps := 1000000) (disch := omega) only [h1, h3, hld1 S hA, hll, hlt, iaddr_f h.vs, ← hfe, load_f2, allocPV, store_f, faddrPV, Nat.add_zero, Nat.zero_add, load_b0, hnm2, qaaz, qabz, qacz, qadz, qaez, qaiz, qajz, qakz, qalz, qamz, qanz, evOp, qaoz, qapz, qaqz, qarz, qatz, qauz, qavz,
 ↓reduceIte, Nat.reduceEqDiff, List.map_cons, List.map_nil, Option.map_some, qazz, qbaz, qbez, qbhz, qbiz, qblz, qbpz, qcfz, beq_false, decide_true, Int.toNat_natCast, Int.ofNat_lt, Bool.false_eq_true, Bool.not_true, Bool.not_false]
      exact fin _ _ false hk2 (rtB_false (hnot fun hp => by rw [hp.1] at p1; cases p1)) rfl
    | true =>
    rw [p1] at hnm2
    cases p2 : txB f.2 with
    | false =>
      rw [p2] at htx2
      simp (maxSteps := 1000000) (disch := omega) only [h1, h3, hld1 S hA, hll, hlt, iaddr_f h.vs, ← hfe, load_f2, allocPV, store_f, faddrPV, Nat.add_zero, Nat.zero_add, load_b0, load_b1, hnm2, htx2, qaaz, qabz, qacz, qadz, qaez, qaiz, qajz, qakz, qalz, qamz, qanz, evOp, qaoz, qapz, qaqz, qarz, qatz, qauz, qavz,
 ↓reduceIte, Nat.reduceEqDiff, List.map_cons, List.map_nil, Option.map_some, qazz, qbaz, qbez, qbhz, qbiz, qblz, qbpz, qcfz, beq_false, decide_true, Int.toNat_natCast, Int.ofNat_lt, Bool.false_eq_true, Bool.not_true, Bool.not_false]
      exact fin _ _ false hk2 (rtB_false (hnot fun hp => by rw [hp.2.1] at p2; cases p2)) rfl
    | true =>
    rw [p2] at htx2
    by_cases p3 : 256 < f.2.length
    · have g3 : (256 : Int) < (f.2.length : Int) := by omega
      simp (maxSteps := 1000000) (disch := omega) only [h1, h3, hld1 S hA, hll, hlt, iaddr_f h.vs, ← hfe, load_f2, allocPV, store_f, faddrPV, Nat.add_zero, Nat.zero_add, load_b0, load_b1, hnm2, htx2, len_s, g3, qaaz, qabz, qacz, qadz, qaez, qaiz, qajz, qakz, qalz, qamz, qanz, evOp, qaoz, qapz, qaqz, qarz, qatz, qauz, qavz,
 ↓reduceIte, Nat.reduceEqDiff, List.map_cons, List.map_nil, Option.map_some, qazz, qbaz, qbez, qbhz, qbiz, qblz, qbpz, qbrz, qcfz, beq_false, decide_true, Int.toNat_natCast, Int.ofNat_lt, Bool.false_eq_true, Bool.not_true, Bool.not_false]
      exact fin _ _ false hk2 (rtB_false (hnot fun hp => by have := hp.2.2.1; omega)) rfl
    have g3 : ¬ (256 : Int) < (f.2.length : Int) := by omega
    cases p4 : hasB f.2 [34] with
    | true =>
      rw [p4] at hco
      simp (maxSteps := 1000000) (disch := omega) only [h1, h3, hld1 S hA, hll, hlt, iaddr_f h.vs, ← hfe, load_f2, allocPV, store_f, faddrPV, Nat.add_zero, Nat.zero_add, load_b0, load_b1, hnm2, htx2, len_s, g3, hco, qaaz, qabz, qacz, qadz, qaez, qaiz, qajz, qakz, qalz, qamz, qanz, evOp, qaoz, qapz, qaqz, qarz, qatz, qauz, qavz,
 ↓reduceIte, Nat.reduceEqDiff, List.map_cons, List.map_nil, Option.map_some, qazz, qbaz, qbez, qbhz, qbiz, qblz, qbpz, qbrz, qcfz, beq_false, decide_true, decide_false,
 Int.toNat_natCast, Int.ofNat_lt, Bool.false_eq_true, Bool.not_true, Bool.not_false]
      exact fin _ _ false hk2 (rtB_false (hnot fun hp => by rw [hp.2.2.2] at p4; cases p4)) rfl
    | false =>
    rw [p4] at hco
    have hpar : parOK f := ⟨p1, p2, by omega, p4⟩
    simp (maxSteps := 1000000) (disch := omega) only [h1, h3, hld1 S hA, hll, hlt, iaddr_f h.vs, ← hfe, load_f2, allocPV, store_f, faddrPV, Nat.add_zero, Nat.zero_add, load_b0, load_b1, hnm2, htx2, len_s, g3, hco, qaaz, qabz, qacz, qadz, qaez, qajz, qakz, qalz, qamz, qanz, evOp, qaoz, qapz, qaqz, qarz, qatz, qauz, qavz,
 ↓reduceIte, Nat.reduceEqDiff, List.map_cons, List.map_nil, Option.map_some, qazz, qbhz, qbpz, qbrz, qcfz, beq_false, decide_true, decide_false,
 Int.toNat_natCast, Int.ofNat_lt, Bool.false_eq_true, Bool.not_true, Bool.not_false]
    obtain ⟨b1, hb1⟩ : ∃ b1, b1 = S.boxes.length := ⟨_, rfl⟩
    obtain ⟨II, hII⟩ : ∃ II : Nat → Env → St → Prop, II = fun z E S => ∃ k, z = i - k ∧ k ≤ i ∧ Kept st S ∧ At S b0 [.str L.n, L.pv, .str L.v] ∧ At S b1 [.str f.1, .str f.2] ∧ (∀ j, j < k → (L.ps.getD j ([], [])).1 ≠ f.1) ∧ E 1 = .ptr b0 0 ∧ E 4 = .ptr b1 0 ∧ E 3 = .int .i64 (i : Int) ∧ E 5 = .int .i64 (k : Int) := ⟨_, rfl⟩
    refine W_loop II ?_ (n := i) (by
      rw [hII]
      exact ⟨0, rfl, by omega, hk2, hA2, by rw [hb1]; exact At.last, fun j hj => by omega, h1, by rw [hb1]; rfl, h3, rfl⟩)
    clear hk hA hk2 hA2 h1 h3
    intro z e S hh
    rw [hII] at hh
    obtain ⟨k, rfl, hki, hk, hA, hB, hdif, h1, h4, h3, h5⟩ := hh
    have hldB := hB.load (k := 0) (v := .str f.1) (r := [.str f.2]) rfl
    by_cases hkt : k < i
    · obtain ⟨g, hge⟩ : ∃ g, g = L.ps.getD k ([], []) := ⟨_, rfl⟩
      have hiy := iaddr_f (k := .i64) (c := (k : Int)) h.vs (by omega) (by rw [Int.toNat_natCast]; omega)
      rw [Int.toNat_natCast, ← hge] at hiy
      by_cases hgf : g.1 = f.1
      · simp (maxSteps := 1000000) (disch := omega) only [h1, h3, h4, h5, hkt, hld1 S hA, hiy, faddrPV, List.drop_zero, load_ch, Nat.add_zero, Nat.zero_add, hldB, eq_true hgf, qaaz, qabz, qacz, qadz, qaez, qaiz, qajz, qalz, evOp, qaoz, qapz, qarz, qatz, qavz,
 ↓reduceIte, Nat.reduceEqDiff, Option.map_some, qazz, qbaz, qbez, qbhz, qbiz, qblz, qbpz, qcbz, decide_true, Int.ofNat_lt]
        exact fin _ _ false hk (rtB_false fun hp => hp.2.2.2.2.2 i hlt k hkt (by rw [← hge, ← hfe]; exact hgf)) rfl
      · simp (maxSteps := 1000000) (disch := omega) only [h1, h3, h4, h5, hkt, hld1 S hA, hiy, faddrPV, List.drop_zero, load_ch, Nat.add_zero, Nat.zero_add, hldB, hgf, add_n, qaaz, qabz, qacz, qadz, qaez, qajz, qalz, evOp, qaoz, qapz, qarz, qatz, qavz,
 ↓reduceIte, Nat.reduceEqDiff, Option.map_some, qazz, qbdz, qbhz, qbpz, qcbz, decide_true, decide_false,
 Int.ofNat_lt, Bool.false_eq_true, Int.reduceToNat]
        refine loopQ_intro (m := i - (k + 1)) (by omega) ?_
        rw [hII]
        refine ⟨k + 1, rfl, by omega, hk, hA, hB, fun j hj => ?_, h1, h4, h3, rfl⟩
        by_cases hjk : j = k
        · subst hjk; rw [← hge]; exact hgf
        · exact hdif j (by omega)
    · obtain rfl : k = i := by omega
      simp (maxSteps := 1000000) (disch := omega) only [h3, h5, hkt, add_n, qaaz, qabz, qacz, qagz, qajz, qalz, evOp, qaoz, qapz, qarz, qatz, qavz,
 ↓reduceIte, Nat.reduceEqDiff, Option.map_some, qazz, qbbz, qbdz, qbfz, qbhz, qbjz, qbpz, decide_false,
 Int.ofNat_lt, Bool.false_eq_true, Int.reduceToNat]
      refine loopQ_intro (m := L.ps.length - (k + 1)) (by omega) ?_
      rw [hI]
      refine ⟨k + 1, rfl, by omega, hk, hA, fun j hj => ?_, h1, rfl⟩
      by_cases hji : j = k
      · subst hji
        exact ⟨by rw [← hfe]; exact hpar, fun k' hk' => by rw [← hfe]; exact hdif k' hk'⟩
      · exact hall j (by omega)
  · obtain rfl : i = L.ps.length := by omega
    simp (maxSteps := 1000000) (disch := omega) only [h1, h3, faddrPV, Nat.zero_add, hld1 S hA, hll, hlt, qaaz, qabz, qacz, qagz, qaiz, qajz, qalz, evOp, qaoz, qapz, qarz, qatz, qavz,
 ↓reduceIte, Nat.reduceEqDiff, Option.map_some, qazz, qbbz, qbfz, qbhz, qbjz, qblz, qbpz, decide_false,
 Int.ofNat_lt, Bool.false_eq_true]
    exact fin _ _ true hk (rtB_true ⟨q1, q2, by omega, by omega, fun i hi => (hall i hi).1, fun i hi => (hall i hi).2⟩) rfl

def quoteOf (v : List UInt8) : List UInt8 := if hasB v [59] = true ∨ hasB v [58] = true ∨ hasB v [44] = true then 34 :: (v ++ [34]) else v
def parOf (p : Fld) : List UInt8 := 59 :: (p.1 ++ 61 :: quoteOf p.2)
def textOfL (L : Ln) : List UInt8 := L.n ++ L.ps.flatMap parOf ++ 58 :: L.v
theorem rRight_spec {L : Ln} (h : L.ok) : call prog (.fn 51 []) [lV L] st = some (.bool (rtB L), st) := rRightR_spec h.r
end Go.Ab
/-
  A line as a text.
-/
namespace Go.Ab
variable {st s : St} {e : Env}

theorem quote_len {v : List UInt8} : (quoteOf v).length ≤ v.length + 2 := by
  unfold quoteOf; split <;> simp
theorem parOf_len {p : Fld} : (parOf p).length ≤ p.1.length + p.2.length + 4 := by
  have := quote_len (v := p.2)
  unfold parOf; simp; omega
theorem pars_len : ∀ {ps : List Fld}, (∀ p ∈ ps, p.1.length + p.2.length ≤ 500) → (ps.flatMap parOf).length ≤ ps.length * 600 := by
  intro ps
  induction ps with
  | nil => intro _; simp
  | cons p r ih =>
    intro h
    have h1 := h p (by simp)
    have h2 := parOf_len (p := p)
    have h3 := ih (fun q hq => h q (by simp [hq]))
    simp only [List.flatMap_cons, List.length_append, List.length_cons]
    omega
theorem textL_len {L : Ln} (h : L.ok) : (textOfL L).length ≤ 23400 := by
  have h1 := pars_len h.l4
  have h2 := h.l1; have h3 := h.l2; have h4 := h.l3
  unfold textOfL
  simp only [List.length_append, List.length_cons]
  omega

set_option maxHeartbeats 1000000 in
theorem line_spec {L : Ln} (h : L.ok) : call prog (.fn 60 []) [lV L] st = some (.str (textOfL L), st) := by
  refine call_of_W prog_60 ?_
  unfold F_sheet_line; dsimp only
  have hbx := box_l h.r (n := st.boxes.length)
  obtain ⟨q, hq⟩ : ∃ q, q = lV L := ⟨_, rfl⟩
  rw [← hq] at hbx
  have hqc : q.cells = [.str L.n, L.pv, .str L.v] := by rw [hq]; rfl
  rw [hqc] at hbx
  have hll := len_vs h.vs
  rw [List.length_map] at hll
  have hl1 := h.l1; have hl2 := h.l2; have hl3 := h.l3
  obtain ⟨b0, hb0⟩ : ∃ b0, b0 = st.boxes.length := ⟨_, rfl⟩
  refine W_cut (fun E S => Kept st S ∧ At S b0 [.str L.n, L.pv, .str L.v] ∧ E 1 = .ptr b0 0) ?_ ?_
  · rw [← hq]
    simp (maxSteps := 1000000) (disch := omega) only [hbx.1, hbx.2, and_self, allocPV, hqc, qabz, qajz, qalz, evOp, qaoz, qapz, qarz, qatz, qavz,
 ↓reduceIte, Nat.reduceEqDiff, List.append_nil, qawz, true_and]
    refine ⟨Kept.start.alloc, ?_, by rw [hb0]⟩
    rw [hb0]; exact At.last
  clear hbx hqc hq
  rintro e S ⟨hk, hA, h1⟩
  have hld1 := fun (S : St) (hA : At S b0 [.str L.n, L.pv, .str L.v]) => hA.load (k := 1) (v := L.pv) (r := [.str L.v]) rfl
  have hld0 := fun (S : St) (hA : At S b0 [.str L.n, L.pv, .str L.v]) => hA.load (k := 0) (v := .str L.n) (r := [L.pv, .str L.v]) rfl
  have hld2 := fun (S : St) (hA : At S b0 [.str L.n, L.pv, .str L.v]) => hA.load (k := 2) (v := .str L.v) (r := []) rfl
  simp (maxSteps := 1000000) (disch := omega) only [h1, faddrPV, Nat.zero_add, hld0 S hA, hld1 S hA, hll, qaaz, qabz, qadz, qajz, qalz, evOp, qaoz, qapz, qarz, qatz, qavz,
 ↓reduceIte, Nat.reduceEqDiff, Option.map_some, qazz]
  obtain ⟨I, hI⟩ : ∃ I : Nat → Env → St → Prop, I = fun z E S => ∃ i, z = L.ps.length - i ∧ i ≤ L.ps.length ∧ Kept st S ∧ At S b0 [.str L.n, L.pv, .str L.v] ∧ E 1 = .ptr b0 0 ∧ E 3 = .str (L.n ++ (L.ps.take i).flatMap parOf) ∧ E 10 = L.pv ∧ E 11 = .int .i64 (L.ps.length : Int) ∧ E 12 = .int .i64 (i : Int) := ⟨_, rfl⟩
  refine W_loop I ?_ (n := L.ps.length) (by
    rw [hI]
    exact ⟨0, rfl, by omega, hk, hA, h1, by simp [upd], rfl, rfl, rfl⟩)
  clear hk hA h1
  intro z e S hh
  rw [hI] at hh
  obtain ⟨i, rfl, hi, hk, hA, h1, h3, h10, h11, h12⟩ := hh
  obtain ⟨out, hout⟩ : ∃ out, out = L.n ++ (L.ps.take i).flatMap parOf := ⟨_, rfl⟩
  rw [← hout] at h3
  have hol : out.length ≤ 20000 := by
    have := pars_len (ps := L.ps.take i) (fun p hp => h.l4 p (List.mem_of_mem_take hp))
    rw [hout, List.length_append]
    have h6 : (L.ps.take i).length ≤ 30 := by simp; omega
    omega
  by_cases hlt : i < L.ps.length
  · obtain ⟨f, hfe⟩ : ∃ f, f = L.ps.getD i ([], []) := ⟨_, rfl⟩
    have hfm : f ∈ L.ps := by rw [hfe]; simp [List.getD, hlt]
    have hf4 := h.l4 f hfm
    have hco : ∀ (c : UInt8) (S : St), call prog (.fn 66 []) [.str f.2, .str [c]] S = some (.bool (hasB f.2 [c]), S) := fun c S => Contains_spec (by omega)
    obtain ⟨b1, hb1⟩ : ∃ b1, b1 = S.boxes.length := ⟨_, rfl⟩
    obtain ⟨J, hJ⟩ : ∃ J : Env → St → Prop, J = fun E S => Kept st S ∧ At S b0 [.str L.n, L.pv, .str L.v] ∧ E 1 = .ptr b0 0 ∧ E 3 = .str out ∧ E 10 = L.pv ∧ E 11 = .int .i64 (L.ps.length : Int) ∧ E 12 = .int .i64 (i : Int) := ⟨_, rfl⟩
    refine W_cut (fun E S => J E S ∧ E 13 = .bool true) ?_ ?_
    · simp (maxSteps := 1000000) (disch := omega) only [h1, h3, h10, h11, h12, hlt, hJ, qabz, qajz, qalz, evOp, qaoz, qarz, qatz, qavz,
 ↓reduceIte, Nat.reduceEqDiff, Option.map_some, qbpz, decide_true, Int.ofNat_lt, true_and, and_true]
      exact ⟨hk, hA⟩
    rintro e' S' ⟨hj, h13⟩
    have hSb : True := trivial
    refine W_cut J ?_ ?_
    · simp (maxSteps := 1000000) (disch := omega) only [h13, qacz, qaez, qaoz, ↓reduceIte, qbhz, true_and]
      exact hj
    clear hk hA h1 h3 h10 h11 h12 hj h13 hb1
    intro e S hj
    rw [hJ] at hj
    obtain ⟨hk, hA, h1, h3, h10, h11, h12⟩ := hj
    rw [qaaz, qadz]
    refine W_cut (fun E S => J E S ∧ ∃ b1, At S b1 [.str f.1, .str f.2] ∧ E 5 = .ptr b1 0) ?_ ?_
    · simp (maxSteps := 1000000) (disch := omega) only [h1, h3, h10, h11, h12, iaddr_f h.vs, ← hfe, load_f2, allocPV, store_f, hJ, qabz, qajz, qalz, evOp, qaoz, qarz, qatz, qauz, qavz,
 ↓reduceIte, Nat.reduceEqDiff, Option.map_some, Int.toNat_natCast, true_and, and_true]
      exact ⟨⟨hk.alloc', hA.alloc⟩, S.boxes.length, At.last, rfl⟩
    clear hk hA h1 h3 h10 h11 h12
    rintro e S ⟨hj, b1, hB, h5⟩
    rw [hJ] at hj
    obtain ⟨hk, hA, h1, h3, h10, h11, h12⟩ := hj
    have hB0 := hB.load (k := 0) (v := .str f.1) (r := [.str f.2]) rfl
    have hB1 := hB.load (k := 1) (v := .str f.2) (r := []) rfl
    refine W_cut (fun E S' => S' = S ∧ J E S' ∧ E 5 = .ptr b1 0 ∧ E 6 = .str f.2) ?_ ?_
    · simp (maxSteps := 1000000) (disch := omega) only [h1, h3, h5, h10, h11, h12, faddrPV, Nat.zero_add, hB1, hJ, qabz, qajz, qalz, evOp, qaoz, qarz, qatz, qavz,
 ↓reduceIte, Nat.reduceEqDiff, Option.map_some, true_and, and_true]
      exact ⟨hk, hA⟩
    clear hk hA h1 h3 h5 h10 h11 h12
    rintro e S' ⟨rfl, hj, h5, h6⟩
    rw [hJ] at hj
    obtain ⟨hk, hA, h1, h3, h10, h11, h12⟩ := hj
    have ha1 : ∀ ek, binPV .add ek (.str [34]) (.str f.2) = some (.str (34 :: f.2)) := fun ek => adds (a := [34]) (b := f.2) (by simp; omega)
    have ha2 : ∀ ek, binPV .add ek (.str (34 :: f.2)) (.str [34]) = some (.str (34 :: (f.2 ++ [34]))) := fun ek => adds (a := 34 :: f.2) (b := [34]) (by simp; omega)
    refine W_cut (fun E S2 => S2 = S' ∧ J E S2 ∧ E 5 = .ptr b1 0 ∧ E 6 = .str (quoteOf f.2)) ?_ ?_
    · cases p1 : hasB f.2 [59] with
      | true =>
        have hqo : quoteOf f.2 = 34 :: (f.2 ++ [34]) := by simp [quoteOf, p1]
        rw [hqo]
        simp (maxSteps := 1000000) (disch := omega) only [h1, h3, h5, h6, h10, h11, h12, hco, p1, ha1, ha2, hJ, qaaz, qabz, qacz, qajz, qakz, qalz, qamz, qanz, evOp, qaoz, qapz, qaqz, qarz, qatz, qavz,
 ↓reduceIte, Nat.reduceEqDiff, List.map_cons, List.map_nil, Option.map_some, qazz, qbhz, beq_false, Bool.false_eq_true, true_and, and_true, Bool.not_true]
        exact ⟨hk, hA⟩
      | false =>
        cases p2 : hasB f.2 [58] with
        | true =>
          have hqo : quoteOf f.2 = 34 :: (f.2 ++ [34]) := by simp [quoteOf, p2]
          rw [hqo]
          simp (maxSteps := 1000000) (disch := omega) only [h1, h3, h5, h6, h10, h11, h12, hco, p1, p2, ha1, ha2, hJ, qaaz, qabz, qacz, qajz, qakz, qalz, qamz, qanz, evOp, qaoz, qapz, qaqz, qarz, qatz, qavz,
 ↓reduceIte, Nat.reduceEqDiff, List.map_cons, List.map_nil, Option.map_some, qazz, qbhz, beq_false, Bool.false_eq_true, true_and, and_true, Bool.not_true, Bool.not_false]
          exact ⟨hk, hA⟩
        | false =>
          cases p3 : hasB f.2 [44] with
          | true =>
            have hqo : quoteOf f.2 = 34 :: (f.2 ++ [34]) := by simp [quoteOf, p3]
            rw [hqo]
            simp (maxSteps := 1000000) (disch := omega) only [h1, h3, h5, h6, h10, h11, h12, hco, p1, p2, p3, ha1, ha2, hJ, qaaz, qabz, qacz, qajz, qakz, qalz, qamz, qanz, evOp, qaoz, qapz, qaqz, qarz, qatz, qavz,
 ↓reduceIte, Nat.reduceEqDiff, List.map_cons, List.map_nil, Option.map_some, qazz, qbhz, beq_false, Bool.false_eq_true, true_and, and_true, Bool.not_false]
            exact ⟨hk, hA⟩
          | false =>
            have hqo : quoteOf f.2 = f.2 := by simp [quoteOf, p1, p2, p3]
            rw [hqo]
            simp (maxSteps := 1000000) (disch := omega) only [h1, h3, h5, h6, h10, h11, h12, hco, p1, p2, p3, hJ, qaaz, qabz, qacz, qaez, qajz, qakz, qalz, qamz, qanz, evOp, qaoz, qapz, qaqz, qarz, qatz, qavz,
 ↓reduceIte, Nat.reduceEqDiff, List.map_cons, List.map_nil, qazz, qbhz, beq_false, Bool.false_eq_true, true_and, and_true, Bool.not_false]
            exact ⟨hk, hA⟩
    clear hk hA h1 h3 h5 h6 h10 h11 h12
    rintro e S2 ⟨rfl, hj, h5, h6⟩
    rw [hJ] at hj
    obtain ⟨hk, hA, h1, h3, h10, h11, h12⟩ := hj
    have hql := quote_len (v := f.2)
    have hb1' : ∀ ek, binPV .add ek (.str [59]) (.str f.1) = some (.str (59 :: f.1)) := fun ek => adds (a := [59]) (b := f.1) (by simp; omega)
    have hb2' : ∀ ek, binPV .add ek (.str (59 :: f.1)) (.str [61]) = some (.str (59 :: (f.1 ++ [61]))) := fun ek => adds (a := 59 :: f.1) (b := [61]) (by simp; omega)
    have hb3' : ∀ ek, binPV .add ek (.str (59 :: (f.1 ++ [61]))) (.str (quoteOf f.2)) = some (.str (parOf f)) := fun ek => by
      rw [adds (by simp; omega)]; simp [parOf]
    have hpl := parOf_len (p := f)
    have hb4' : ∀ ek, binPV .add ek (.str out) (.str (parOf f)) = some (.str (out ++ parOf f)) := fun ek => adds (by omega)
    simp (maxSteps := 1000000) (disch := omega) only [h3, h5, h6, h12, faddrPV, Nat.zero_add, hB0, hb1', hb2', hb3', hb4', add_n, qabz, qajz, qalz, evOp, qaoz, qapz, qarz, qatz, qavz,
 ↓reduceIte, Nat.reduceEqDiff, Option.map_some, qazz, qbdz, Int.reduceToNat]
    refine loopQ_intro (m := L.ps.length - (i + 1)) (by omega) ?_
    rw [hI]
    refine ⟨i + 1, rfl, by omega, hk, hA, h1, ?_, h10, h11, rfl⟩
    show PV.str (out ++ parOf f) = _
    rw [hout, take_getD' hlt, ← hfe, List.flatMap_append]
    simp
  · obtain rfl : i = L.ps.length := by omega
    have ha1 : ∀ ek, binPV .add ek (.str out) (.str [58]) = some (.str (out ++ [58])) := fun ek => adds (by simp; omega)
    have ha2 : ∀ ek, binPV .add ek (.str (out ++ [58])) (.str L.v) = some (.str (textOfL L)) := fun ek => by
      rw [adds (by simp; omega), hout, List.take_length]; simp [textOfL]
    simp (maxSteps := 1000000) (disch := omega) only [h1, h3, h11, h12, hlt, faddrPV, Nat.zero_add, hld2 S hA, ha1, ha2, qaaz, qabz, qacz, qagz, qaiz, qajz, qalz, evOp, qaoz, qapz, qarz, qatz, qavz,
 ↓reduceIte, Nat.reduceEqDiff, Option.map_some, qazz, qbbz, qbfz, qbhz, qbjz, qblz, qbpz, decide_false,
 Int.ofNat_lt, Bool.false_eq_true]
    exact ⟨.str (textOfL L), rfl, hk.leave rfl (fun _ _ => rfl)⟩
end Go.Ab
/-
  A line as a text, by the document.
-/
namespace Go.Ab
variable {st s : St} {e : Env}

set_option maxHeartbeats 1000000 in
theorem Plain_spec {L : Ln} (h : L.ok) : call prog (.fn 62 []) [lV L] st = some (.str (textOfL L), st) := by
  refine call_of_W prog_62 ?_
  unfold F_posthornref10_Plain; dsimp only
  have hbx := box_l h.r (n := st.boxes.length)
  obtain ⟨q, hq⟩ : ∃ q, q = lV L := ⟨_, rfl⟩
  rw [← hq] at hbx
  have hqc : q.cells = [.str L.n, L.pv, .str L.v] := by rw [hq]; rfl
  rw [hqc] at hbx
  have hll := len_vs h.vs
  rw [List.length_map] at hll
  have hl1 := h.l1; have hl2 := h.l2; have hl3 := h.l3
  obtain ⟨b0, hb0⟩ : ∃ b0, b0 = st.boxes.length := ⟨_, rfl⟩
  refine W_cut (fun E S => Kept st S ∧ At S b0 [.str L.n, L.pv, .str L.v] ∧ E 1 = .ptr b0 0) ?_ ?_
  · rw [← hq]
    simp (maxSteps := 1000000) (disch := omega) only [hbx.1, hbx.2, and_self, allocPV, hqc, qabz, qajz, qalz, evOp, qaoz, qapz, qarz, qatz, qavz,
 ↓reduceIte, Nat.reduceEqDiff, List.append_nil, qawz, true_and]
    refine ⟨Kept.start.alloc, ?_, by rw [hb0]⟩
    rw [hb0]; exact At.last
  clear hbx hqc hq
  rintro e S ⟨hk, hA, h1⟩
  have hld1 := fun (S : St) (hA : At S b0 [.str L.n, L.pv, .str L.v]) => hA.load (k := 1) (v := L.pv) (r := [.str L.v]) rfl
  have hld0 := fun (S : St) (hA : At S b0 [.str L.n, L.pv, .str L.v]) => hA.load (k := 0) (v := .str L.n) (r := [L.pv, .str L.v]) rfl
  have hld2 := fun (S : St) (hA : At S b0 [.str L.n, L.pv, .str L.v]) => hA.load (k := 2) (v := .str L.v) (r := []) rfl
  simp (maxSteps := 1000000) (disch := omega) only [h1, faddrPV, Nat.zero_add, hld0 S hA, qaaz, qabz, qadz, qajz, qalz, evOp, qaoz, qapz, qarz, qatz, qavz,
 ↓reduceIte, Option.map_some, qazz]
  obtain ⟨I, hI⟩ : ∃ I : Nat → Env → St → Prop, I = fun z E S => ∃ i, z = L.ps.length - i ∧ i ≤ L.ps.length ∧ Kept st S ∧ At S b0 [.str L.n, L.pv, .str L.v] ∧ E 1 = .ptr b0 0 ∧ E 3 = .str (L.n ++ (L.ps.take i).flatMap parOf) ∧ E 4 = .int .i64 (i : Int) := ⟨_, rfl⟩
  refine W_loop I ?_ (n := L.ps.length) (by
    rw [hI]
    exact ⟨0, rfl, by omega, hk, hA, h1, by simp [upd], rfl⟩)
  clear hk hA h1
  intro z e S hh
  rw [hI] at hh
  obtain ⟨i, rfl, hi, hk, hA, h1, h3, h4⟩ := hh
  obtain ⟨out, hout⟩ : ∃ out, out = L.n ++ (L.ps.take i).flatMap parOf := ⟨_, rfl⟩
  rw [← hout] at h3
  have hol : out.length ≤ 20000 := by
    have := pars_len (ps := L.ps.take i) (fun p hp => h.l4 p (List.mem_of_mem_take hp))
    rw [hout, List.length_append]
    have h6 : (L.ps.take i).length ≤ 30 := by simp; omega
    omega
  by_cases hlt : i < L.ps.length
  · obtain ⟨f, hfe⟩ : ∃ f, f = L.ps.getD i ([], []) := ⟨_, rfl⟩
    have hfm : f ∈ L.ps := by rw [hfe]; simp [List.getD, hlt]
    have hf4 := h.l4 f hfm
    have hco : ∀ (c : UInt8) (S : St), call prog (.fn 56 []) [.str f.2, .str [c]] S = some (.bool (hasB f.2 [c]), S) := fun c S => Has_spec (by omega) (by simp)
    have hia := iaddr_f (k := .i64) (c := (i : Int)) h.vs (by omega) (by rw [Int.toNat_natCast]; exact hlt)
    rw [Int.toNat_natCast, ← hfe] at hia
    obtain ⟨J, hJ⟩ : ∃ J : Env → St → Prop, J = fun E S2 => S2 = S ∧ E 1 = .ptr b0 0 ∧ E 3 = .str out ∧ E 4 = .int .i64 (i : Int) := ⟨_, rfl⟩
    refine W_cut J ?_ ?_
    · simp (maxSteps := 1000000) (disch := omega) only [h1, h3, h4, faddrPV, Nat.zero_add, hld1 S hA, hll, hlt, hJ, qaaz, qabz, qacz, qaez, qajz, qalz, evOp, qaoz, qarz, qatz, qavz,
 ↓reduceIte, Nat.reduceEqDiff, Option.map_some, qazz, qbhz, qbpz, decide_true, Int.ofNat_lt, and_true]
    clear h1 h3 h4
    intro e S2 hj
    rw [hJ] at hj
    obtain ⟨rfl, h1, h3, h4⟩ := hj
    rw [qaaz, qadz]
    refine W_cut (fun E S => J E S ∧ E 5 = .str f.2) ?_ ?_
    · simp (maxSteps := 1000000) (disch := omega) only [h1, h3, h4, faddrPV, Nat.zero_add, hld1 S2 hA, hia, List.drop_zero, List.drop_succ_cons, hJ, qabz, qajz, qalz, evOp, qaoz, qarz, qatz, qavz,
 ↓reduceIte, Nat.reduceEqDiff, Option.map_some, qciz, true_and, and_true]
    clear h1 h3 h4
    rintro e S ⟨hj, h5⟩
    rw [hJ] at hj
    obtain ⟨rfl, h1, h3, h4⟩ := hj
    have ha1 : ∀ ek, binPV .add ek (.str [34]) (.str f.2) = some (.str (34 :: f.2)) := fun ek => adds (a := [34]) (b := f.2) (by simp; omega)
    have ha2 : ∀ ek, binPV .add ek (.str (34 :: f.2)) (.str [34]) = some (.str (34 :: (f.2 ++ [34]))) := fun ek => adds (a := 34 :: f.2) (b := [34]) (by simp; omega)
    refine W_cut (fun E S => J E S ∧ E 5 = .str (quoteOf f.2)) ?_ ?_
    · cases p1 : hasB f.2 [59] with
      | true =>
        have hqo : quoteOf f.2 = 34 :: (f.2 ++ [34]) := by simp [quoteOf, p1]
        rw [hqo]
        simp (maxSteps := 1000000) (disch := omega) only [h1, h3, h4, h5, hco, p1, ha1, ha2, hJ, qaaz, qabz, qacz, qajz, qakz, qalz, qamz, qanz, evOp, qaoz, qapz, qaqz, qarz, qatz, qavz,
 ↓reduceIte, Nat.reduceEqDiff, List.map_cons, List.map_nil, Option.map_some, qazz, qbhz, beq_false, Bool.false_eq_true, true_and, and_true, Bool.not_true]
      | false =>
        cases p2 : hasB f.2 [58] with
        | true =>
          have hqo : quoteOf f.2 = 34 :: (f.2 ++ [34]) := by simp [quoteOf, p2]
          rw [hqo]
          simp (maxSteps := 1000000) (disch := omega) only [h1, h3, h4, h5, hco, p1, p2, ha1, ha2, hJ, qaaz, qabz, qacz, qajz, qakz, qalz, qamz, qanz, evOp, qaoz, qapz, qaqz, qarz, qatz, qavz,
 ↓reduceIte, Nat.reduceEqDiff, List.map_cons, List.map_nil, Option.map_some, qazz, qbhz, beq_false, Bool.false_eq_true, true_and, and_true, Bool.not_true, Bool.not_false]
        | false =>
          cases p3 : hasB f.2 [44] with
          | true =>
            have hqo : quoteOf f.2 = 34 :: (f.2 ++ [34]) := by simp [quoteOf, p3]
            rw [hqo]
            simp (maxSteps := 1000000) (disch := omega) only [h1, h3, h4, h5, hco, p1, p2, p3, ha1, ha2, hJ, qaaz, qabz, qacz, qajz, qakz, qalz, qamz, qanz, evOp, qaoz, qapz, qaqz, qarz, qatz, qavz,
 ↓reduceIte, Nat.reduceEqDiff, List.map_cons, List.map_nil, Option.map_some, qazz, qbhz, beq_false, Bool.false_eq_true, true_and, and_true, Bool.not_false]
          | false =>
            have hqo : quoteOf f.2 = f.2 := by simp [quoteOf, p1, p2, p3]
            rw [hqo]
            simp (maxSteps := 1000000) (disch := omega) only [h1, h3, h4, h5, hco, p1, p2, p3, hJ, qaaz, qabz, qacz, qaez, qajz, qakz, qalz, qamz, qanz, evOp, qaoz, qapz, qaqz, qarz, qatz, qavz,
 ↓reduceIte, Nat.reduceEqDiff, List.map_cons, List.map_nil, qazz, qbhz, beq_false, Bool.false_eq_true, and_true, Bool.not_false]
    clear h1 h3 h4 h5
    rintro e S2 ⟨hj, h5⟩
    rw [hJ] at hj
    obtain ⟨rfl, h1, h3, h4⟩ := hj
    have hql := quote_len (v := f.2)
    have hb1' : ∀ ek, binPV .add ek (.str out) (.str [59]) = some (.str (out ++ [59])) := fun ek => adds (by simp; omega)
    have hb2' : ∀ ek, binPV .add ek (.str (out ++ [59])) (.str f.1) = some (.str (out ++ [59] ++ f.1)) := fun ek => adds (by simp; omega)
    have hb3' : ∀ ek, binPV .add ek (.str (out ++ [59] ++ f.1)) (.str [61]) = some (.str (out ++ [59] ++ f.1 ++ [61])) := fun ek => adds (by simp; omega)
    have hb4' : ∀ ek, binPV .add ek (.str (out ++ [59] ++ f.1 ++ [61])) (.str (quoteOf f.2)) = some (.str (out ++ parOf f)) := fun ek => by
      rw [adds (by simp; omega)]; simp [parOf]
    simp (maxSteps := 1000000) (disch := omega) only [h1, h3, h4, h5, faddrPV, Nat.zero_add, hld1 _ hA, hia, List.drop_zero, load_ch, hb1', hb2', hb3', hb4', add_n, qabz, qajz, qalz, evOp, qaoz, qapz, qarz, qatz, qavz,
 ↓reduceIte, Nat.reduceEqDiff, Option.map_some, qazz, qbdz, Int.reduceToNat]
    refine loopQ_intro (m := L.ps.length - (i + 1)) (by omega) ?_
    rw [hI]
    refine ⟨i + 1, rfl, by omega, hk, hA, h1, ?_, rfl⟩
    show PV.str (out ++ parOf f) = _
    rw [hout, take_getD' hlt, ← hfe, List.flatMap_append]
    simp
  · obtain rfl : i = L.ps.length := by omega
    have ha1 : ∀ ek, binPV .add ek (.str out) (.str [58]) = some (.str (out ++ [58])) := fun ek => adds (by simp; omega)
    have ha2 : ∀ ek, binPV .add ek (.str (out ++ [58])) (.str L.v) = some (.str (textOfL L)) := fun ek => by
      rw [adds (by simp; omega), hout, List.take_length]; simp [textOfL]
    simp (maxSteps := 1000000) (disch := omega) only [h1, h3, h4, hlt, faddrPV, Nat.zero_add, hld1 S hA, hld2 S hA, hll, ha1, ha2, qaaz, qabz, qacz, qagz, qaiz, qajz, qalz, evOp, qaoz, qapz, qarz, qatz, qavz,
 ↓reduceIte, Nat.reduceEqDiff, Option.map_some, qazz, qbbz, qbfz, qbhz, qbjz, qblz, qbpz, decide_false,
 Int.ofNat_lt, Bool.false_eq_true]
    exact ⟨.str (textOfL L), rfl, hk.leave rfl (fun _ _ => rfl)⟩
end Go.Ab
/-
  Lines are written, folded.
-/
namespace Go.Ab
variable {st s : St} {e : Env}

theorem next_le4 {l : List UInt8} {p n : Nat} (h : nextOf l = some (p, n)) : n ≤ 4 := by
  by_cases hc : (l.getD 0 0).toNat < 128
  · unfold nextOf at h
    split at h
    · cases h
    · cases h; omega
  · obtain ⟨h1, -, -⟩ := next_succ hc h
    omega
theorem near {l : List UInt8} {m : Nat} (hm : m < l.length) : ∀ (k i : Nat), l.length + 1 - i ≤ k → i ≤ m → (∃ r, ptsOf k l i = .ok r) → ∃ j, i ≤ j ∧ j ≤ m ∧ m < j + 4 ∧ ¬ isCont (l.getD j 0) := by
  intro k
  induction k with
  | zero => intro i h1 h2; omega
  | succ k ih =>
    intro i h1 h2 ⟨r, hr⟩
    simp only [ptsOf] at hr
    rw [if_pos (by omega)] at hr
    cases hno : nextOf (l.drop i) with
    | none => rw [hno] at hr; cases hr
    | some pn =>
      obtain ⟨p, n⟩ := pn
      rw [hno] at hr
      simp only at hr
      obtain ⟨hn1, hn2, hn3⟩ := next_pos hno
      have hn4 := next_le4 hno
      obtain ⟨c1, -⟩ := next_cont hno
      rw [drop_get, Nat.add_zero] at c1
      by_cases hmi : m < i + n
      · exact ⟨i, Nat.le_refl _, h2, by omega, c1⟩
      · have hr2 : ∃ r, ptsOf k l (i + n) = .ok r := by
          cases h : ptsOf k l (i + n) with
          | ok r => exact ⟨r, rfl⟩
          | error j => rw [h] at hr; cases hr
        obtain ⟨j, j1, j2, j3, j4⟩ := ih (i + n) (by omega) (by omega) hr2
        exact ⟨j, by omega, j2, j3, j4⟩
theorem back_ge {l : List UInt8} {j : Nat} (hj : ¬ isCont (l.getD j 0)) : ∀ m, j ≤ m → j ≤ back l m := by
  intro m
  induction m with
  | zero => intro h; simp [back]; omega
  | succ m ih =>
    intro h
    simp only [back]
    split
    · rename_i hc
      by_cases hjm : j = m + 1
      · subst hjm; exact absurd hc.2 hj
      · exact ih (by omega)
    · exact h
theorem cut75 {l : List UInt8} (h : 75 < l.length) : 72 ≤ cutOf l 75 ∧ cutOf l 75 ≤ 75 := by
  unfold cutOf
  rw [Nat.min_eq_left (by omega)]
  split
  · rename_i hv
    have hok : ∃ r, ptsOf (l.length + 1) l 0 = .ok r := by
      unfold validOf at hv
      cases h : ptsOf (l.length + 1) l 0 with
      | ok r => exact ⟨r, rfl⟩
      | error j => rw [h] at hv; cases hv
    obtain ⟨j, -, j2, j3, j4⟩ := near h (l.length + 1) 0 (by omega) (by omega) hok
    have := back_ge j4 75 j2
    have := back_le (l := l) 75
    omega
  · omega

def crW (x : List UInt8) : List UInt8 := x ++ [13, 10]
def foldW : Nat → List UInt8 → List (List UInt8)
  | 0, l => [l]
  | k + 1, l => if 75 < l.length then l.take (cutOf l 75) :: foldW k (32 :: l.drop (cutOf l 75)) else [l]
def outL (L : Ln) : List UInt8 := (foldW (textOfL L).length (textOfL L)).flatMap crW
theorem foldW_len : ∀ (k : Nat) (l : List UInt8), l.length ≤ k → ((foldW k l).flatMap crW).length ≤ 2 * l.length + 2 := by
  intro k
  induction k with
  | zero => intro l h; simp [foldW, crW]; omega
  | succ k ih =>
    intro l h
    simp only [foldW]
    split
    · rename_i h75
      obtain ⟨c1, c2⟩ := cut75 h75
      have := ih (32 :: l.drop (cutOf l 75)) (by simp; omega)
      simp only [List.flatMap_cons, List.length_append, crW, List.length_cons, List.length_nil, List.length_take, List.length_drop] at this ⊢
      omega
    · simp [crW]; omega
theorem outL_len {L : Ln} (h : L.ok) : (outL L).length ≤ 50000 := by
  have h1 := foldW_len _ (textOfL L) (Nat.le_refl _)
  have h2 := textL_len h
  unfold outL; omega

theorem app32 {S : St} {v y : PV} {l d : List UInt8} (hk : Kept st S) (hm : Mine st S v l) (hy : y.by = some d) (hl : d.length + 1 ≤ room) :
    ∃ v' S', app8 S.tok1 (.bys (.own S.toks.length) [32]) y = some (v', S') ∧ Kept st S' ∧ Mine st S' v l ∧ v'.by = some (32 :: d) := by
  have hlive : Live S.tok1 (.bys (.own S.toks.length) [32]) [32] := .inr ⟨_, rfl, by simp [St.tok1]⟩
  have htl := hk.tl
  have hlt : S.tok1.toks.length = S.toks.length + 1 := by simp [St.tok1]
  obtain ⟨v', S', a1, a2, a3, a4, a5, a6, a7, a8, a9⟩ := app8_live hlive (src8_by (st := S.tok1) hy) (by simpa [Nat.add_comm] using hl)
  have hkeep : ∀ i, i < S.toks.length → S'.toks[i]? = S.tok1.toks[i]? := fun i hi => a7 i (by omega) (by simp [tokOf]; omega)
  refine ⟨v', S', a1, hk.tok1.of (by rw [a2]) a3 (by rw [a4]; exact hk.tok1.lw) (fun i hi => hkeep i (by omega)) (by omega), ⟨?_, hm.2⟩, a5.by⟩
  refine hm.tok1.1.move fun i hi => hkeep i ?_
  exact (hm.1.lt hi).1

def okLs (Ls : List Ln) : Prop := (∀ L ∈ Ls, L.ok) ∧ Ls.length ≤ 60
noncomputable def writeL (Ls : List Ln) : Int × List UInt8 := if Ls.all rtB = true then (0, Ls.flatMap outL) else (90, [])
def outW (st : St) (r : Int × List UInt8) : PV × St := if r.2 = [] then (.tup [.nils, .int .i64 r.1], st) else (.tup [.bys (.own st.toks.length) r.2, .int .i64 r.1], st.tok1)
theorem leave_outW {S : St} {v : PV} {l : List UInt8} {n : Int} (hk : Kept st S) (hm : Mine st S v l) (hn : l = [] → v = .nils) : leave st S (.tup [v, .int .i64 n]) = outW st (n, l) := by
  unfold outW
  by_cases hl : l = []
  · rw [if_pos hl, hn hl]
    exact hk.leave rfl (fun _ _ => rfl)
  · rw [if_neg hl]
    exact leave_mine2 hk hm hl
theorem outs_len : ∀ {Ls : List Ln}, (∀ L ∈ Ls, L.ok) → (Ls.flatMap outL).length ≤ Ls.length * 50000 := by
  intro Ls
  induction Ls with
  | nil => intro _; simp
  | cons L r ih =>
    intro h
    have h1 := outL_len (h L (by simp))
    have h2 := ih (fun g hg => h g (by simp [hg]))
    simp only [List.flatMap_cons, List.length_append, List.length_cons]
    omega
theorem Mine.alloc' {v : PV} {l : List UInt8} {B : List (List PV)} {Lp : List LoopS} {lo : Nat} (h : Mine st s v l) : Mine st ⟨B, s.toks, Lp, lo⟩ v l := ⟨h.1.move fun _ _ => rfl, h.2⟩
end Go.Ab
/-
  Lines are written, folded: the program's function.
-/
namespace Go.Ab
variable {st s : St} {e : Env}

def L0 : Ln := ⟨[], .nils, [], []⟩
theorem iaddr_L {x : PV} {Ls : List Ln} {k : IntKind} {c : Int} (h : x.vs 3 = some (Ls.map lV)) (h1 : 0 ≤ c) (h2 : c.toNat < Ls.length) : iaddrPV 3 x (.int k c) = some (.cp [.str (Ls.getD c.toNat L0).n, (Ls.getD c.toNat L0).pv, .str (Ls.getD c.toNat L0).v]) := by
  rw [iaddr_vs h h1 (by simpa using h2)]
  simp [List.getD, h2, lV, PV.cells]
theorem load_3 {a b c : PV} : loadPV st true 3 (.cp [a, b, c]) = some (.agg [a, b, c]) := rfl
theorem store_L {B : List (List PV)} {T : List Bool} {Lp : List LoopS} {lo : Nat} {L : Ln} (h : L.ok) : storePV ⟨B ++ [[.str [], .nils, .str []]], T, Lp, lo⟩ 3 (.ptr B.length 0) (.agg [.str L.n, L.pv, .str L.v]) = some ⟨B ++ [[.str L.n, L.pv, .str L.v]], T, Lp, lo⟩ := by
  unfold storePV
  simp only [get_app0]
  have h1 : (PV.agg [PV.str L.n, L.pv, PV.str L.v]).inB (B.length + 1) = true := (box_l h.r (n := B.length + 1)).1
  have h2 : (PV.agg [PV.str L.n, L.pv, PV.str L.v]).cells.all leafOk = true := (box_l h.r (n := 0)).2
  rw [if_pos ⟨rfl, by simp, h1, h2⟩]
  have h3 : hasTok (PV.agg [PV.str L.n, L.pv, PV.str L.v]).cells = false := by
    show ((tokOf (.str L.n)).isSome || ((tokOf L.pv).isSome || ((tokOf (.str L.v)).isSome || false))) = false
    rw [h.tk]; rfl
  rw [h3]
  simp [PV.cells, setCells]
theorem load_L {B : List (List PV)} {T : List Bool} {Lp : List LoopS} {lo : Nat} {a b c : PV} : loadPV ⟨B ++ [[a, b, c]], T, Lp, lo⟩ true 3 (.ptr B.length 0) = some (.agg [a, b, c]) := by
  simp [loadPV, readCells]
theorem take_getDL {l : List Ln} {i : Nat} (h : i < l.length) : l.take (i + 1) = l.take i ++ [l.getD i L0] := take_getD' h

set_option maxHeartbeats 1000000 in
theorem sWrite_big {x : PV} {Ls : List Ln} (hx : x.vs 3 = some (Ls.map lV)) (h : (∀ L ∈ Ls, L.ok) ∧ Ls.length ≤ 4096) : call prog (.fn 48 []) [x] st = some (outW st (writeL Ls)) := by
  refine call_of_W prog_48 ?_
  unfold F_sheet_Write; dsimp only
  have hlen := len_vs hx
  rw [List.length_map] at hlen
  have h60 := h.2
  have e4096 : ¬ (4096 : Int) < (Ls.length : Int) := by omega
  simp (maxSteps := 1000000) (disch := omega) only [hlen, e4096, qaaz, qabz, qacz, qadz, qaez, qajz, qalz, evOp, qaoz, qapz, qarz, qatz, qavz,
 ↓reduceIte, List.append_nil, qawz, Option.map_some, qazz, qbhz, qbrz, decide_false,
 Bool.false_eq_true, reduceCtorEq]
  obtain ⟨I, hI⟩ : ∃ I : Nat → Env → St → Prop, I = fun z E S => ∃ i v, z = Ls.length - i ∧ i ≤ Ls.length ∧ Kept st S ∧ Mine st S v ((Ls.take i).flatMap outL) ∧ ((Ls.take i).flatMap outL = [] → v = .nils) ∧ (∀ j, j < i → rtB (Ls.getD j L0) = true) ∧ E 4 = v ∧ E 12 = x ∧ E 13 = .int .i64 (Ls.length : Int) ∧ E 14 = .int .i64 (i : Int) := ⟨_, rfl⟩
  refine W_loop I ?_ (n := Ls.length) (by
    rw [hI]
    exact ⟨0, .nils, rfl, by omega, Kept.start, Mine.nil, fun _ => rfl, fun j hj => by omega, rfl, rfl, rfl, rfl⟩)
  intro z e S hh
  rw [hI] at hh
  obtain ⟨i, v, rfl, hi, hk, hm, hnil, hall, h4, h12, h13, h14⟩ := hh
  have hbl := outs_len (Ls := Ls.take i) (fun f hfm => h.1 f (List.mem_of_mem_take hfm))
  have hbl2 : ((Ls.take i).flatMap outL).length ≤ 300000000 := by
    have h0 : (Ls.take i).length ≤ 4096 := by simp; omega
    exact Nat.le_trans hbl (Nat.le_trans (Nat.mul_le_mul_right 50000 h0) (by decide))
  clear hbl
  by_cases hlt : i < Ls.length
  · obtain ⟨L, hLe⟩ : ∃ L, L = Ls.getD i L0 := ⟨_, rfl⟩
    have hLm : L ∈ Ls := by rw [hLe]; simp [List.getD, hlt]
    have hL := h.1 L hLm
    have hia := iaddr_L (k := .i64) (c := (i : Int)) hx (by omega) (by rw [Int.toNat_natCast]; exact hlt)
    rw [Int.toNat_natCast, ← hLe] at hia
    have hrt : ∀ S : St, call prog (.fn 50 []) [.agg [.str L.n, L.pv, .str L.v]] S = some (.bool (rtB L), S) := fun S => sRight_spec hL
    have hln : ∀ S : St, call prog (.fn 60 []) [.agg [.str L.n, L.pv, .str L.v]] S = some (.str (textOfL L), S) := fun S => line_spec hL
    have hk2 := hk.alloc' (z := [.str L.n, L.pv, .str L.v])
    cases hr : rtB L with
    | false =>
      rw [hr] at hrt
      have hw : writeL Ls = (90, []) := by
        have : Ls.all rtB = false := by
          rw [List.all_eq_false]; exact ⟨L, hLm, by rw [hr]; simp⟩
        simp [writeL, this]
      simp (maxSteps := 1000000) (disch := omega) only [h12, h13, h14, hlt, hia, load_3, allocPV, store_L hL, load_L, hrt, qaaz, qabz, qacz, qadz, qaez, qaiz, qajz, qalz, evOp, qaoz, qapz, qaqz, qarz, qatz, qauz, qavz,
 ↓reduceIte, Nat.reduceEqDiff, List.map_cons, List.map_nil, Option.map_some, qazz, qbaz, qbez, qbhz, qbiz, qblz, qbpz, qcfz, decide_true, Int.ofNat_lt, Bool.not_false]
      refine ⟨.tup [.nils, .int .i64 90], rfl, ?_⟩
      rw [hw]; exact hk2.leave rfl (fun _ _ => rfl)
    | true =>
    rw [hr] at hrt
    obtain ⟨T, hT⟩ : ∃ T, T = foldW (textOfL L).length (textOfL L) := ⟨_, rfl⟩
    obtain ⟨base, hbase⟩ : ∃ base, base = (Ls.take i).flatMap outL := ⟨_, rfl⟩
    rw [← hbase] at hm hbl2
    have htl := textL_len hL
    have hsn : (Ls.take (i + 1)).flatMap outL = base ++ T.flatMap crW := by
      rw [take_getDL hlt, ← hLe, List.flatMap_append, hbase, hT]; simp [outL]
    clear hbase hnil
    simp (maxSteps := 1000000) (disch := omega) only [h12, h13, h14, hlt, hia, load_3, allocPV, store_L hL, load_L, hrt, hln, freshT_eq, qaaz, qabz, qacz, qadz, qaez, qajz, qalz, evOp, qaoz, qaqz, qarz, qatz, qauz, qavz,
 ↓reduceIte, Nat.reduceEqDiff, List.map_cons, List.map_nil, Option.map_some, qazz, qbhz, qbpz, qcfz, decide_true, Int.ofNat_lt, Bool.false_eq_true, Bool.not_true]
    obtain ⟨II, hII⟩ : ∃ II : Nat → Env → St → Prop, II = fun z E S => ∃ m k v y acc, m.length = z ∧ m.length ≤ k ∧ (acc.flatMap crW).length + 2 * m.length ≤ 46800 ∧ Kept st S ∧ Mine st S v (base ++ acc.flatMap crW) ∧ T = acc ++ foldW k m ∧ y.by = some m ∧ E 4 = v ∧ E 7 = y ∧ E 12 = x ∧ E 13 = .int .i64 (Ls.length : Int) ∧ E 14 = .int .i64 (i : Int) := ⟨_, rfl⟩
    refine W_loop II ?_ (n := (textOfL L).length) (by
      rw [hII]
      exact ⟨textOfL L, (textOfL L).length, v, _, [], rfl, Nat.le_refl _, by simp; omega, hk2.tok1, by simpa using hm.alloc'.tok1, by rw [hT]; rfl, qcgz, h4, rfl, h12, h13, h14⟩)
    clear hk hk2 hm h4 h12 h13 h14
    intro z e S hh
    rw [hII] at hh
    obtain ⟨m, k, v, y, acc, rfl, hmk, hbd, hk, hm, hTT, hy, h4, h7, h12, h13, h14⟩ := hh
    by_cases h75 : 75 < m.length
    · have e75 : (75 : Int) < (m.length : Int) := by omega
      obtain ⟨k, rfl⟩ : ∃ k', k = k' + 1 := ⟨k - 1, by omega⟩
      simp only [foldW, h75, if_true] at hTT
      obtain ⟨c1, c2⟩ := cut75 h75
      obtain ⟨c, hc⟩ : ∃ c, c = cutOf m 75 := ⟨_, rfl⟩
      have hcut : ∀ S : St, call prog (.fn 61 []) [y, .int .i64 75] S = some (.int .i64 (c : Int), S) := fun S => by
        rw [hc]; exact uCut_spec (m := 75) hy (by omega)
      rw [← hc] at c1 c2 hTT
      have hhi := slc_hi (k := .i64) (c := (c : Int)) hy (by omega) (by rw [Int.toNat_natCast]; omega)
      have hlo := slc_lo (k := .i64) (c := (c : Int)) hy (by omega) (by rw [Int.toNat_natCast]; omega)
      rw [Int.toNat_natCast] at hhi hlo
      obtain ⟨v1, S1, a1, k1, m1⟩ := hk.app8 (y := y.takeB c) (m := m.take c) hm (src8_by (takeB_by hy)) (by simp only [List.length_append, List.length_take, room]; omega)
      obtain ⟨v2, S2, a2, k2, m2⟩ := k1.app8 (y := .str [13, 10]) (m := [13, 10]) m1 rfl (by simp only [List.length_append, List.length_take, List.length_cons, List.length_nil, room]; omega)
      obtain ⟨y3, S3, a3, k3, m3, hy3⟩ := app32 k2 m2 (dropB_by (i := c) hy) (by simp only [List.length_drop, room]; omega)
      simp (maxSteps := 1000000) (disch := omega) only [h4, h7, len_by hy, e75, hcut, hhi, hlo, a1, a2, lit8_1, freshT_eq, a3, qaaz, qabz, qacz, qadz, qaez, qajz, qalz, evOp, qaoz, qapz, qaqz, qarz, qatz, qavz,
 ↓reduceIte, Nat.reduceEqDiff, List.map_cons, List.map_nil, Option.map_some, Option.map_none, qazz, qbdz, qbhz, qbrz, decide_true]
      refine loopQ_intro (m := (32 :: m.drop c).length) (by simp; omega) ?_
      rw [hII]
      refine ⟨32 :: m.drop c, k, v2, y3, acc ++ [m.take c], rfl, by simp; omega, ?_, k3, ?_, ?_, hy3, rfl, rfl, h12, h13, h14⟩
      · simp only [List.flatMap_append, List.flatMap_cons, List.flatMap_nil, List.append_nil, crW, List.length_append, List.length_cons, List.length_nil, List.length_take, List.length_drop]; omega
      · rw [List.flatMap_append]; simpa [crW] using m3
      · rw [hTT]; simp
    · have e75 : ¬ (75 : Int) < (m.length : Int) := by omega
      have hTf : T = acc ++ [m] := by
        rw [hTT]
        cases k with
        | zero => rfl
        | succ k => simp only [foldW, h75, if_false]
      obtain ⟨v1, S1, a1, k1, m1⟩ := hk.app8 (y := y) (m := m) hm (src8_by hy) (by simp only [List.length_append, room]; omega)
      obtain ⟨v2, S2, a2, k2, m2⟩ := k1.app8 (y := .str [13, 10]) (m := [13, 10]) m1 rfl (by simp only [List.length_append, List.length_cons, List.length_nil, room]; omega)
      simp (maxSteps := 1000000) (disch := omega) only [h4, h7, h14, len_by hy, e75, a1, a2, add_n, qaaz, qabz, qacz, qagz, qajz, qalz, evOp, qaoz, qapz, qarz, qatz, qavz,
 ↓reduceIte, Nat.reduceEqDiff, Option.map_some, qazz, qbbz, qbdz, qbfz, qbhz, qbjz, qbrz, decide_false,
 Bool.false_eq_true, Int.reduceToNat]
      refine loopQ_intro (m := Ls.length - (i + 1)) (by omega) ?_
      rw [hI]
      have hfin : base ++ T.flatMap crW = base ++ acc.flatMap crW ++ m ++ [13, 10] := by rw [hTf]; simp [crW]
      refine ⟨i + 1, v2, rfl, by omega, k2, by rw [hsn, hfin]; exact m2, fun hz => ?_, fun j hj => ?_, rfl, h12, h13, rfl⟩
      · rw [hsn, hfin] at hz
        have := congrArg List.length hz
        simp at this
      · by_cases hji : j = i
        · subst hji; rw [← hLe]; exact hr
        · exact hall j (by omega)
  · obtain rfl : i = Ls.length := by omega
    rw [List.take_length] at hm hnil
    have hw : writeL Ls = (0, Ls.flatMap outL) := by
      have : Ls.all rtB = true := by
        rw [List.all_eq_true]
        intro L hL
        obtain ⟨j, hj, rfl⟩ := List.mem_iff_getElem.1 hL
        have := hall j hj
        simpa [List.getD, hj] using this
      simp [writeL, this]
    simp (maxSteps := 1000000) (disch := omega) only [h4, h13, h14, hlt, qaaz, qabz, qacz, qagz, qaiz, qajz, qalz, evOp, qaoz, qapz, qarz, qatz, qavz,
 ↓reduceIte, Nat.reduceEqDiff, Option.map_some, qazz, qbbz, qbfz, qbhz, qbjz, qblz, qbpz, decide_false,
 Int.ofNat_lt, Bool.false_eq_true]
    refine ⟨.tup [v, .int .i64 0], ?_, ?_⟩
    · have hnt : notTup v = true := by rcases hm.1 with ⟨rfl, _⟩ | ⟨i, rfl, _⟩ <;> rfl
      simp [resOf, rvAll, rv1, qavz, hnt, packRes]
      rfl
    · rw [hw]; exact leave_outW hk hm hnil
theorem sWrite_spec {x : PV} {Ls : List Ln} (hx : x.vs 3 = some (Ls.map lV)) (h : okLs Ls) : call prog (.fn 48 []) [x] st = some (outW st (writeL Ls)) := sWrite_big hx ⟨h.1, by have := h.2; omega⟩
end Go.Ab
/-
  Lines are written, folded: the document's function.
-/
namespace Go.Ab
variable {st s : St} {e : Env}

set_option maxHeartbeats 1000000 in
theorem rSWrite_spec {x : PV} {Ls : List Ln} (hx : x.vs 3 = some (Ls.map lV)) (h : okLs Ls) : call prog (.fn 49 []) [x] st = some (outW st (writeL Ls)) := by
  refine call_of_W prog_49 ?_
  unfold F_posthornref10_Write; dsimp only
  have hlen := len_vs hx
  rw [List.length_map] at hlen
  have h60 := h.2
  have e4096 : ¬ (4096 : Int) < (Ls.length : Int) := by omega
  simp (maxSteps := 1000000) (disch := omega) only [hlen, e4096, qaaz, qabz, qacz, qadz, qaez, qajz, qalz, evOp, qaoz, qapz, qarz, qatz, qavz,
 ↓reduceIte, List.append_nil, qawz, Option.map_some, qazz, qbhz, qbrz, decide_false,
 Bool.false_eq_true, reduceCtorEq]
  obtain ⟨I, hI⟩ : ∃ I : Nat → Env → St → Prop, I = fun z E S => ∃ i v, z = Ls.length - i ∧ i ≤ Ls.length ∧ Kept st S ∧ Mine st S v ((Ls.take i).flatMap outL) ∧ ((Ls.take i).flatMap outL = [] → v = .nils) ∧ (∀ j, j < i → rtB (Ls.getD j L0) = true) ∧ E 0 = x ∧ E 4 = v ∧ E 5 = .int .i64 (i : Int) := ⟨_, rfl⟩
  refine W_loop I ?_ (n := Ls.length) (by
    rw [hI]
    exact ⟨0, .nils, rfl, by omega, Kept.start, Mine.nil, fun _ => rfl, fun j hj => by omega, rfl, rfl, rfl⟩)
  intro z e S hh
  rw [hI] at hh
  obtain ⟨i, v, rfl, hi, hk, hm, hnil, hall, h0, h4, h5⟩ := hh
  have hbl := outs_len (Ls := Ls.take i) (fun f hfm => h.1 f (List.mem_of_mem_take hfm))
  have hbl2 : ((Ls.take i).flatMap outL).length ≤ 3000000 := by
    have h0 : (Ls.take i).length ≤ 60 := by simp; omega
    exact Nat.le_trans hbl (Nat.le_trans (Nat.mul_le_mul_right 50000 h0) (by decide))
  clear hbl
  by_cases hlt : i < Ls.length
  · obtain ⟨L, hLe⟩ : ∃ L, L = Ls.getD i L0 := ⟨_, rfl⟩
    have hLm : L ∈ Ls := by rw [hLe]; simp [List.getD, hlt]
    have hL := h.1 L hLm
    have hia := iaddr_L (k := .i64) (c := (i : Int)) hx (by omega) (by rw [Int.toNat_natCast]; exact hlt)
    rw [Int.toNat_natCast, ← hLe] at hia
    have hrt : ∀ S : St, call prog (.fn 51 []) [.agg [.str L.n, L.pv, .str L.v]] S = some (.bool (rtB L), S) := fun S => rRight_spec hL
    have hln : ∀ S : St, call prog (.fn 62 []) [.agg [.str L.n, L.pv, .str L.v]] S = some (.str (textOfL L), S) := fun S => Plain_spec hL
    cases hr : rtB L with
    | false =>
      rw [hr] at hrt
      have hw : writeL Ls = (90, []) := by
        have : Ls.all rtB = false := by
          rw [List.all_eq_false]; exact ⟨L, hLm, by rw [hr]; simp⟩
        simp [writeL, this]
      simp (maxSteps := 1000000) (disch := omega) only [h0, h5, hlen, hlt, hia, load_3, hrt, qaaz, qabz, qacz, qadz, qaez, qaiz, qajz, qalz, evOp, qaoz, qapz, qaqz, qarz, qatz, qavz,
 ↓reduceIte, Nat.reduceEqDiff, List.map_cons, List.map_nil, Option.map_some, qazz, qbaz, qbez, qbhz, qbiz, qblz, qbpz, qcfz, decide_true, Int.ofNat_lt, reduceCtorEq, Bool.not_false]
      refine ⟨.tup [.nils, .int .i64 90], rfl, ?_⟩
      rw [hw]; exact hk.leave rfl (fun _ _ => rfl)
    | true =>
    rw [hr] at hrt
    obtain ⟨T, hT⟩ : ∃ T, T = foldW (textOfL L).length (textOfL L) := ⟨_, rfl⟩
    obtain ⟨base, hbase⟩ : ∃ base, base = (Ls.take i).flatMap outL := ⟨_, rfl⟩
    rw [← hbase] at hm hbl2
    have htl := textL_len hL
    have hsn : (Ls.take (i + 1)).flatMap outL = base ++ T.flatMap crW := by
      rw [take_getDL hlt, ← hLe, List.flatMap_append, hbase, hT]; simp [outL]
    clear hbase hnil
    simp (maxSteps := 1000000) (disch := omega) only [h0, h5, hlen, hlt, hia, load_3, hrt, hln, qaaz, qabz, qacz, qadz, qaez, qajz, qalz, evOp, qaoz, qaqz, qarz, qatz, qavz,
 ↓reduceIte, Nat.reduceEqDiff, List.map_cons, List.map_nil, Option.map_some, qazz, qbhz, qbpz, qcfz, decide_true, Int.ofNat_lt, Bool.false_eq_true, reduceCtorEq, Bool.not_true]
    obtain ⟨II, hII⟩ : ∃ II : Nat → Env → St → Prop, II = fun z E S => ∃ m k v acc, m.length = z ∧ m.length ≤ k ∧ (acc.flatMap crW).length + 2 * m.length ≤ 46800 ∧ Kept st S ∧ Mine st S v (base ++ acc.flatMap crW) ∧ T = acc ++ foldW k m ∧ E 0 = x ∧ E 4 = v ∧ E 6 = .str m ∧ E 5 = .int .i64 (i : Int) := ⟨_, rfl⟩
    refine W_loop II ?_ (n := (textOfL L).length) (by
      rw [hII]
      exact ⟨textOfL L, (textOfL L).length, v, [], rfl, Nat.le_refl _, by simp; omega, hk, by simpa using hm, by rw [hT]; rfl, h0, h4, rfl, h5⟩)
    clear hk hm h0 h4 h5
    intro z e S hh
    rw [hII] at hh
    obtain ⟨m, k, v, acc, rfl, hmk, hbd, hk, hm, hTT, h0, h4, h6, h5⟩ := hh
    by_cases h75 : 75 < m.length
    · have e75 : (75 : Int) < (m.length : Int) := by omega
      obtain ⟨k, rfl⟩ : ∃ k', k = k' + 1 := ⟨k - 1, by omega⟩
      simp only [foldW, h75, if_true] at hTT
      obtain ⟨c1, c2⟩ := cut75 h75
      obtain ⟨c, hc⟩ : ∃ c, c = cutOf m 75 := ⟨_, rfl⟩
      have hcut : ∀ (S : St) (t : Tok), call prog (.fn 63 []) [.bys t m, .int .i64 75] S = some (.int .i64 (c : Int), S) := fun S t => by
        rw [hc]; exact rCut_spec (m := 75) qcgz (by omega) (by omega)
      rw [← hc] at c1 c2 hTT
      obtain ⟨v1, S1, a1, k1, m1⟩ := hk.tok1.app8 (y := .str (m.take c)) (m := m.take c) hm.tok1 rfl (by simp only [List.length_append, List.length_take, room]; omega)
      obtain ⟨v2, S2, a2, k2, m2⟩ := k1.push2 (c := 13) (d := 10) m1 (by simp only [List.length_append, List.length_take, room]; omega)
      have hadd : ∀ ek, binPV .add ek (.str [32]) (.str (m.drop c)) = some (.str (32 :: m.drop c)) := fun ek => adds (a := [32]) (b := m.drop c) (by simp; omega)
      simp (maxSteps := 1000000) (disch := omega) only [h4, h6, len_s, e75, freshT_eq, hcut, slc_s_hi, slc_s_lo, a1, lit8_2, a2, hadd, qaaz, qabz, qacz, qadz, qaez, qajz, qalz, evOp, qaoz, qapz, qaqz, qarz, qatz, qavz,
 ↓reduceIte, Nat.reduceEqDiff, List.map_cons, List.map_nil, Option.map_some, Option.map_none, qazz, qbdz, qbhz, qbrz, decide_true, Int.toNat_natCast, Bool.false_eq_true]
      refine loopQ_intro (m := (32 :: m.drop c).length) (by simp; omega) ?_
      rw [hII]
      refine ⟨32 :: m.drop c, k, v2, acc ++ [m.take c], rfl, by simp; omega, ?_, k2, ?_, ?_, h0, rfl, rfl, h5⟩
      · simp only [List.flatMap_append, List.flatMap_cons, List.flatMap_nil, List.append_nil, crW, List.length_append, List.length_cons, List.length_nil, List.length_take, List.length_drop]; omega
      · rw [List.flatMap_append]; simpa [crW] using m2
      · rw [hTT]; simp
    · have e75 : ¬ (75 : Int) < (m.length : Int) := by omega
      have hTf : T = acc ++ [m] := by
        rw [hTT]
        cases k with
        | zero => rfl
        | succ k => simp only [foldW, h75, if_false]
      obtain ⟨v1, S1, a1, k1, m1⟩ := hk.app8 (y := .str m) (m := m) hm rfl (by simp only [List.length_append, room]; omega)
      obtain ⟨v2, S2, a2, k2, m2⟩ := k1.push2 (c := 13) (d := 10) m1 (by simp only [List.length_append, room]; omega)
      simp (maxSteps := 1000000) (disch := omega) only [h4, h5, h6, len_s, e75, freshT_eq, a1, lit8_2, a2, add_n, qaaz, qabz, qacz, qagz, qajz, qalz, evOp, qaoz, qapz, qarz, qatz, qavz,
 ↓reduceIte, Nat.reduceEqDiff, List.map_cons, List.map_nil, Option.map_some, qazz, qbbz, qbdz, qbfz, qbhz, qbjz, qbrz, decide_false,
 Bool.false_eq_true, Int.reduceToNat]
      refine loopQ_intro (m := Ls.length - (i + 1)) (by omega) ?_
      rw [hI]
      have hfin : base ++ T.flatMap crW = base ++ acc.flatMap crW ++ m ++ [13, 10] := by rw [hTf]; simp [crW]
      refine ⟨i + 1, v2, rfl, by omega, k2, by rw [hsn, hfin]; exact m2, fun hz => ?_, fun j hj => ?_, h0, rfl, rfl⟩
      · rw [hsn, hfin] at hz
        have := congrArg List.length hz
        simp at this
      · by_cases hji : j = i
        · subst hji; rw [← hLe]; exact hr
        · exact hall j (by omega)
  · obtain rfl : i = Ls.length := by omega
    rw [List.take_length] at hm hnil
    have hw : writeL Ls = (0, Ls.flatMap outL) := by
      have : Ls.all rtB = true := by
        rw [List.all_eq_true]
        intro L hL
        obtain ⟨j, hj, rfl⟩ := List.mem_iff_getElem.1 hL
        have := hall j hj
        simpa [List.getD, hj] using this
      simp [writeL, this]
    simp (maxSteps := 1000000) (disch := omega) only [h0, h4, h5, hlen, hlt, qaaz, qabz, qacz, qagz, qaiz, qajz, qalz, evOp, qaoz, qapz, qarz, qatz, qavz,
 ↓reduceIte, Nat.reduceEqDiff, Option.map_some, qazz, qbbz, qbfz, qbhz, qbjz, qblz, qbpz, decide_false,
 Int.ofNat_lt, Bool.false_eq_true, reduceCtorEq]
    refine ⟨.tup [v, .int .i64 0], ?_, ?_⟩
    · have hnt : notTup v = true := by rcases hm.1 with ⟨rfl, _⟩ | ⟨i, rfl, _⟩ <;> rfl
      simp [resOf, rvAll, rv1, qavz, hnt, packRes]
      rfl
    · rw [hw]; exact leave_outW hk hm hnil
end Go.Ab
/-
  How big lines are; the law SheetWrites.
-/
namespace Go.Ab
variable {st s : St} {e : Env}

structure Ln.raw (L : Ln) : Prop where
  vs : L.pv.vs 2 = some (L.ps.map fV)
  ib : ∀ n, L.pv.inB n = true
  lf : leafOk L.pv = true
  tk : tokOf L.pv = none
  l1 : L.n.length ≤ 4000000000000000000
  l2 : L.v.length ≤ 4000000000000000000
  l3 : L.ps.length ≤ 9223372036854775807
  l4 : ∀ p ∈ L.ps, p.1.length ≤ 4000000000000000000 ∧ p.2.length ≤ 4000000000000000000
def bndL (L : Ln) (i : Nat) : Prop := L.ps.length ≤ 30 ∧ L.n.length ≤ 300 ∧ L.v.length ≤ 5000 ∧ (5 < i → L.v.length ≤ 300) ∧ ∀ k, k < L.ps.length → (L.ps.getD k ([], [])).1.length + (L.ps.getD k ([], [])).2.length ≤ 500
def smallL (Ls : List Ln) : Prop := Ls.length ≤ 60 ∧ ∀ i, i < Ls.length → bndL (Ls.getD i L0) i
noncomputable def greatB (Ls : List Ln) : Bool := @decide (¬ smallL Ls) (Classical.propDecidable _)
theorem great_t {Ls : List Ln} (h : ¬ smallL Ls) : greatB Ls = true := by unfold greatB; simp [h]
theorem great_f {Ls : List Ln} (h : smallL Ls) : greatB Ls = false := by unfold greatB; simp [h]
set_option maxHeartbeats 1000000 in
theorem Great10_spec {x : PV} {Ls : List Ln} (hx : x.vs 3 = some (Ls.map lV)) (hr : ∀ L ∈ Ls, L.raw) (hl : Ls.length ≤ 9223372036854775807) : call prog (.fn 47 []) [x] st = some (.bool (greatB Ls), st) := by
  refine call_of_W prog_47 ?_
  unfold F_posthornlaw10_Great; dsimp only
  have hlen := len_vs hx
  rw [List.length_map] at hlen
  have fin : ∀ (E : Env) (S : St) (b : Bool), Kept st S → greatB Ls = b → E 2 = .bool b → ∃ rv, resOf E S [.tmp 2] = some rv ∧ leave st S rv = (.bool (greatB Ls), st) := fun E S b k1 hb k2 =>
    ⟨.bool b, by simp [resOf, rvAll, rv1, k2, notTup, packRes], by rw [hb]; exact k1.leave rfl (fun _ _ => rfl)⟩
  by_cases h60 : 60 < Ls.length
  · have e1 : (60 : Int) < (Ls.length : Int) := by omega
    simp (maxSteps := 1000000) (disch := omega) only [hlen, e1, qaaz, qabz, qacz, qaiz, qajz, qalz, evOp, qaoz, qapz, qarz, qatz, qavz,
 ↓reduceIte, List.append_nil, qawz, Option.map_some, qazz, qbaz, qbhz, qblz, qbrz, decide_true, reduceCtorEq]
    exact fin _ _ true Kept.start (great_t fun h => by have := h.1; omega) rfl
  have e1 : ¬ (60 : Int) < (Ls.length : Int) := by omega
  simp (maxSteps := 1000000) (disch := omega) only [hlen, e1, qaaz, qabz, qacz, qadz, qaez, qajz, qalz, evOp, qaoz, qapz, qarz, qatz, qavz,
 ↓reduceIte, List.append_nil, qawz, Option.map_some, qazz, qbhz, qbrz, decide_false,
 Bool.false_eq_true, reduceCtorEq]
  obtain ⟨I, hI⟩ : ∃ I : Nat → Env → St → Prop, I = fun z E S => ∃ i, z = Ls.length - i ∧ i ≤ Ls.length ∧ Kept st S ∧ (∀ j, j < i → bndL (Ls.getD j L0) j) ∧ E 0 = x ∧ E 3 = .int .i64 (i : Int) := ⟨_, rfl⟩
  refine W_loop I ?_ (n := Ls.length) (by
    rw [hI]
    exact ⟨0, rfl, by omega, Kept.start, fun j hj => by omega, rfl, rfl⟩)
  intro z e S hh
  rw [hI] at hh
  obtain ⟨i, rfl, hi, hk, hall, h0, h3⟩ := hh
  by_cases hlt : i < Ls.length
  · obtain ⟨L, hLe⟩ : ∃ L, L = Ls.getD i L0 := ⟨_, rfl⟩
    have hLm : L ∈ Ls := by rw [hLe]; simp [List.getD, hlt]
    have hL := hr L hLm
    have hia := iaddr_L (k := .i64) (c := (i : Int)) hx (by omega) (by rw [Int.toNat_natCast]; exact hlt)
    rw [Int.toNat_natCast, ← hLe] at hia
    have hlp := len_vs hL.vs
    rw [List.length_map] at hlp
    have no : ¬ bndL L i → greatB Ls = true := fun hn => great_t fun h => hn (by rw [hLe]; exact h.2 i hlt)
    have hd1 : ∀ (a b c : PV), List.drop 1 [a, b, c] = [b, c] := fun _ _ _ => rfl
    have hd2 : ∀ (a b c : PV), List.drop 2 [a, b, c] = [c] := fun _ _ _ => rfl
    by_cases q1 : 30 < L.ps.length
    · have g1 : (30 : Int) < (L.ps.length : Int) := by omega
      simp (maxSteps := 1000000) (disch := omega) only [h0, h3, hlen, hlt, hia, faddrPV, hd1, load_ch, hlp, g1, qaaz, qabz, qacz, qadz, qaez, qaiz, qajz, qakz, qalz, qamz, qanz, evOp, qaoz, qapz, qarz, qatz, qavz,
 ↓reduceIte, Nat.reduceEqDiff, Option.map_some, qazz, qbaz, qbez, qbhz, qbiz, qblz, qbpz, qbrz, beq_false, decide_true, Int.ofNat_lt, Bool.false_eq_true, reduceCtorEq, Bool.not_true]
      exact fin _ _ true hk (no fun h => by have := h.1; omega) rfl
    have g1 : ¬ (30 : Int) < (L.ps.length : Int) := by omega
    by_cases q2 : 300 < L.n.length
    · have g2 : (300 : Int) < (L.n.length : Int) := by omega
      simp (maxSteps := 1000000) (disch := omega) only [h0, h3, hlen, hlt, hia, faddrPV, List.drop_zero, hd1, load_ch, hlp, g1, len_s, g2, qaaz, qabz, qacz, qadz, qaez, qaiz, qajz, qakz, qalz, qamz, qanz, evOp, qaoz, qapz, qarz, qatz, qavz,
 ↓reduceIte, Nat.reduceEqDiff, Option.map_some, qazz, qbaz, qbez, qbhz, qbiz, qblz, qbpz, qbrz, beq_false, decide_true, decide_false,
 Int.ofNat_lt, Bool.false_eq_true, reduceCtorEq, Bool.not_true, Bool.not_false]
      exact fin _ _ true hk (no fun h => by have := h.2.1; omega) rfl
    have g2 : ¬ (300 : Int) < (L.n.length : Int) := by omega
    by_cases q3 : 5000 < L.v.length
    · have g3 : (5000 : Int) < (L.v.length : Int) := by omega
      simp (maxSteps := 1000000) (disch := omega) only [h0, h3, hlen, hlt, hia, faddrPV, List.drop_zero, hd1, hd2, load_ch, hlp, g1, len_s, g2, g3, qaaz, qabz, qacz, qadz, qaez, qaiz, qajz, qakz, qalz, qamz, qanz, evOp, qaoz, qapz, qarz, qatz, qavz,
 ↓reduceIte, Nat.reduceEqDiff, Option.map_some, qazz, qbaz, qbez, qbhz, qbiz, qblz, qbpz, qbrz, qciz, beq_false, decide_true, decide_false,
 Int.ofNat_lt, Bool.false_eq_true, reduceCtorEq, Bool.not_true, Bool.not_false]
      exact fin _ _ true hk (no fun h => by have := h.2.2.1; omega) rfl
    have g3 : ¬ (5000 : Int) < (L.v.length : Int) := by omega
    obtain ⟨II, hII⟩ : ∃ II : Nat → Env → St → Prop, II = fun z E S => ∃ k, z = L.ps.length - k ∧ k ≤ L.ps.length ∧ Kept st S ∧ (∀ j, j < k → (L.ps.getD j ([], [])).1.length + (L.ps.getD j ([], [])).2.length ≤ 500) ∧ E 0 = x ∧ E 3 = .int .i64 (i : Int) ∧ E 4 = .int .i64 (k : Int) := ⟨_, rfl⟩
    have inner : (5 < i → L.v.length ≤ 300) → ∀ (z : Nat) (e : Env) (S : St), II z e S → True := fun _ _ _ _ _ => trivial
    by_cases q5 : 5 < i ∧ 300 < L.v.length
    · have g4 : (5 : Int) < (i : Int) := by omega
      have g5 : (300 : Int) < (L.v.length : Int) := by omega
      simp (maxSteps := 1000000) (disch := omega) only [h0, h3, hlen, hlt, hia, faddrPV, List.drop_zero, hd1, hd2, load_ch, hlp, g1, len_s, g2, g3, g4, g5, qaaz, qabz, qacz, qadz, qaez, qaiz, qajz, qakz, qalz, qamz, qanz, evOp, qaoz, qapz, qarz, qatz, qavz,
 ↓reduceIte, Nat.reduceEqDiff, Option.map_some, qazz, qbaz, qbez, qbhz, qbiz, qblz, qbpz, qbrz, qciz, beq_true, beq_false, decide_true, decide_false,
 Int.ofNat_lt, Bool.false_eq_true, reduceCtorEq, Bool.not_false]
      exact fin _ _ true hk (no fun h => by have := h.2.2.2.1 q5.1; omega) rfl
    have q5' : 5 < i → L.v.length ≤ 300 := fun h => by
      apply Classical.byContradiction
      intro hn
      exact q5 ⟨h, by omega⟩
    by_cases q4 : 5 < i
    have g4 : (5 : Int) < (i : Int) := by omega
    have g5 : ¬ (300 : Int) < (L.v.length : Int) := by have := q5' q4; omega
    simp (maxSteps := 1000000) (disch := omega) only [h0, h3, hlen, hlt, hia, faddrPV, List.drop_zero, hd1, hd2, load_ch, hlp, g1, len_s, g2, g3, g4, g5, qaaz, qabz, qacz, qadz, qaez, qajz, qakz, qalz, qamz, qanz, evOp, qaoz, qapz, qarz, qatz, qavz,
 ↓reduceIte, Nat.reduceEqDiff, Option.map_some, qazz, qbhz, qbpz, qbrz, qciz, beq_true, beq_false, decide_true, decide_false,
 Int.ofNat_lt, Bool.false_eq_true, reduceCtorEq, Bool.not_false]
    rotate_left
    have g4 : ¬ (5 : Int) < (i : Int) := by omega
    simp (maxSteps := 1000000) (disch := omega) only [h0, h3, hlen, hlt, hia, faddrPV, List.drop_zero, hd1, hd2, load_ch, hlp, g1, len_s, g2, g3, g4, qaaz, qabz, qacz, qadz, qaez, qajz, qakz, qalz, qamz, qanz, evOp, qaoz, qapz, qarz, qatz, qavz,
 ↓reduceIte, Nat.reduceEqDiff, Option.map_some, qazz, qbhz, qbpz, qbrz, qciz, beq_true, beq_false, decide_true, decide_false,
 Int.ofNat_lt, Bool.false_eq_true, reduceCtorEq, Bool.not_false]
    all_goals
      refine W_loop II ?_ (n := L.ps.length) (by
        rw [hII]
        exact ⟨0, rfl, by omega, hk, fun j hj => by omega, h0, h3, rfl⟩)
      clear hk h0 h3
      intro z e S hh
      rw [hII] at hh
      obtain ⟨k, rfl, hkl, hk, hdif, h0, h3, h4⟩ := hh
      by_cases hkt : k < L.ps.length
      · obtain ⟨f, hfe⟩ : ∃ f, f = L.ps.getD k ([], []) := ⟨_, rfl⟩
        have hfl := hL.l4 f (by rw [hfe]; simp [List.getD, hkt])
        have hif := iaddr_f (k := .i64) (c := (k : Int)) hL.vs (by omega) (by rw [Int.toNat_natCast]; exact hkt)
        rw [Int.toNat_natCast, ← hfe] at hif
        have hdf : ∀ (a b : PV), List.drop 1 [a, b] = [b] := fun _ _ => rfl
        by_cases hs : 500 < f.1.length + f.2.length
        · have gs : (500 : Int) < ((f.1.length + f.2.length : Nat) : Int) := by omega
          simp (maxSteps := 1000000) (disch := omega) only [h0, h3, h4, hia, faddrPV, List.drop_zero, hd1, hdf, load_ch, hlp, hkt, hif, len_s, add_n, gs, qaaz, qabz, qacz, qadz, qaez, qaiz, qajz, qalz, evOp, qaoz, qapz, qarz, qatz, qavz,
 ↓reduceIte, Nat.reduceEqDiff, Option.map_some, qazz, qbaz, qbez, qbhz, qbiz, qblz, qbpz, qbrz, qciz, decide_true, Int.toNat_natCast, Int.ofNat_lt, reduceCtorEq]
          exact fin _ _ true hk (no fun h => by have := h.2.2.2.2 k hkt; rw [← hfe] at this; omega) rfl
        · have gs : ¬ (500 : Int) < ((f.1.length + f.2.length : Nat) : Int) := by omega
          simp (maxSteps := 1000000) (disch := omega) only [h0, h3, h4, hia, faddrPV, List.drop_zero, hd1, hdf, load_ch, hlp, hkt, hif, len_s, add_n, gs, qaaz, qabz, qacz, qadz, qaez, qajz, qalz, evOp, qaoz, qapz, qarz, qatz, qavz,
 ↓reduceIte, Nat.reduceEqDiff, Option.map_some, qazz, qbdz, qbhz, qbpz, qbrz, qciz, decide_true, decide_false,
 Int.toNat_natCast, Int.ofNat_lt, Bool.false_eq_true, Int.reduceToNat, reduceCtorEq]
          refine loopQ_intro (m := L.ps.length - (k + 1)) (by omega) ?_
          rw [hII]
          refine ⟨k + 1, rfl, by omega, hk, fun j hj => ?_, h0, h3, rfl⟩
          by_cases hjk : j = k
          · subst hjk; rw [← hfe]; omega
          · exact hdif j (by omega)
      · obtain rfl : k = L.ps.length := by omega
        simp (maxSteps := 1000000) (disch := omega) only [h0, h3, h4, hia, faddrPV, hd1, load_ch, hlp, hkt, add_n, qaaz, qabz, qacz, qagz, qajz, qalz, evOp, qaoz, qapz, qarz, qatz, qavz,
 ↓reduceIte, Nat.reduceEqDiff, Option.map_some, qazz, qbbz, qbdz, qbfz, qbhz, qbjz, qbpz, decide_false,
 Int.ofNat_lt, Bool.false_eq_true, Int.reduceToNat, reduceCtorEq]
        refine loopQ_intro (m := Ls.length - (i + 1)) (by omega) ?_
        rw [hI]
        refine ⟨i + 1, rfl, by omega, hk, fun j hj => ?_, h0, rfl⟩
        by_cases hji : j = i
        · subst hji; rw [← hLe]
          exact ⟨by omega, by omega, by omega, q5', hdif⟩
        · exact hall j (by omega)
  · obtain rfl : i = Ls.length := by omega
    simp (maxSteps := 1000000) (disch := omega) only [h0, h3, hlen, hlt, qaaz, qabz, qacz, qagz, qaiz, qajz, qalz, evOp, qaoz, qapz, qarz, qatz, qavz,
 ↓reduceIte, Nat.reduceEqDiff, Option.map_some, qazz, qbbz, qbfz, qbhz, qbjz, qblz, qbpz, decide_false,
 Int.ofNat_lt, Bool.false_eq_true, reduceCtorEq]
    exact fin _ _ false hk (great_f ⟨by omega, hall⟩) rfl
end Go.Ab
/-
  The law SheetWrites.
-/
namespace Go.Ab
variable {st s : St} {e : Env}

end Go.Ab
/-
  An argument of lines, opened.
-/
namespace Go.Ab

def strs2 (P : Program) (t : TypeId) : Bool := match fieldsT P t with
  | some fs => fs.toList.map (fun f => isStrT P f.type) == [true, true]
  | none => false
theorem HasTy.two {P : Program} {t : TypeId} {q : PV} (h : HasTy P t q) (hs0 : strs2 P t = true) : ∃ f : Fld, q = fV f ∧ f.1.length ≤ reachBytes ∧ f.2.length ≤ reachBytes := by
  unfold strs2 fieldsT at hs0
  obtain ⟨fs, ht⟩ : ∃ fs, P.underlying t = some (.struct fs) := by
    cases ht : P.underlying t with
    | none => simp [ht] at hs0
    | some d => cases d <;> first | exact ⟨_, rfl⟩ | (simp [ht] at hs0; done)
  simp only [ht, beq_iff_eq] at hs0
  obtain ⟨fl⟩ := fs
  have hlen : fl.length = 2 := by simpa using congrArg List.length hs0
  match fl, hlen, hs0 with
  | [f0, f1], _, hs0 =>
    simp only [List.map_cons, List.map_nil, List.cons.injEq, and_true] at hs0
    have hs := And.intro (isStrT_eq hs0.1) (isStrT_eq hs0.2)
    cases h with
    | agg xs ht' hl hx =>
      rw [ht] at ht'; cases ht'
      match xs, hl with
      | [x0, x1], _ =>
        obtain ⟨a, rfl, ha⟩ := HasTy.strR (hx 0 f0 x0 rfl rfl) hs.1
        obtain ⟨b, rfl, hb⟩ := HasTy.strR (hx 1 f1 x1 rfl rfl) hs.2
        exact ⟨(a, b), rfl, ha, hb⟩
    | bool _ ht' => rw [ht] at ht'; cases ht'
    | int _ ht' => rw [ht] at ht'; cases ht'
    | u8 _ ht' => rw [ht] at ht'; cases ht'
    | str _ ht' => rw [ht] at ht'; cases ht'
    | nils ht' => rw [ht] at ht'; cases ht'
    | bys _ ht' => rw [ht] at ht'; cases ht'
    | sl _ ht' => rw [ht] at ht'; cases ht'
theorem HasTy.twos {P : Program} {t e : TypeId} {q : PV} (h : HasTy P t q) (ht : P.underlying t = some (.slice e)) (hc : P.cellsOf e = 2) (hs : strs2 P e = true) :
    ∃ l : List Fld, q.vs 2 = some (l.map fV) ∧ (∀ f ∈ l, f.1.length ≤ reachBytes ∧ f.2.length ≤ reachBytes) ∧ l.length ≤ maxLen ∧ (∀ n, q.inB n = true) ∧ leafOk q = true ∧ tokOf q = none ∧ q.cells = [q] := by
  cases h with
  | nils ht' => exact ⟨[], rfl, fun f h => (by cases h), by simp, fun n => rfl, rfl, rfl, rfl⟩
  | bys _ ht' he' => rw [ht] at ht'; cases ht'; simp [strs2, fieldsT, he'] at hs
  | sl xs ht' he' hl hx =>
    rw [ht] at ht'; cases ht'
    have : ∀ xs : List PV, (∀ x ∈ xs, HasTy P e x) → ∃ l : List Fld, xs = l.map fV ∧ ∀ f ∈ l, f.1.length ≤ reachBytes ∧ f.2.length ≤ reachBytes := by
      intro xs
      induction xs with
      | nil => intro _; exact ⟨[], rfl, fun f h => (by cases h)⟩
      | cons x r ih =>
        intro hx
        obtain ⟨f, rfl, hf⟩ := HasTy.two (hx x (by simp)) hs
        obtain ⟨l, rfl, hl⟩ := ih (fun y hy => hx y (by simp [hy]))
        refine ⟨f :: l, rfl, fun g hg => ?_⟩
        rcases List.mem_cons.1 hg with rfl | hg
        · exact hf
        · exact hl g hg
    obtain ⟨l, rfl, hl2⟩ := this xs hx
    exact ⟨l, by simp [PV.vs, hc], hl2, by simpa using hl, fun n => rfl, rfl, rfl, rfl⟩
  | bool _ ht' => rw [ht] at ht'; cases ht'
  | int _ ht' => rw [ht] at ht'; cases ht'
  | u8 _ ht' => rw [ht] at ht'; cases ht'
  | str _ ht' => rw [ht] at ht'; cases ht'
  | agg _ ht' => rw [ht] at ht'; cases ht'

def lineT (P : Program) (t ep : TypeId) : Bool := match fieldsT P t with
  | some fs => match fs.toList with
    | [f0, f1, f2] => isStrT P f0.type && (sliceElem P f1.type == some ep) && isStrT P f2.type && strs2 P ep && (P.cellsOf ep == 2)
    | _ => false
  | none => false
theorem HasTy.line {P : Program} {t ep : TypeId} {q : PV} (h : HasTy P t q) (hs0 : lineT P t ep = true) : ∃ L : Ln, q = lV L ∧ L.raw := by
  unfold lineT fieldsT at hs0
  obtain ⟨fs, ht⟩ : ∃ fs, P.underlying t = some (.struct fs) := by
    cases ht : P.underlying t with
    | none => simp [ht] at hs0
    | some d => cases d <;> first | exact ⟨_, rfl⟩ | (simp [ht] at hs0; done)
  simp only [ht] at hs0
  obtain ⟨fl⟩ := fs
  match fl, hs0 with
  | [f0, f1, f2], hs0 =>
    simp only [Bool.and_eq_true, beq_iff_eq] at hs0
    obtain ⟨⟨⟨⟨s0, s1⟩, s2⟩, s3⟩, s4⟩ := hs0
    have hu1 : P.underlying f1.type = some (.slice ep) := by
      unfold sliceElem at s1
      split at s1
      · rename_i e he; rw [he]; cases s1; rfl
      · cases s1
    cases h with
    | agg xs ht' hl hx =>
      rw [ht] at ht'; cases ht'
      match xs, hl with
      | [x0, x1, x2], _ =>
        obtain ⟨a, rfl, ha⟩ := HasTy.strR (hx 0 f0 x0 rfl rfl) (isStrT_eq s0)
        obtain ⟨l, l1, l2, l3, l4, l5, l6, l7⟩ := HasTy.twos (hx 1 f1 x1 rfl rfl) hu1 s4 s3
        obtain ⟨b, rfl, hb⟩ := HasTy.strR (hx 2 f2 x2 rfl rfl) (isStrT_eq s2)
        have hR : reachBytes ≤ 4000000000000000000 := by decide
        refine ⟨⟨a, x1, l, b⟩, ?_, ⟨l1, l4, l5, l6, Nat.le_trans ha hR, Nat.le_trans hb hR, Nat.le_trans l3 (by decide), fun p hp => ⟨Nat.le_trans (l2 p hp).1 hR, Nat.le_trans (l2 p hp).2 hR⟩⟩⟩
        simp only [lV, flat, List.flatMap_cons, List.flatMap_nil, l7]
        rfl
    | bool _ ht' => rw [ht] at ht'; cases ht'
    | int _ ht' => rw [ht] at ht'; cases ht'
    | u8 _ ht' => rw [ht] at ht'; cases ht'
    | str _ ht' => rw [ht] at ht'; cases ht'
    | nils ht' => rw [ht] at ht'; cases ht'
    | bys _ ht' => rw [ht] at ht'; cases ht'
    | sl _ ht' => rw [ht] at ht'; cases ht'
theorem HasTy.lines {P : Program} {t e ep : TypeId} {q : PV} (h : HasTy P t q) (ht : P.underlying t = some (.slice e)) (hc : P.cellsOf e = 3) (hs : lineT P e ep = true) :
    ∃ l : List Ln, q.vs 3 = some (l.map lV) ∧ (∀ L ∈ l, L.raw) ∧ l.length ≤ 9223372036854775807 := by
  cases h with
  | nils ht' => exact ⟨[], rfl, fun f h => (by cases h), by simp⟩
  | bys _ ht' he' => rw [ht] at ht'; cases ht'; simp [lineT, fieldsT, he'] at hs
  | sl xs ht' he' hl hx =>
    rw [ht] at ht'; cases ht'
    have : ∀ xs : List PV, (∀ x ∈ xs, HasTy P e x) → ∃ l : List Ln, xs = l.map lV ∧ ∀ L ∈ l, L.raw := by
      intro xs
      induction xs with
      | nil => intro _; exact ⟨[], rfl, fun f h => (by cases h)⟩
      | cons x r ih =>
        intro hx
        obtain ⟨f, rfl, hf⟩ := HasTy.line (hx x (by simp)) hs
        obtain ⟨l, rfl, hl⟩ := ih (fun y hy => hx y (by simp [hy]))
        refine ⟨f :: l, rfl, fun g hg => ?_⟩
        rcases List.mem_cons.1 hg with rfl | hg
        · exact hf
        · exact hl g hg
    obtain ⟨l, rfl, hl2⟩ := this xs hx
    exact ⟨l, by simp [PV.vs, hc], hl2, Nat.le_trans (by simpa using hl) (by decide)⟩
  | bool _ ht' => rw [ht] at ht'; cases ht'
  | int _ ht' => rw [ht] at ht'; cases ht'
  | u8 _ ht' => rw [ht] at ht'; cases ht'
  | str _ ht' => rw [ht] at ht'; cases ht'
  | agg _ ht' => rw [ht] at ht'; cases ht'
end Go.Ab
/-
  Texts without blanks at their ends; values of fields.
-/
namespace Go.Ab
variable {st s : St} {e : Env}

end Go.Ab
/-
  The document's trimming; values; small letters; fields of a name, by the document.
-/
namespace Go.Ab
variable {st s : St} {e : Env}

end Go.Ab
/-
  Values of fields; small letters and fields of a name, by the document.
-/
namespace Go.Ab
variable {st s : St} {e : Env}

theorem Grew.kept (h : Grew st s) : Kept st s := ⟨by rw [h.bx]; simp, h.lp, by rw [h.lw]; exact Nat.le_refl _, h.tk⟩
end Go.Ab
/-
  Rules that part the ways of a run: each way under what it was taken for.
-/
namespace Go.Ab
variable {A : AP} {st : St} {e : Env}

end Go.Ab
/-
  strings.Cut.
-/
namespace Go.Ab
variable {st : St} {e : Env}

theorem faP {n k b : Nat} : faddrPV n (.ptr b k) = some (.ptr b (k + n)) := rfl
end Go.Ab
/-
  Helpers: how a call ends, cuts of which a first part may return.
-/
namespace Go.Ab
variable {st s : St} {e : Env}

theorem ret1 {a : Nat} {v : PV} (ha : e a = v) (hnt : notTup v = true) (hk : Kept st s) (hf : Flat v) : ∃ rv, resOf e s [.tmp a] = some rv ∧ leave st s rv = (v, st) :=
  ⟨v, by simp [resOf, rvAll, rv1, ha, hnt, packRes], hk.leave' hf⟩
theorem retB {a : Nat} {b c : Bool} (ha : e a = .bool b) (hk : Kept st s) (hb : b = c) : ∃ rv, resOf e s [.tmp a] = some rv ∧ leave st s rv = (.bool c, st) := by
  subst hb; exact ret1 ha rfl hk ⟨fun _ => rfl, fun _ _ => rfl⟩
theorem ret3 {a b c : Nat} {v w u : PV} (ha : e a = v) (hb : e b = w) (hc : e c = u) (h1 : notTup v = true) (h2 : notTup w = true) (h3 : notTup u = true) (hk : Kept st s) (hf : Flat (.tup [v, w, u])) : ∃ rv, resOf e s [.tmp a, .tmp b, .tmp c] = some rv ∧ leave st s rv = (.tup [v, w, u], st) :=
  ⟨.tup [v, w, u], by simp [resOf, rvAll, rv1, ha, hb, hc, h1, h2, h3, packRes], hk.leave' hf⟩
def endX (st : St) (rs : List RV) (R : PV × St → Prop) : Ex → Env → St → Prop := fun x e1 st1 => (x = .normal ∨ x = .ret) ∧ ∃ rv, resOf e1 st1 rs = some rv ∧ R (leave st st1 rv)
theorem call_ex {f : Nat} {args : List PV} {fn : ACFn} {R : PV × St → Prop} (hA : prog f = some (.code fn))
    (h : W prog fn.body (env0 args) { st with low := st.boxes.length } (endX st fn.results R)) : ∃ r, call prog (.fn f []) args st = some r ∧ R r := by
  obtain ⟨⟨x, e1, st1⟩, h1, h2, rv, h3, h4⟩ := h
  refine ⟨_, ?_, h4⟩
  rw [call_fn hA, List.append_nil, h1]
  rcases h2 with rfl | rfl
  · simp only [finish]; simp only at h3 h4; rw [h3]; rfl
  · simp only [finish]; simp only at h3 h4; rw [h3]; rfl
theorem Kept.box {S : St} {z : List PV} (h : Kept st S) (hbx : S.boxes.length = st.boxes.length + 1) : Kept st ⟨st.boxes ++ [z], S.toks, S.loops, S.low⟩ := ⟨by simp, h.lp, h.lw, h.tk⟩
theorem Kept.toks {T : List Bool} (h : Kept st s) : Kept st ⟨s.boxes, s.toks ++ T, s.loops, s.low⟩ := by
  refine ⟨h.bx, h.lp, h.lw, ?_⟩
  have h1 := h.tk
  have h2 : st.toks.length ≤ s.toks.length := by have := congrArg List.length h1; simp at this; omega
  simp only [List.take_append_of_le_length h2]
  exact h1
end Go.Ab
/-
  Rows of one's own in a state that keeps what the caller has.
-/
namespace Go.Ab
variable {st s : St} {e : Env}

theorem Kept.appV {esz : Nat} {v u w : PV} {xs : List PV} (hk : Kept st s) (h : Own st s esz v xs) (hl : xs.length + 1 ≤ room) :
    ∃ v' s', Ab.appV esz s.tok1 v (.sl esz (.own s.toks.length) [u]) = some (v', s') ∧ Kept st s' ∧ Own st s' esz v' (xs ++ [u]) ∧ s'.boxes = s.boxes := by
  have hk1 := hk.tok1
  have hg : GrewAt s.tok1.boxes st.toks s.tok1.loops s.tok1.low s.tok1 := ⟨rfl, rfl, rfl, hk1.tk⟩
  have h1 := h.tok1
  obtain ⟨g2, o2⟩ := Own.app (ys := xs ++ [u]) hg h1
  refine ⟨_, _, appV_own h1 hl, ⟨?_, ?_, ?_, g2.tk⟩, o2, g2.bx⟩
  · rw [g2.bx]; exact hk1.bx
  · rw [g2.lp]; exact hk1.lp
  · rw [g2.lw]; exact hk1.lw
theorem Kept.leaveOwn1 {esz : Nat} {v : PV} {xs : List PV} (hk : Kept st s) (h : Own st s esz v xs) (hne : xs = [] → v = .nils) : Ab.leave st s v = (newSl st esz xs, newS st xs.isEmpty) := by
  have e1 := hk.bx; have e2 := hk.lp; have e3 := hk.tk
  rcases h with ⟨rfl, rfl⟩ | ⟨i, rfl, h2, h3⟩
  · simp [Ab.leave, PV.inB, hk.lw, keepRes, keepVal, keepLeaf, newSl, newS, e1, e2, e3]
  · by_cases hx : xs = []
    · have := hne hx; cases this
    · simp [Ab.leave, PV.inB, hk.lw, keepRes, keepVal, keepLeaf, keepTok, newSl, newS, hx, h3, show ¬ i < st.toks.length by omega, e1, e2, e3, St.tok1]
end Go.Ab
/-
  Addresses: plain.
-/
namespace Go.Ab

abbrev Bs := List UInt8
def alnC (c : UInt8) : Bool := (decide (97 ≤ c) && decide (c ≤ 122)) || (decide (65 ≤ c) && decide (c ≤ 90)) || (decide (48 ≤ c) && decide (c ≤ 57))
def signs : Bs := [33, 35, 36, 37, 38, 39, 42, 43, 45, 47, 61, 63, 94, 95, 123, 124, 125, 126, 96]
def atC (c : UInt8) : Bool := alnC c || signs.contains c
def labC (c : UInt8) : Bool := alnC c || decide (c = 45)
abbrev Adr := Bs × Bs × Bs
def locC (c : UInt8) : Prop := atC c = true ∨ c = 46
def domC (c : UInt8) : Prop := labC c = true ∨ c = 46
structure RightA (a : Adr) : Prop where
  lc : ∀ c ∈ a.2.1, locC c
  ln : a.2.1 ≠ []
  dc : ∀ c ∈ a.2.2, domC c
  dn : a.2.2 ≠ []
  nl : a.1.length ≤ 128
  ll : a.2.1.length ≤ 64
  dl : a.2.2.length ≤ 253
end Go.Ab
/-
  Lines' folds are undone: bytes are replaced.
-/
namespace Go.Ab
set_option maxRecDepth 20000
variable {st s : St} {e : Env}

def unfV : Bs → Bs
  | a :: b :: c :: r => if a = 13 ∧ b = 10 ∧ (c = 32 ∨ c = 9) then unfV r else a :: unfV (b :: c :: r)
  | l => l
termination_by l => l.length
end Go.Ab
/-
  Lines' folds are undone, walked.
-/
namespace Go.Ab
set_option maxRecDepth 20000
variable {st s : St} {e : Env}

end Go.Ab
/-
  A line is read: the parts of it.
-/
namespace Go.Ab
set_option maxRecDepth 20000
variable {st s : St} {e : Env}

end Go.Ab
/-
  Texts of points: put together, cut.
-/
namespace Go.Ab

theorem accP_congr {l m : List UInt8} {p : Nat} : ∀ k, (∀ j, j ≤ k → l.getD j 0 = m.getD j 0) → accP l p k = accP m p k := by
  intro k
  induction k with
  | zero => intro _; rfl
  | succ k ih =>
    intro h
    simp only [accP]
    rw [ih (fun j hj => h j (by omega)), h (k + 1) (by omega)]
theorem next_congr {l m : List UInt8} {p n : Nat} (h : nextOf l = some (p, n)) (hl : n ≤ m.length) (he : ∀ j, j < n → m.getD j 0 = l.getD j 0) : nextOf m = some (p, n) := by
  obtain ⟨h1, h2, -⟩ := next_pos h
  have h0 := he 0 (by omega)
  have hne : m ≠ [] := by rintro rfl; simp at hl; omega
  by_cases hc : (l.getD 0 0).toNat < 128
  · have h' := h
    unfold nextOf at h'
    split at h'
    · cases h'
    · cases h'
      unfold nextOf
      rw [if_neg hne, h0, if_pos hc]
  · obtain ⟨k1, k2, k3⟩ := next_succ hc h
    have hc2 : ¬ (m.getD 0 0).toNat < 128 := by rw [h0]; exact hc
    have hq : qN m n = qN l n := by
      unfold qN
      rw [h0]
      exact accP_congr _ (fun j hj => he j (by omega))
    have ht : m.take n = l.take n := by
      apply List.ext_getElem
      · simp; omega
      · intro i h1 h2
        simp only [List.length_take] at h1 h2
        have := he i (by omega)
        simp only [List.getElem_take]
        simpa [List.getD, show i < m.length by omega, show i < l.length by omega] using this
    have hs : succN m n := ⟨by rw [hq]; exact k3.1, by rw [hq, ht]; exact k3.2⟩
    have e1 := succ_next k1 hl hc2 hs
    have e2 := succ_next k1 k2 hc k3
    rw [h] at e2
    cases e2
    rw [e1, hq]

inductive Vd : List UInt8 → Prop
  | nil : Vd []
  | cons {l : List UInt8} {p n : Nat} (h : nextOf l = some (p, n)) (hr : Vd (l.drop n)) : Vd l

theorem vd_of_pts : ∀ (k : Nat) (l : List UInt8) (i : Nat), l.length + 1 - i ≤ k → i ≤ l.length → ((∃ r, ptsOf k l i = .ok r) ↔ Vd (l.drop i)) := by
  intro k
  induction k with
  | zero => intro l i h1 h2; omega
  | succ k ih =>
    intro l i h1 h2
    simp only [ptsOf]
    by_cases hlt : i < l.length
    · rw [if_pos hlt]
      have hdl : l.drop i ≠ [] := by intro h; have := congrArg List.length h; simp at this; omega
      cases hno : nextOf (l.drop i) with
      | none =>
        simp only
        constructor
        · rintro ⟨r, hr⟩; cases hr
        · intro h
          exfalso
          generalize hm : l.drop i = m at *
          cases h with
          | nil => exact hdl rfl
          | cons h' _ => rw [hno] at h'; cases h'
      | some pn =>
        obtain ⟨p, n⟩ := pn
        obtain ⟨n1, n2, -⟩ := next_pos hno
        simp only [List.length_drop] at n2
        have := ih l (i + n) (by omega) (by omega)
        simp only
        constructor
        · rintro ⟨r, hr⟩
          refine .cons hno ?_
          rw [List.drop_drop]
          apply this.1
          cases h : ptsOf k l (i + n) with
          | ok r => exact ⟨r, rfl⟩
          | error j => rw [h] at hr; cases hr
        · intro h
          have h3 : Vd ((l.drop i).drop n) := by
            generalize hm : l.drop i = m at *
            cases h with
            | nil => exact absurd rfl hdl
            | cons h' hr => rw [hno] at h'; cases h'; exact hr
          rw [List.drop_drop] at h3
          obtain ⟨r, hr⟩ := this.2 h3
          exact ⟨p :: r, by rw [hr]⟩
    · rw [if_neg hlt]
      have : i = l.length := by omega
      subst this
      rw [List.drop_length]
      exact ⟨fun _ => .nil, fun _ => ⟨[], rfl⟩⟩
theorem valid_iff {l : List UInt8} : validOf l = true ↔ Vd l := by
  have := vd_of_pts (l.length + 1) l 0 (by omega) (by omega)
  rw [List.drop_zero] at this
  rw [← this]
  unfold validOf
  cases ptsOf (l.length + 1) l 0 with
  | ok r => exact ⟨fun _ => ⟨r, rfl⟩, fun _ => rfl⟩
  | error j => exact ⟨fun h => (by cases h), fun h => (by obtain ⟨r, hr⟩ := h; cases hr)⟩

theorem Vd.app {a b : List UInt8} (ha : Vd a) (hb : Vd b) : Vd (a ++ b) := by
  induction ha with
  | nil => exact hb
  | @cons l p n h hr ih =>
    obtain ⟨n1, n2, -⟩ := next_pos h
    refine .cons (p := p) (n := n) (next_congr h (by simp; omega) fun j hj => ?_) ?_
    · simp only [List.getD]; rw [List.getElem?_append_left (by omega)]
    · rw [List.drop_append_of_le_length n2]; exact ih
theorem Vd.cut {l : List UInt8} (h : Vd l) : ∀ c, c ≤ l.length → (c = l.length ∨ ¬ isCont (l.getD c 0)) → Vd (l.take c) ∧ Vd (l.drop c) := by
  induction h with
  | nil => intro c hc _; simp at hc; subst hc; exact ⟨.nil, .nil⟩
  | @cons l p n h hr ih =>
    intro c hc hcc
    obtain ⟨n1, n2, -⟩ := next_pos h
    obtain ⟨-, c2⟩ := next_cont h
    by_cases h0 : c = 0
    · subst h0; exact ⟨.nil, .cons h hr⟩
    · have hnc : n ≤ c := by
        rcases hcc with hcc | hcc
        · omega
        · by_cases hlt : c < n
          · exact absurd (c2 c (by omega) hlt) hcc
          · omega
      have h3 := ih (c - n) (by simp; omega) (by
        rcases hcc with hcc | hcc
        · exact .inl (by simp; omega)
        · right; rw [drop_get, show n + (c - n) = c by omega]; exact hcc)
      have e1 : (l.drop n).drop (c - n) = l.drop c := by rw [List.drop_drop]; congr 1; omega
      have e2 : (l.take c).drop n = (l.drop n).take (c - n) := by rw [List.drop_take]
      refine ⟨.cons (p := p) (n := n) (next_congr h (by simp; omega) fun j hj => ?_) (by rw [e2]; exact h3.1), by rw [← e1]; exact h3.2⟩
      simp [List.getD, show j < c by omega]
theorem Vd.ascii : ∀ {l : List UInt8}, (∀ c ∈ l, c.toNat < 128) → Vd l := by
  intro l
  induction l with
  | nil => intro _; exact .nil
  | cons c r ih =>
    intro h
    refine .cons (p := c.toNat) (n := 1) ?_ (ih (fun d hd => h d (by simp [hd])))
    have := h c (by simp)
    unfold nextOf
    simp [this]
end Go.Ab
/-
  The pieces of a calendar's line: the plain law.
-/
namespace Go.Ab

theorem nmC_asc {c : UInt8} (h : nmC c = true) : c.toNat < 128 ∧ c ≠ 13 ∧ c ≠ 32 := by
  have := all256 (p := fun c => nmC c = true → c.toNat < 128 ∧ c ≠ 13 ∧ c ≠ 32) (by decide +kernel) c
  exact this h
theorem txC_ne {c : UInt8} (h : txC c = true) : c ≠ 13 := by
  have := all256 (p := fun c => txC c = true → c ≠ 13) (by decide +kernel) c
  exact this h
theorem nm_vd {l : List UInt8} (h : nmB l = true) : Vd l ∧ (∀ c ∈ l, c ≠ 13) ∧ 1 ≤ l.length ∧ l.getD 0 0 ≠ 32 := by
  simp only [nmB, Bool.and_eq_true, decide_eq_true_eq, List.all_eq_true] at h
  refine ⟨Vd.ascii fun c hc => (nmC_asc (h.2 c hc)).1, fun c hc => (nmC_asc (h.2 c hc)).2.1, h.1.1, ?_⟩
  refine (nmC_asc (h.2 _ ?_)).2.2
  simp [List.getD, show 0 < l.length by omega]
theorem tx_vd {l : List UInt8} (h : txB l = true) : Vd l ∧ ∀ c ∈ l, c ≠ 13 := by
  simp only [txB, Bool.and_eq_true, List.all_eq_true] at h
  exact ⟨valid_iff.1 h.2, fun c hc => txC_ne (h.1 c hc)⟩
def Fine (l : List UInt8) : Prop := Vd l ∧ ∀ c ∈ l, c ≠ 13
theorem Fine.app {a b : List UInt8} (ha : Fine a) (hb : Fine b) : Fine (a ++ b) := ⟨ha.1.app hb.1, fun c hc => by
  rcases List.mem_append.1 hc with h | h
  · exact ha.2 c h
  · exact hb.2 c h⟩
theorem Fine.one {c : UInt8} (h : c.toNat < 128) (h2 : c ≠ 13) : Fine [c] := ⟨Vd.ascii fun d hd => by simp at hd; subst hd; exact h, fun d hd => by simp at hd; subst hd; exact h2⟩
theorem Fine.nil : Fine [] := ⟨.nil, fun c h => by cases h⟩

theorem quote_fine {v : List UInt8} (h : Fine v) : Fine (quoteOf v) := by
  unfold quoteOf
  split
  · have := (Fine.one (c := 34) (by decide) (by decide)).app (h.app (Fine.one (c := 34) (by decide) (by decide)))
    simpa using this
  · exact h
theorem par_fine {p : Fld} (h : parOK p) : Fine (parOf p) := by
  have h1 := nm_vd h.1
  have h2 := tx_vd h.2.1
  have hF : Fine p.1 := ⟨h1.1, h1.2.1⟩
  have := (Fine.one (c := 59) (by decide) (by decide)).app (hF.app ((Fine.one (c := 61) (by decide) (by decide)).app (quote_fine h2)))
  simpa [parOf] using this
theorem pars_fine : ∀ {ps : List Fld}, (∀ p ∈ ps, parOK p) → Fine (ps.flatMap parOf) := by
  intro ps
  induction ps with
  | nil => intro _; exact .nil
  | cons p r ih =>
    intro h
    simp only [List.flatMap_cons]
    exact (par_fine (h p (by simp))).app (ih fun q hq => h q (by simp [hq]))
theorem rt_of {L : Ln} (h : rtB L = true) : rtP L := by
  apply Classical.byContradiction
  intro hn
  rw [rtB_false hn] at h; cases h
theorem text_fine {L : Ln} (h : rtB L = true) : Fine (textOfL L) ∧ 1 ≤ (textOfL L).length ∧ (textOfL L).getD 0 0 ≠ 32 := by
  have hp := rt_of h
  obtain ⟨n1, n2, n3, n4⟩ := nm_vd hp.1
  have hps : ∀ p ∈ L.ps, parOK p := fun p hpm => by
    obtain ⟨i, hi, rfl⟩ := List.mem_iff_getElem.1 hpm
    have := hp.2.2.2.2.1 i hi
    simpa [List.getD, hi] using this
  have hF : Fine L.n := ⟨n1, n2⟩
  have hT : Fine L.v := tx_vd hp.2.1
  have h1 := (hF.app (pars_fine hps)).app ((Fine.one (c := 58) (by decide) (by decide)).app hT)
  refine ⟨by simpa [textOfL] using h1, by simp [textOfL]; omega, ?_⟩
  unfold textOfL
  simp only [List.getD, List.append_assoc]
  rw [List.getElem?_append_left (by omega)]
  simpa [List.getD] using n4

theorem cut_fine {l : List UInt8} (h : Fine l) (h75 : 75 < l.length) : Fine (l.take (cutOf l 75)) ∧ Fine (l.drop (cutOf l 75)) := by
  have hv := valid_iff.2 h.1
  obtain ⟨c1, c2⟩ := cut75 h75
  have hb : ¬ isCont (l.getD (cutOf l 75) 0) := by
    have hc : cutOf l 75 = back l 75 := by simp only [cutOf, hv, if_true]; rw [Nat.min_eq_left (by omega)]
    rw [hc]
    have : ∀ m, m < l.length → 0 < back l m → ¬ isCont (l.getD (back l m) 0) := by
      intro m
      induction m with
      | zero => intro _ h; simp [back] at h
      | succ m ih =>
        intro hm h
        simp only [back] at h ⊢
        split
        · rename_i hq; rw [if_pos hq] at h; exact ih (by omega) h
        · rename_i hq; exact fun hh => hq ⟨hm, hh⟩
    exact this 75 h75 (by omega)
  obtain ⟨d1, d2⟩ := h.1.cut (cutOf l 75) (by omega) (.inr hb)
  exact ⟨⟨d1, fun c hc => h.2 c (List.mem_of_mem_take hc)⟩, ⟨d2, fun c hc => h.2 c (List.mem_of_mem_drop hc)⟩⟩

def okPiece (p : List UInt8) : Prop := Fine p ∧ 1 ≤ p.length ∧ p.length ≤ 75
theorem foldW_fine : ∀ (k : Nat) (l : List UInt8), l.length ≤ k → Fine l → 1 ≤ l.length → (∀ p ∈ foldW k l, okPiece p) ∧ (∀ i, i + 1 < (foldW k l).length → 72 ≤ ((foldW k l).getD i []).length) ∧ ∃ r, (foldW k l).getD 0 [] ++ r = l ∧ foldW k l ≠ [] := by
  intro k
  induction k with
  | zero => intro l h1 _ h2; omega
  | succ k ih =>
    intro l hl hf h1
    simp only [foldW]
    by_cases h75 : 75 < l.length
    · simp only [if_pos h75]
      obtain ⟨c1, c2⟩ := cut75 h75
      obtain ⟨f1, f2⟩ := cut_fine hf h75
      have hb := (Fine.one (c := 32) (by decide) (by decide)).app f2
      obtain ⟨i1, i2, -⟩ := ih (32 :: l.drop (cutOf l 75)) (by simp; omega) (by simpa using hb) (by simp)
      refine ⟨fun p hp => ?_, fun i hi => ?_, l.drop (cutOf l 75), by simp, by simp⟩
      · rcases List.mem_cons.1 hp with rfl | hp
        · exact ⟨f1, by simp; omega, by simp; omega⟩
        · exact i1 p hp
      · cases i with
        | zero => simp; omega
        | succ i => 
          simp only [List.length_cons] at hi
          simpa using i2 i (by omega)
    · simp only [if_neg h75]
      refine ⟨fun p hp => ?_, fun i hi => by simp at hi, [], by simp, by simp⟩
      simp only [List.mem_singleton] at hp
      subst hp
      exact ⟨hf, h1, by omega⟩
end Go.Ab
/-
  A line's text is read: the plain law.
-/
namespace Go.Ab

abbrev LnD := Bs × List Fld × Bs
theorem rtB_pv {n : Bs} {u w : PV} {ps : List Fld} {v : Bs} : rtB ⟨n, u, ps, v⟩ = rtB ⟨n, w, ps, v⟩ := rfl
theorem par_mem {L : Ln} (h : rtP L) : ∀ p ∈ L.ps, parOK p := fun p hpm => by
  obtain ⟨i, hi, rfl⟩ := List.mem_iff_getElem.1 hpm
  have := h.2.2.2.2.1 i hi
  simpa [List.getD, hi] using this
def toLn (d : LnD) : Ln := ⟨d.1, if d.2.1 = [] then .nils else .sl 2 .no (d.2.1.map fV), d.2.1, d.2.2⟩
end Go.Ab
/-
  A pair in bytes.
-/
namespace Go.Ab
variable {st : St} {e : Env}

end Go.Ab
/-
  The document's lines.
-/
namespace Go.Ab
variable {st : St} {e : Env}

def place : Nat → List (List UInt8 × Bool) → List (Nat × List UInt8 × Bool)
  | _, [] => []
  | a, (b, w) :: r => (a, b, w) :: place (a + b.length + 2) r

def full (q : Nat × List UInt8 × Bool) : List UInt8 := q.2.1 ++ (if q.2.2 then [13, 10] else [])

end Go.Ab
/-
  The lines of written lines: the plain law.
-/
namespace Go.Ab

end Go.Ab
/-
  Lines' folds are undone, lines are read: the plain law.
-/
namespace Go.Ab

theorem unfV_nil : unfV [] = [] := by unfold unfV; rfl
theorem unfV_cons {a : UInt8} {l : Bs} (h : a ≠ 13) : unfV (a :: l) = a :: unfV l := by
  match l with
  | [] => rw [unfV_nil]; unfold unfV; rfl
  | [b] =>
    have h1 : unfV [a, b] = [a, b] := by unfold unfV; rfl
    have h2 : unfV [b] = [b] := by unfold unfV; rfl
    rw [h1, h2]
  | b :: c :: r => rw [unfV, if_neg (fun q => h q.1)]
theorem unfV_app {y z : Bs} (h : ∀ c ∈ y, c ≠ 13) : unfV (y ++ z) = y ++ unfV z := by
  induction y with
  | nil => rfl
  | cons a r ih => rw [List.cons_append, unfV_cons (h a (by simp)), ih (fun c hc => h c (by simp [hc]))]; rfl
theorem unfV_fold {z : Bs} : unfV (13 :: 10 :: 32 :: z) = unfV z := by rw [unfV, if_pos ⟨rfl, rfl, .inl rfl⟩]
theorem unfV_pair {z : Bs} (h : z.getD 0 0 ≠ 32) (h9 : z.getD 0 0 ≠ 9) : unfV (13 :: 10 :: z) = 13 :: 10 :: unfV z := by
  match z with
  | [] => 
    have h1 : unfV [13, 10] = [13, 10] := by unfold unfV; rfl
    rw [h1, unfV_nil]
  | c :: r =>
    rw [unfV, if_neg, unfV_cons (by decide)]
    rintro ⟨-, -, q | q⟩
    · exact h q
    · exact h9 q
theorem unf_foldW {z : Bs} (hz : z.getD 0 0 ≠ 32) (hz9 : z.getD 0 0 ≠ 9) : ∀ (k : Nat) (l : Bs), l.length ≤ k → Fine l → 1 ≤ l.length → unfV ((foldW k l).flatMap crW ++ z) = l ++ 13 :: 10 :: unfV z := by
  intro k
  induction k with
  | zero => intro l h1 _ h2; omega
  | succ k ih =>
    intro l hl hf h1
    simp only [foldW]
    by_cases h75 : 75 < l.length
    · simp only [if_pos h75]
      obtain ⟨c1, c2⟩ := cut75 h75
      obtain ⟨f1, f2⟩ := cut_fine hf h75
      have hb := (Fine.one (c := 32) (by decide) (by decide)).app f2
      have hi := ih (32 :: l.drop (cutOf l 75)) (by simp; omega) (by simpa using hb) (by simp)
      obtain ⟨i1, -, r, i3, i4⟩ := foldW_fine k (32 :: l.drop (cutOf l 75)) (by simp; omega) (by simpa using hb) (by simp)
      generalize foldW k (32 :: l.drop (cutOf l 75)) = F at *
      cases F with
      | nil => exact absurd rfl i4
      | cons p q =>
        have hp := (i1 p (by simp)).2.1
        simp only [List.getD_cons_zero] at i3
        cases p with
        | nil => simp at hp
        | cons x p =>
          simp only [List.cons_append, List.cons.injEq] at i3
          obtain ⟨rfl, i3⟩ := i3
          simp only [List.flatMap_cons, crW, List.append_assoc, List.cons_append, List.nil_append] at hi ⊢
          rw [unfV_cons (by decide)] at hi
          rw [unfV_app f1.2, unfV_fold, (List.cons.inj hi).2, ← List.append_assoc, List.take_append_drop]
    · simp only [if_neg h75]
      simp only [List.flatMap_cons, List.flatMap_nil, crW, List.append_assoc, List.cons_append, List.nil_append]
      rw [unfV_app hf.2, unfV_pair hz hz9]
def ofLn (L : Ln) : LnD := (L.n, L.ps, L.v)
end Go.Ab
/-
  A line's text is read, walked.
-/
namespace Go.Ab
set_option maxRecDepth 20000
variable {st s : St} {e : Env}

structure Wrote (S S' : St) (b : Nat) (cs : List PV) : Prop where
  at_ : At S' b cs
  ot : ∀ c ds, c ≠ b → At S c ds → At S' c ds
  kp : ∀ st, Kept st S → st.boxes.length ≤ b → Kept st S'
  tk : S'.toks = S.toks
  bl : S'.boxes.length = S.boxes.length
  lp : S'.loops = S.loops
  lw : S'.low ≤ S.low
theorem At.lt {b : Nat} {cs : List PV} (h : At s b cs) : b < s.boxes.length := (List.getElem?_eq_some_iff.1 h).1
theorem At.bx {s' : St} {b : Nat} {cs : List PV} (h : At s b cs) (hb : s'.boxes = s.boxes) : At s' b cs := by unfold At at *; rw [hb]; exact h
theorem wrote_set {S : St} {b lo : Nat} {cs ds : List PV} (h : At S b cs) (hlo : lo = S.low ∨ lo = min S.low b) : Wrote S ⟨S.boxes.set b ds, S.toks, S.loops, lo⟩ b ds := by
  have hlt := h.lt
  refine ⟨by simp [At, hlt], fun c es hc hA => by simp only [At] at *; rw [List.getElem?_set_ne (Ne.symm hc)]; exact hA, fun st hk hb => ?_, rfl, by simp, rfl, by rcases hlo with rfl | rfl <;> simp only <;> omega⟩
  refine hk.of (by simp [List.take_set, List.set_eq_of_length_le (show (List.take st.boxes.length S.boxes).length ≤ b by simp; omega)]) rfl ?_ (fun i _ => rfl) hk.tl
  have := hk.lw
  simp only
  rcases hlo with rfl | rfl <;> omega
theorem At.st1 {S : St} {b off : Nat} {cs : List PV} {v : PV} (h : At S b cs) (hv : Leaf v) (hb : v.inB (b + 1) = true) (ho : off < cs.length) : ∃ S', storePV S 1 (.ptr b off) v = some S' ∧ Wrote S S' b (cs.set off v) := by
  refine ⟨_, ?_, wrote_set (ds := cs.set off v) (lo := if hasTok v.cells then min S.low b else S.low) h (by split <;> simp)⟩
  unfold At at h
  simp only [storePV, h, hv.1, setCells]
  rw [if_pos ⟨rfl, by omega, hb, by simp [hv.2]⟩]
theorem At.st2 {S : St} {b : Nat} {c0 c1 v0 v1 : PV} (h : At S b [c0, c1]) (l0 : leafOk v0 = true) (l1 : leafOk v1 = true) (i0 : v0.inB (b + 1) = true) (i1 : v1.inB (b + 1) = true) : ∃ S', storePV S 2 (.ptr b 0) (.agg [v0, v1]) = some S' ∧ Wrote S S' b [v0, v1] := by
  refine ⟨_, ?_, wrote_set (ds := [v0, v1]) (lo := if hasTok [v0, v1] then min S.low b else S.low) h (by split <;> simp)⟩
  unfold At at h
  simp [storePV, h, PV.cells, setCells, PV.inB, PV.inB.inBAll, l0, l1, i0, i1]; rfl
theorem At.st3 {S : St} {b : Nat} {c0 c1 c2 v0 v1 v2 : PV} (h : At S b [c0, c1, c2]) (l0 : leafOk v0 = true) (l1 : leafOk v1 = true) (l2 : leafOk v2 = true) (i0 : v0.inB (b + 1) = true) (i1 : v1.inB (b + 1) = true) (i2 : v2.inB (b + 1) = true) :
    ∃ S', storePV S 3 (.ptr b 0) (.agg [v0, v1, v2]) = some S' ∧ Wrote S S' b [v0, v1, v2] := by
  refine ⟨_, ?_, wrote_set (ds := [v0, v1, v2]) (lo := if hasTok [v0, v1, v2] then min S.low b else S.low) h (by split <;> simp)⟩
  unfold At at h
  simp [storePV, h, PV.cells, setCells, PV.inB, PV.inB.inBAll, l0, l1, l2, i0, i1, i2]; rfl
theorem At.ld3 {S : St} {b : Nat} {x y z : PV} (h : At S b [x, y, z]) : loadPV S true 3 (.ptr b 0) = some (.agg [x, y, z]) := by
  unfold At at h; simp [loadPV, h, readCells]
theorem Own.tks {s' : St} {esz : Nat} {v : PV} {xs : List PV} (h : Own st s esz v xs) (ht : s'.toks = s.toks) : Own st s' esz v xs := by
  rcases h with h | ⟨i, h1, h2, h3⟩
  · exact .inl h
  · exact .inr ⟨i, h1, h2, by rw [ht]; exact h3⟩
theorem W_cutX {A : AP} {a b : ACode} {Q : Ex → Env → St → Prop} (M : Env → St → Prop) (h1 : W A a e st (fun x e' s' => (x = .normal ∧ M e' s') ∨ (x ≠ .normal ∧ Q x e' s'))) (h2 : ∀ e' s', M e' s' → W A b e' s' Q) : W A (.seq a b) e st Q := by
  rw [qaaz]
  refine W_mono h1 ?_
  rintro x e s (⟨rfl, h⟩ | ⟨hx, h⟩)
  · exact h2 e s h
  · cases x with
    | normal => exact absurd rfl hx
    | ret => rw [qbaz]; exact h
    | exit i => rw [qbbz]; exact h
    | goto i => rw [qbcz]; exact h

end Go.Ab
/-
  Lines are read, walked.
-/
namespace Go.Ab
set_option maxRecDepth 20000
variable {st s : St} {e : Env}

theorem At.take {X : St} {b n : Nat} {cs : List PV} (h : At s b cs) (hb : b < n) (hX : X.boxes = s.boxes.take n) : At X b cs := by
  unfold At at *; rw [hX, List.getElem?_take, if_pos hb]; exact h
def stL (st : St) (rs : List LoopS) : St := ⟨st.boxes, st.toks, st.loops ++ rs, st.low⟩
theorem Kept.newS {S : St} {b : Bool} (h : Kept st S) : Kept st (newS S b) := by cases b; exact h.tok1; exact h
theorem Own.newS {S : St} {b : Bool} {esz : Nat} {v : PV} {xs : List PV} (h : Own st S esz v xs) : Own st (newS S b) esz v xs := by cases b; exact h.tok1; exact h
end Go.Ab
/-
  Lines are read, walked.
-/
namespace Go.Ab
set_option maxRecDepth 20000
variable {st s : St} {e : Env}

theorem lenB {t : Tok} {l : List UInt8} : lenPV false (.bys t l) = some (.int .i64 (l.length : Int)) := rfl
theorem Kept.swap {S : St} {r r' : LoopS} (h : Kept (stL st [r]) S) : Kept (stL st [r']) { S with loops := S.loops.set st.loops.length r' } := by
  refine ⟨h.bx, ?_, h.lw, h.tk⟩
  have := h.lp
  simp only [stL] at this ⊢
  rw [this, set_app0]
end Go.Ab
/-
  A line's text is read by the document, walked.
-/
namespace Go.Ab
set_option maxRecDepth 20000
variable {st s : St} {e : Env}

end Go.Ab
/-
  Lines are read by the document, walked; equal lines.
-/
namespace Go.Ab
set_option maxRecDepth 20000
variable {st s : St} {e : Env}

theorem fa3_0 {a b c : PV} : faddrPV 0 (.cp [a, b, c]) = some (.cp [a, b, c]) := rfl
theorem fa3_1 {a b c : PV} : faddrPV 1 (.cp [a, b, c]) = some (.cp [b, c]) := rfl
theorem fa3_2 {a b c : PV} : faddrPV 2 (.cp [a, b, c]) = some (.cp [c]) := rfl
theorem ldcp {a : PV} {r : List PV} : loadPV st false 1 (.cp (a :: r)) = some a := rfl
end Go.Ab
/-
  The sheet's values: escaped, unescaped; the program's and the document's answers.
-/
namespace Go.Ab
variable {st : St} {e : Env}

end Go.Ab
/-
  Equal lines; what must come of fixed calls.
-/
namespace Go.Ab
set_option maxRecDepth 20000
variable {st s : St} {e : Env}

end Go.Ab
/-
  What the laws of lines' reading ask: plain.
-/
namespace Go.Ab
set_option maxRecDepth 20000
variable {st s : St} {e : Env}

theorem toLn_vs {d : LnD} : (toLn d).pv.vs 2 = some ((toLn d).ps.map fV) := by
  obtain ⟨n, ps, v⟩ := d
  cases ps with
  | nil => simp [toLn, PV.vs]
  | cons p r => simp [toLn, PV.vs]
theorem nm_len {l : Bs} (h : nmB l = true) : l.length ≤ 64 := by
  simp only [nmB, Bool.and_eq_true, decide_eq_true_eq] at h; exact h.1.2
theorem toLn_ok {d : LnD} (h : rtB (toLn d) = true) : (toLn d).ok := by
  have hp := rt_of h
  have h1 := nm_len hp.1
  have h2 := hp.2.2.1
  have h3 := hp.2.2.2.1
  refine ⟨toLn_vs, ?_, ?_, ?_, by omega, by omega, by omega, fun p hpm => ?_⟩
  · intro n
    unfold toLn
    split <;> rfl
  · unfold toLn
    split <;> rfl
  · unfold toLn
    split <;> rfl
  · have := par_mem hp p hpm
    have h4 := nm_len this.1
    have h5 := this.2.2.1
    omega
end Go.Ab
/-
  Trees: plain.
-/
namespace Go.Ab

inductive TD where
  | mk (n : Bs) (ls : List LnD) (cs : List TD)
def T0 : TD := .mk [] [] []
def TD.n : TD → Bs
  | .mk n _ _ => n
def TD.ls : TD → List LnD
  | .mk _ ls _ => ls
def TD.cs : TD → List TD
  | .mk _ _ cs => cs
theorem TD.ind {P : TD → Prop} (h : ∀ n ls cs, (∀ c ∈ cs, P c) → P (.mk n ls cs)) : ∀ T, P T
  | .mk n ls cs => h n ls cs (fun c hc => TD.ind h c)
termination_by T => SizeOf.sizeOf T
decreasing_by
  have := List.sizeOf_lt_of_mem hc
  simp; omega

mutual
def TD.cnt : TD → Nat
  | .mk _ _ cs => 1 + cntL cs
def cntL : List TD → Nat
  | [] => 0
  | c :: r => c.cnt + cntL r
end
mutual
def TD.lns : TD → Nat
  | .mk _ ls cs => ls.length + lnsL cs
def lnsL : List TD → Nat
  | [] => 0
  | c :: r => c.lns + lnsL r
end
mutual
def TD.deep : TD → Nat
  | .mk _ _ cs => 1 + deepL cs
def deepL : List TD → Nat
  | [] => 0
  | c :: r => max c.deep (deepL r)
end
def begS : Bs := [66, 69, 71, 73, 78]
def endS : Bs := [69, 78, 68]
noncomputable def lineB (d : LnD) : Bool := rtB (toLn d) && !decide (d.1 = begS) && !decide (d.1 = endS)
mutual
noncomputable def TD.fit : TD → Bool
  | .mk n ls cs => nmB n && ls.all lineB && fitL cs
noncomputable def fitL : List TD → Bool
  | [] => true
  | c :: r => c.fit && fitL r
end
noncomputable def rightD (T : TD) : Bool := decide (T.cnt ≤ 64) && decide (T.lns ≤ 8192) && decide (T.deep ≤ 8) && T.fit
theorem cntL_app {a b : List TD} : cntL (a ++ b) = cntL a + cntL b := by
  induction a with
  | nil => simp [cntL]
  | cons c r ih => simp only [List.cons_append, cntL, ih]; omega
theorem lnsL_app {a b : List TD} : lnsL (a ++ b) = lnsL a + lnsL b := by
  induction a with
  | nil => simp [lnsL]
  | cons c r ih => simp only [List.cons_append, lnsL, ih]; omega
theorem deepL_app {a b : List TD} : deepL (a ++ b) = max (deepL a) (deepL b) := by
  induction a with
  | nil => simp [deepL]
  | cons c r ih => simp only [List.cons_append, deepL, ih]; omega
theorem fitL_all {a : List TD} : fitL a = a.all TD.fit := by
  induction a with
  | nil => simp [fitL]
  | cons c r ih => simp only [fitL, ih, List.all_cons]
theorem take_snoc {α : Type} {d : α} {l : List α} {i : Nat} (h : i < l.length) : l.take (i + 1) = l.take i ++ [l.getD i d] := by
  rw [List.take_succ_eq_append_getElem h]; simp [List.getD, h]
theorem getD_mem {α : Type} {d : α} {l : List α} {i : Nat} (h : i < l.length) : l.getD i d ∈ l := by simp [List.getD, h]

def Ln.good (L : Ln) : Prop := L.pv.vs 2 = some (L.ps.map fV) ∧ tokOf L.pv = none
def okD (d : LnD) : Prop := d.1.length ≤ 300 ∧ d.2.2.length ≤ 5000 ∧ d.2.1.length ≤ 30 ∧ ∀ p ∈ d.2.1, p.1.length + p.2.length ≤ 500
theorem vs_leaf {v : PV} {e : Nat} {xs : List PV} (h : v.vs e = some xs) : leafOk v = true ∧ ∀ n, v.inB n = true := by
  rcases vs_cases h with ⟨rfl, _⟩ | ⟨t, rfl⟩ <;> exact ⟨rfl, fun _ => rfl⟩
theorem Ln.good.ok {L : Ln} (h : L.good) (hb : okD (ofLn L)) : L.ok := ⟨h.1, (vs_leaf h.1).2, (vs_leaf h.1).1, h.2, hb.1, hb.2.1, hb.2.2.1, hb.2.2.2⟩
theorem rt_okD {d : LnD} (h : rtB (toLn d) = true) : okD d := by
  have := toLn_ok h
  exact ⟨this.l1, this.l2, this.l3, this.l4⟩
inductive IsT : TD → PV → Prop
  | mk {n : Bs} {ls : List LnD} {cs : List TD} {lv cv : PV} {Ls : List Ln} {ys : List PV} (h1 : lv.vs 3 = some (Ls.map lV)) (h2 : Ls.map ofLn = ls) (h3 : ∀ L ∈ Ls, L.good) (h5 : cv.vs 3 = some ys) (h6 : ys.length = cs.length) (h7 : ∀ i, i < cs.length → IsT (cs.getD i T0) (ys.getD i .undef)) : IsT (.mk n ls cs) (.agg [.str n, lv, cv])
inductive TD.sm : TD → Prop
  | mk {n : Bs} {ls : List LnD} {cs : List TD} (h1 : n.length ≤ 5000) (h2 : ls.length ≤ 100000) (h3 : ∀ d ∈ ls, okD d) (h4 : cs.length ≤ 100000) (h5 : ∀ c ∈ cs, c.sm) : TD.sm (.mk n ls cs)
theorem IsT.inv {n : Bs} {ls : List LnD} {cs : List TD} {v : PV} (h : IsT (.mk n ls cs) v) : ∃ (lv cv : PV) (Ls : List Ln) (ys : List PV), v = .agg [.str n, lv, cv] ∧ lv.vs 3 = some (Ls.map lV) ∧ Ls.map ofLn = ls ∧ (∀ L ∈ Ls, L.good) ∧ cv.vs 3 = some ys ∧ ys.length = cs.length ∧ ∀ i, i < cs.length → IsT (cs.getD i T0) (ys.getD i .undef) := by
  cases h with
  | mk h1 h2 h3 h5 h6 h7 => exact ⟨_, _, _, _, rfl, h1, h2, h3, h5, h6, h7⟩
theorem IsT.agg {T : TD} {v : PV} (h : IsT T v) : ∃ lv cv, v = .agg [.str T.n, lv, cv] ∧ (leafOk lv = true ∧ ∀ n, lv.inB n = true) ∧ (leafOk cv = true ∧ ∀ n, cv.inB n = true) := by
  obtain ⟨n, ls, cs⟩ := T
  obtain ⟨lv, cv, Ls, ys, rfl, h1, h2, h3, h5, -, -⟩ := h.inv
  exact ⟨lv, cv, rfl, vs_leaf h1, vs_leaf h5⟩
theorem iaddr_T {x : PV} {ys : List PV} {i : Nat} {T : TD} (h : x.vs 3 = some ys) (hi : i < ys.length) (hT : IsT T (ys.getD i .undef)) : ∃ lv cv, ys.getD i .undef = .agg [.str T.n, lv, cv] ∧ iaddrPV 3 x (.int .i64 (i : Int)) = some (.cp [.str T.n, lv, cv]) ∧ IsT T (.agg [.str T.n, lv, cv]) ∧ (leafOk lv = true ∧ ∀ n, lv.inB n = true) ∧ (leafOk cv = true ∧ ∀ n, cv.inB n = true) := by
  obtain ⟨lv, cv, h1, h2, h3⟩ := hT.agg
  refine ⟨lv, cv, h1, ?_, by rw [← h1]; exact hT, h2, h3⟩
  rw [iaddr_vs h (by omega) (by rw [Int.toNat_natCast]; exact hi), Int.toNat_natCast, h1]; rfl

mutual
def TD.lines : TD → List LnD
  | .mk n ls cs => (begS, [], n) :: (ls ++ linesL cs) ++ [(endS, [], n)]
def linesL : List TD → List LnD
  | [] => []
  | c :: r => c.lines ++ linesL r
end
theorem linesL_app {a b : List TD} : linesL (a ++ b) = linesL a ++ linesL b := by
  induction a with
  | nil => simp [linesL]
  | cons c r ih => simp only [List.cons_append, linesL, ih, List.append_assoc]

end Go.Ab
/-
  Trees: small functions, equal trees, how many there are.
-/
namespace Go.Ab
set_option maxRecDepth 20000
variable {st s : St} {e : Env}

theorem strip_vs {v : PV} {e : Nat} {xs : List PV} (h : v.vs e = some xs) : ∃ u, stripLeaf v = some u ∧ u.vs e = some xs ∧ tokOf u = none := by
  rcases vs_cases h with ⟨rfl, rfl⟩ | ⟨t, rfl⟩
  · exact ⟨.nils, rfl, h, rfl⟩
  · exact ⟨.sl e .no xs, rfl, by simp [PV.vs], rfl⟩
theorem strip_T {n : Bs} {ls : List LnD} {cs : List TD} {v : PV} (h : IsT (.mk n ls cs) v) : ∃ (lv cv : PV) (Ls : List Ln) (ys : List PV), strip v = some (.agg [.str n, lv, cv]) ∧ IsT (.mk n ls cs) (.agg [.str n, lv, cv]) ∧ lv.vs 3 = some (Ls.map lV) ∧ Ls.map ofLn = ls ∧ (∀ L ∈ Ls, L.good) ∧ cv.vs 3 = some ys ∧ ys.length = cs.length ∧ ∀ i, i < cs.length → IsT (cs.getD i T0) (ys.getD i .undef) := by
  obtain ⟨lv, cv, Ls, ys, rfl, h1, h2, h3, h5, h6, h7⟩ := h.inv
  obtain ⟨lu, a1, a2, -⟩ := strip_vs h1
  obtain ⟨cu, c1, c2, -⟩ := strip_vs h5
  exact ⟨lu, cu, Ls, ys, by
    show (stripAll [.str n, lv, cv]).map PV.agg = _
    simp only [stripAll, show stripLeaf (.str n) = some (.str n) from rfl, a1, c1]; rfl, .mk a2 h2 h3 c2 h6 h7, a2, h2, h3, c2, h6, h7⟩
theorem cells3 {a b c : PV} : (PV.agg [a, b, c]).cells = [a, b, c] := rfl
theorem lcc {a : PV} {r : List PV} : loadcPV false 1 (.cp (a :: r)) = some a := rfl
theorem lcc3 {a b c : PV} : loadcPV true 3 (.cp [a, b, c]) = some (.agg [a, b, c]) := rfl
theorem ldcp3 {a b c : PV} : loadPV st true 3 (.cp [a, b, c]) = some (.agg [a, b, c]) := rfl

theorem rt_name {s : Bs} : rtB ⟨s, .nils, [], []⟩ = nmB s := by
  cases h : nmB s with
  | true => exact rtB_true ⟨h, (by decide +kernel : txB [] = true), by simp, by simp, fun i hi => by simp at hi, fun i hi => by simp at hi⟩
  | false => exact rtB_false fun hp => by rw [hp.1] at h; cases h
theorem tIsName_spec {x : Bs} (hl : x.length ≤ 1000000) : call prog (.fn 345 []) [.str x] st = some (.bool (nmB x), st) := by
  refine call_of_W prog_345 ?_
  unfold F_tree_isName; dsimp only
  have hb : buildCells [.str [], .nils, .str []] [(0, 1, .str x)] = some [.str x, .nils, .str []] := rfl
  have hrt := fun S : St => sRightR_spec (st := S) (L := ⟨x, .nils, [], []⟩) ⟨rfl, fun _ => rfl, rfl, hl, by simp, by simp, fun p hp => by simp at hp⟩
  simp only [lV, rt_name] at hrt
  simp (maxSteps := 1000000) (disch := omega) only [hb, hrt, qaaz, qabz, qaiz, qajz, qalz, evOp, qaoz, qapz, qaqz, qarz, qatz, qavz,
 ↓reduceIte, List.append_nil, List.map_cons, List.map_nil, qawz, Option.map_some, qazz, qblz, reduceCtorEq]
  exact retB rfl Kept.start rfl

theorem part_le {cs : List TD} {i : Nat} (h : i < cs.length) : cntL (cs.take i) + (cs.getD i T0).cnt ≤ cntL cs ∧ lnsL (cs.take i) + (cs.getD i T0).lns ≤ lnsL cs ∧ max (deepL (cs.take i)) (cs.getD i T0).deep ≤ deepL cs := by
  have e : cs = cs.take i ++ (cs.getD i T0 :: cs.drop (i + 1)) := by
    rw [show cs.getD i T0 :: cs.drop (i + 1) = cs.drop i by rw [List.drop_eq_getElem_cons h]; simp [List.getD, h], List.take_append_drop]
  have h1 := congrArg cntL e
  have h2 := congrArg lnsL e
  have h3 := congrArg deepL e
  rw [cntL_app] at h1
  rw [lnsL_app] at h2
  rw [deepL_app] at h3
  simp only [cntL, lnsL, deepL] at h1 h2 h3
  exact ⟨by omega, by omega, by omega⟩
theorem take_succ_T {cs : List TD} {i : Nat} (h : i < cs.length) : cntL (cs.take (i + 1)) = cntL (cs.take i) + (cs.getD i T0).cnt ∧ lnsL (cs.take (i + 1)) = lnsL (cs.take i) + (cs.getD i T0).lns ∧ deepL (cs.take (i + 1)) = max (deepL (cs.take i)) (cs.getD i T0).deep := by
  rw [take_snoc (d := T0) h, cntL_app, lnsL_app, deepL_app]
  simp [cntL, lnsL, deepL]
theorem ret3I {a b c : Nat} {p q r : Int} {p' q' r' : Int} (ha : e a = .int .i64 p) (hb : e b = .int .i64 q) (hc : e c = .int .i64 r) (hk : Kept st s) (h1 : p = p') (h2 : q = q') (h3 : r = r') :
    ∃ rv, resOf e s [.tmp a, .tmp b, .tmp c] = some rv ∧ leave st s rv = (.tup [.int .i64 p', .int .i64 q', .int .i64 r'], st) := by
  subst h1 h2 h3
  exact ret3 ha hb hc rfl rfl rfl hk ⟨fun _ => rfl, fun _ _ => rfl⟩

end Go.Ab
/-
  Trees that may be.
-/
namespace Go.Ab
set_option maxRecDepth 20000
variable {st s : St} {e : Env}

theorem lineB_of {L : Ln} (h : L.good) : lineB (ofLn L) = (rtB L && !decide (L.n = begS) && !decide (L.n = endS)) := by
  unfold lineB
  rw [show rtB (toLn (ofLn L)) = rtB L from rtB_pv]; rfl
theorem lineB_ok {L : Ln} (hr : rtB L = true) (h1 : L.n ≠ begS) (h2 : L.n ≠ endS) (h : L.good) : lineB (ofLn L) = true := by rw [lineB_of h, hr]; simp [h1, h2]
theorem all_take {α : Type} {p : α → Bool} {d : α} {l : List α} (h : ∀ i, i < l.length → p (l.getD i d) = true) : l.all p = true := by
  rw [List.all_eq_true]
  intro x hx
  obtain ⟨i, hi, rfl⟩ := List.mem_iff_getElem.1 hx
  have := h i hi
  simpa [List.getD, hi] using this
theorem all_not {α : Type} {p : α → Bool} {d : α} {l : List α} {i : Nat} (hi : i < l.length) (h : p (l.getD i d) = false) : l.all p = false := by
  rw [Bool.eq_false_iff]
  intro q
  rw [List.all_eq_true] at q
  have := q _ (getD_mem (d := d) hi)
  rw [h] at this; cases this
theorem getD_map {Ls : List Ln} {i : Nat} (h : i < Ls.length) : (Ls.map ofLn).getD i ([], [], []) = ofLn (Ls.getD i L0) := by simp [List.getD, h]

set_option maxHeartbeats 4000000 in
theorem fits_spec : ∀ (T : TD), T.sm → ∀ (x : PV) (st : St), IsT T x → call prog (.fn 342 []) [x] st = some (.bool T.fit, st) := by
  refine TD.ind ?_
  intro n ls cs ih hsm x st hx
  cases hsm with
  | mk s1 s2 s3 s4 s5 =>
  refine call_of_W prog_342 ?_
  unfold F_posthornref11_fits; dsimp only
  generalize hQ1 : endQ st _ _ = Q0
  obtain ⟨lv, cv, Ls, ys, a1, a2, a3, a4, a5, a6, a7, a8⟩ := strip_T hx
  have hll := len_vs a3
  have hcl := len_vs a6
  rw [a7] at hcl
  have hLl : Ls.length = ls.length := by rw [← a4]; simp
  rw [List.length_map, hLl] at hll
  have no : ∀ (E : Env) (S : St), Kept st S → TD.fit (.mk n ls cs) = false → E 2 = .bool false → Q0 .ret E S := fun E S k h h4 => by
    rw [← hQ1, qblz]; exact retB h4 k h.symm
  have yes : ∀ (E : Env) (S : St), Kept st S → TD.fit (.mk n ls cs) = true → E 2 = .bool true → Q0 .ret E S := fun E S k h h4 => by
    rw [← hQ1, qblz]; exact retB h4 k h.symm
  have hnm := fun S : St => rNm_spec (st := S) (l := n) (by omega)
  have hfit : TD.fit (.mk n ls cs) = (nmB n && ls.all lineB && cs.all TD.fit) := by rw [TD.fit, fitL_all]
  cases hn : nmB n with
  | false =>
    rw [hn] at hnm
    simp (maxSteps := 1000000) (disch := omega) only [a1, cells3, fa3_0, lcc, hnm, qaaz, qabz, qacz, qaiz, qajz, qalz, evOp, qaoz, qapz, qaqz, qarz, qatz, qavz,
 ↓reduceIte, Nat.reduceEqDiff, List.append_nil, List.map_cons, List.map_nil, qawz, Option.map_some, qazz, qbaz, qbhz, qcfz, Bool.not_false]
    exact no _ _ Kept.start (by rw [hfit, hn]; rfl) rfl
  | true =>
  rw [hn] at hnm
  simp (maxSteps := 1000000) (disch := omega) only [a1, cells3, fa3_0, lcc, hnm, qaaz, qabz, qacz, qadz, qaez, qajz, qalz, evOp, qaoz, qapz, qaqz, qarz, qatz, qavz,
 ↓reduceIte, Nat.reduceEqDiff, List.append_nil, List.map_cons, List.map_nil, qawz, Option.map_some, qazz, qbhz, qcfz, Bool.false_eq_true, Bool.not_true]
  obtain ⟨I, hI⟩ : ∃ I : Nat → Env → St → Prop, I = fun k E S => ∃ i : Nat, k = ls.length - i ∧ i ≤ ls.length ∧ Kept st S ∧ (∀ j, j < i → lineB (ls.getD j ([], [], [])) = true) ∧ E 1 = .cp [.str n, lv, cv] ∧ E 3 = .int .i64 (i : Int) := ⟨_, rfl⟩
  refine W_loop I ?_ (n := ls.length) (by
    rw [hI]; exact ⟨0, rfl, by omega, Kept.start, fun j hj => by omega, rfl, rfl⟩)
  intro k E S hh
  rw [hI] at hh
  obtain ⟨i, rfl, hi, hk, hall, h1, h3⟩ := hh
  by_cases hlt : i < ls.length
  · obtain ⟨L, hL⟩ : ∃ L, L = Ls.getD i L0 := ⟨_, rfl⟩
    have hltL : i < Ls.length := by omega
    have hLm : L ∈ Ls := by rw [hL]; exact getD_mem hltL
    have hg := a5 L hLm
    have hia := iaddr_L (k := .i64) (c := (i : Int)) a3 (by omega) (by rw [Int.toNat_natCast]; exact hltL)
    rw [Int.toNat_natCast, ← hL] at hia
    have hgd : ls.getD i ([], [], []) = ofLn L := by rw [← a4, getD_map hltL, ← hL]
    have hok : L.ok := hg.ok (by rw [← hgd]; exact s3 _ (getD_mem hlt))
    have hrt := fun S : St => rRight_spec (st := S) hok
    simp only [lV] at hrt
    have bad : lineB (ofLn L) = false → TD.fit (.mk n ls cs) = false := fun h => by
      rw [hfit, all_not (d := ([], [], [])) hlt (by rw [hgd]; exact h)]; simp
    cases hr : rtB L with
    | false =>
      rw [hr] at hrt
      simp (maxSteps := 1000000) (disch := omega) only [h1, h3, fa3_1, lcc, hll, hlt, hia, ldcp3, hrt, qaaz, qabz, qacz, qadz, qaez, qaiz, qajz, qakz, qalz, qamz, qanz, evOp, qaoz, qapz, qaqz, qarz, qatz, qavz,
 ↓reduceIte, Nat.reduceEqDiff, List.map_cons, List.map_nil, Option.map_some, qazz, qbaz, qbez, qbhz, qbiz, qbpz, qcfz, beq_false, decide_true, Int.ofNat_lt, Bool.false_eq_true, Bool.not_true, Bool.not_false]
      exact no _ _ hk (bad (by rw [lineB_of hg, hr]; rfl)) rfl
    | true =>
    rw [hr] at hrt
    by_cases hb : L.n = begS
    · have hb' : L.n = [66, 69, 71, 73, 78] := hb
      simp (maxSteps := 1000000) (disch := omega) only [h1, h3, fa3_0, fa3_1, lcc, ldcp, hll, hlt, hia, ldcp3, hrt, eq_true hb', qaaz, qabz, qacz, qadz, qaez, qaiz, qajz, qakz, qalz, qamz, qanz, evOp, qaoz, qapz, qaqz, qarz, qatz, qavz,
 ↓reduceIte, Nat.reduceEqDiff, List.map_cons, List.map_nil, Option.map_some, qazz, qbaz, qbez, qbhz, qbiz, qbpz, qcbz, qcfz, beq_false, decide_true, Int.ofNat_lt, Bool.false_eq_true, Bool.not_true, Bool.not_false]
      exact no _ _ hk (bad (by rw [lineB_of hg, hr]; simp [hb])) rfl
    · by_cases he : L.n = endS
      · have hb' : ¬ L.n = [66, 69, 71, 73, 78] := hb
        have he' : L.n = [69, 78, 68] := he
        simp (maxSteps := 1000000) (disch := omega) only [h1, h3, fa3_0, fa3_1, lcc, ldcp, hll, hlt, hia, ldcp3, hrt, hb', eq_true he', qaaz, qabz, qacz, qadz, qaez, qaiz, qajz, qakz, qalz, qamz, qanz, evOp, qaoz, qapz, qaqz, qarz, qatz, qavz,
 ↓reduceIte, Nat.reduceEqDiff, List.map_cons, List.map_nil, Option.map_some, qazz, qbaz, qbez, qbhz, qbiz, qbpz, qcbz, qcfz, beq_false, decide_true, decide_false,
 Int.ofNat_lt, Bool.false_eq_true, Bool.not_true, Bool.not_false]
        exact no _ _ hk (bad (by rw [lineB_of hg, hr]; simp [he])) rfl
      · have hb' : ¬ L.n = [66, 69, 71, 73, 78] := hb
        have he' : ¬ L.n = [69, 78, 68] := he
        simp (maxSteps := 1000000) (disch := omega) only [h1, h3, fa3_0, fa3_1, lcc, ldcp, hll, hlt, hia, ldcp3, hrt, hb', he', add_n, loopQ_normal, qaaz, qabz, qacz, qadz, qaez, qajz, qakz, qalz, qamz, qanz, evOp, qaoz, qapz, qaqz, qarz, qatz, qavz,
 ↓reduceIte, Nat.reduceEqDiff, List.map_cons, List.map_nil, Option.map_some, qazz, qbdz, qbhz, qbpz, qcbz, qcfz, beq_false, decide_true, decide_false,
 Int.ofNat_lt, Bool.false_eq_true, Int.reduceToNat, Bool.not_true, Bool.not_false]
        refine ⟨ls.length - (i + 1), by omega, ?_⟩
        rw [hI]
        refine ⟨i + 1, rfl, by omega, hk, fun j hj => ?_, h1, rfl⟩
        by_cases hji : j = i
        · subst hji; rw [hgd]; exact lineB_ok hr hb he hg
        · exact hall j (by omega)
  · obtain rfl : i = ls.length := by omega
    have hls := all_take (p := lineB) hall
    simp (maxSteps := 1000000) (disch := omega) only [h1, h3, fa3_1, lcc, hll, hlt, qaaz, qabz, qacz, qadz, qagz, qajz, qalz, evOp, qaoz, qapz, qarz, qatz, qavz,
 ↓reduceIte, Nat.reduceEqDiff, Option.map_some, qazz, qbbz, qbfz, qbhz, qbjz, qbpz, decide_false,
 Int.ofNat_lt, Bool.false_eq_true]
    clear hI I
    obtain ⟨I, hI⟩ : ∃ I : Nat → Env → St → Prop, I = fun k E S => ∃ i : Nat, k = cs.length - i ∧ i ≤ cs.length ∧ Kept st S ∧ (∀ j, j < i → TD.fit (cs.getD j T0) = true) ∧ E 1 = .cp [.str n, lv, cv] ∧ E 4 = .int .i64 (i : Int) := ⟨_, rfl⟩
    refine W_loop I ?_ (n := cs.length) (by
      rw [hI]; exact ⟨0, rfl, by omega, hk, fun j hj => by omega, h1, rfl⟩)
    clear hk h1 h3
    intro k E S hh
    rw [hI] at hh
    obtain ⟨i, rfl, hi, hk, hallc, h1, h4⟩ := hh
    by_cases hltc : i < cs.length
    · obtain ⟨la, ca, q1, q2, q3, -, -⟩ := iaddr_T a6 (by omega) (a8 i hltc)
      obtain ⟨c, hc⟩ : ∃ c, c = cs.getD i T0 := ⟨_, rfl⟩
      rw [← hc] at q2 q3
      have hcall := fun S : St => ih c (by rw [hc]; exact getD_mem hltc) (s5 c (by rw [hc]; exact getD_mem hltc)) _ S q3
      cases hf : c.fit with
      | false =>
        rw [hf] at hcall
        simp (maxSteps := 1000000) (disch := omega) only [h1, h4, fa3_2, lcc, hcl, hltc, q2, ldcp3, hcall, qaaz, qabz, qacz, qadz, qaez, qaiz, qajz, qalz, evOp, qaoz, qapz, qaqz, qarz, qatz, qavz,
 ↓reduceIte, Nat.reduceEqDiff, List.map_cons, List.map_nil, Option.map_some, qazz, qbaz, qbez, qbhz, qbiz, qbpz, qcfz, decide_true, Int.ofNat_lt, Bool.not_false]
        exact no _ _ hk (by rw [hfit, all_not (d := T0) hltc (by rw [← hc]; exact hf)]; simp) rfl
      | true =>
        rw [hf] at hcall
        simp (maxSteps := 1000000) (disch := omega) only [h1, h4, fa3_2, lcc, hcl, hltc, q2, ldcp3, hcall, add_n, loopQ_normal, qaaz, qabz, qacz, qadz, qaez, qajz, qalz, evOp, qaoz, qapz, qaqz, qarz, qatz, qavz,
 ↓reduceIte, Nat.reduceEqDiff, List.map_cons, List.map_nil, Option.map_some, qazz, qbdz, qbhz, qbpz, qcfz, decide_true, Int.ofNat_lt, Bool.false_eq_true, Int.reduceToNat, Bool.not_true]
        refine ⟨cs.length - (i + 1), by omega, ?_⟩
        rw [hI]
        refine ⟨i + 1, rfl, by omega, hk, fun j hj => ?_, h1, rfl⟩
        by_cases hji : j = i
        · subst hji; rw [← hc]; exact hf
        · exact hallc j (by omega)
    · obtain rfl : i = cs.length := by omega
      simp (maxSteps := 1000000) (disch := omega) only [h1, h4, fa3_2, lcc, hcl, hltc, qaaz, qabz, qacz, qagz, qaiz, qajz, qalz, evOp, qaoz, qapz, qarz, qatz, qavz,
 ↓reduceIte, Nat.reduceEqDiff, Option.map_some, qazz, qbbz, qbfz, qbhz, qbjz, qbpz, decide_false,
 Int.ofNat_lt, Bool.false_eq_true]
      exact yes _ _ hk (by rw [hfit, hn, hls, all_take hallc]; rfl) rfl

def stB (st : St) (b : Nat) (c l : Nat) : St := ⟨st.boxes.set b [.int .i64 (c : Int), .int .i64 (l : Int)], st.toks, st.loops, st.low⟩
theorem Kept.setB {S : St} {b c l c' l' : Nat} (h : Kept (stB st b c l) S) : Kept (stB st b c' l') ⟨S.boxes.set b [.int .i64 (c' : Int), .int .i64 (l' : Int)], S.toks, S.loops, S.low⟩ := by
  obtain ⟨h1, h2, h3, h4⟩ := h
  simp only [stB, List.length_set] at h1 h3 h4
  refine ⟨?_, h2, by simpa [stB] using h3, h4⟩
  simp only [stB, List.length_set, List.take_set, h1, List.set_set]
theorem Kept.atB {S : St} {b c l : Nat} (h : Kept (stB st b c l) S) (hb : b < st.boxes.length) : At S b [.int .i64 (c : Int), .int .i64 (l : Int)] := by
  have h1 := h.bx
  simp only [stB, List.length_set] at h1
  have h2 := congrArg (fun l => l[b]?) h1
  simp only [List.getElem?_take, hb, if_true, List.getElem?_set_self hb] at h2
  exact h2
theorem At.sti0 {S : St} {b : Nat} {x y : PV} {c : Int} (h : At S b [x, y]) : storePV S 1 (.ptr b 0) (.int .i64 c) = some ⟨S.boxes.set b [.int .i64 c, y], S.toks, S.loops, S.low⟩ := by
  unfold At at h
  simp [storePV, h, PV.cells, PV.inB, setCells, leafOk, hasTok, tokOf]
theorem At.sti1 {S : St} {b : Nat} {x y : PV} {c : Int} (h : At S b [x, y]) : storePV S 1 (.ptr b 1) (.int .i64 c) = some ⟨S.boxes.set b [x, .int .i64 c], S.toks, S.loops, S.low⟩ := by
  unfold At at h
  simp [storePV, h, PV.cells, PV.inB, setCells, leafOk, hasTok, tokOf]
theorem At.stB_eq {b c l : Nat} (h : At st b [.int .i64 (c : Int), .int .i64 (l : Int)]) : stB st b c l = st := by
  unfold At at h
  obtain ⟨hlt, hg⟩ := List.getElem?_eq_some_iff.1 h
  have : st.boxes.set b [.int .i64 (c : Int), .int .i64 (l : Int)] = st.boxes := by rw [← hg]; simp
  unfold stB; rw [this]
noncomputable def okM (T : TD) (k c l : Nat) : Bool := T.fit && decide (k + T.deep ≤ 9) && decide (c + T.cnt ≤ 64) && decide (l + T.lns ≤ 8192)
theorem okM_false {T : TD} {k c l : Nat} (h : T.fit = false ∨ 9 < k + T.deep ∨ 64 < c + T.cnt ∨ 8192 < l + T.lns) : okM T k c l = false := by
  rw [Bool.eq_false_iff]
  intro q
  simp only [okM, Bool.and_eq_true, decide_eq_true_eq] at q
  obtain ⟨⟨⟨q1, q2⟩, q3⟩, q4⟩ := q
  rcases h with h | h | h | h
  · rw [h] at q1; cases q1
  · omega
  · omega
  · omega
theorem okM_cases {T : TD} {k c l : Nat} (h : okM T k c l = false) : T.fit = false ∨ 9 < k + T.deep ∨ 64 < c + T.cnt ∨ 8192 < l + T.lns := by
  by_cases h1 : T.fit = true
  · by_cases h2 : k + T.deep ≤ 9
    · by_cases h3 : c + T.cnt ≤ 64
      · by_cases h4 : l + T.lns ≤ 8192
        · simp [okM, h1, h2, h3, h4] at h
        · omega
      · omega
    · omega
  · left; simpa using h1

set_option maxHeartbeats 8000000 in
theorem meter_spec : ∀ (T : TD), T.sm → ∀ (x : PV) (st : St) (b c l k : Nat), IsT T x → At st b [.int .i64 (c : Int), .int .i64 (l : Int)] → c ≤ 1000000 → l ≤ 1000000 → k ≤ 1000 →
    ∃ c' l', call prog (.fn 341 []) [.ptr b 0, x, .int .i64 (k : Int)] st = some (.bool (okM T k c l), stB st b c' l') ∧ (okM T k c l = true → c' = c + T.cnt ∧ l' = l + T.lns) := by
  refine TD.ind ?_
  intro n ls cs ih hsm x st b c l k hx hAt hcb hlb hkb
  cases hsm with
  | mk s1 s2 s3 s4 s5 =>
  have hbl := hAt.lt
  have hcore : ∃ r, call prog (.fn 341 []) [.ptr b 0, x, .int .i64 (k : Int)] st = some r ∧ ∃ c' l', r = (.bool (okM (.mk n ls cs) k c l), stB st b c' l') ∧ (okM (.mk n ls cs) k c l = true → c' = c + (TD.mk n ls cs).cnt ∧ l' = l + (TD.mk n ls cs).lns) := by
    refine call_ex prog_341 ?_
    unfold F_P_tree_meter_right; dsimp only
    generalize hQ1 : endX st _ _ = Q0
    obtain ⟨lv, cv, Ls, ys, a1, a2, a3, a4, a5, a6, a7, a8⟩ := strip_T hx
    have hll := len_vs a3
    have hcl := len_vs a6
    rw [a7] at hcl
    have hLl : Ls.length = ls.length := by rw [← a4]; simp
    rw [List.length_map, hLl] at hll
    obtain ⟨T, hT⟩ : ∃ T, T = TD.mk n ls cs := ⟨_, rfl⟩
    have hTf : T.fit = (nmB n && ls.all lineB && cs.all TD.fit) := by rw [hT, TD.fit, fitL_all]
    have hTc : T.cnt = 1 + cntL cs := by rw [hT, TD.cnt]
    have hTl : T.lns = ls.length + lnsL cs := by rw [hT, TD.lns]
    have hTd : T.deep = 1 + deepL cs := by rw [hT, TD.deep]
    rw [← hT] at hQ1
    have fin : ∀ (E : Env) (S : St) (c' l' : Nat) (ok : Bool), Kept (stB st b c' l') S → ok = okM T k c l → (ok = true → c' = c + T.cnt ∧ l' = l + T.lns) → E 6 = .bool ok → Q0 .ret E S := by
      intro E S c' l' ok hk ho hc h6
      rw [← hQ1]
      refine ⟨.inr rfl, .bool ok, by simp [resOf, rvAll, rv1, h6, notTup, packRes], c', l', ?_, by rw [← ho]; exact hc⟩
      obtain ⟨k1, k2, k3, k4⟩ := hk
      simp only [stB, List.length_set] at k1 k2 k3 k4
      simp [leave, PV.inB, k3, keepRes, keepVal, keepLeaf, k1, k2, k4, stB, ho]
    have no : ∀ (E : Env) (S : St) (c' l' : Nat), Kept (stB st b c' l') S → (T.fit = false ∨ 9 < k + T.deep ∨ 64 < c + T.cnt ∨ 8192 < l + T.lns) → E 6 = .bool false → Q0 .ret E S := fun E S c' l' hk h h6 =>
      fin E S c' l' false hk (okM_false h).symm (fun q => by cases q) h6
    have hS0 : Kept (stB st b c l) { st with low := st.boxes.length } := by rw [hAt.stB_eq]; exact Kept.start
    refine W_cut (fun E S => Kept (stB st b c l) S ∧ E 0 = .ptr b 0 ∧ E 2 = .int .i64 (k : Int) ∧ E 4 = .cp [.str n, lv, cv]) ?_ ?_
    · simp (maxSteps := 1000000) (disch := omega) only [a1, cells3, qabz, qajz, qalz, evOp, qaoz, qapz, qarz, qatz, qavz,
 ↓reduceIte, Nat.reduceEqDiff, qawz, qaxz, Option.map_some, true_and, and_true, reduceCtorEq]
      exact hS0
    rintro e S ⟨hk, h0, h2, h4⟩
    refine W_cut (fun E S => Kept (stB st b (c + 1) l) S ∧ E 0 = .ptr b 0 ∧ E 2 = .int .i64 (k : Int) ∧ E 4 = .cp [.str n, lv, cv]) ?_ ?_
    · have hA := hk.atB hbl
      have hld := hA.load (k := 0) (v := .int .i64 (c : Int)) (r := [.int .i64 (l : Int)]) rfl
      have hst := hA.sti0 (c := ((c + 1 : Nat) : Int))
      simp (maxSteps := 1000000) (disch := omega) only [h0, h2, h4, faP, Nat.zero_add, hld, add_n, Int.reduceToNat, hst, qabz, qajz, qalz, evOp, qaoz, qapz, qarz, qatz, qauz, qavz,
 ↓reduceIte, Nat.reduceEqDiff, Option.map_some, qckz, Int.reduceToNat, true_and, and_true, reduceCtorEq]
      exact hk.setB
    clear hk h0 h2 h4 hS0
    rintro e S ⟨hk, h0, h2, h4⟩
    refine W_cut (fun E S => Kept (stB st b (c + 1) (l + ls.length)) S ∧ E 0 = .ptr b 0 ∧ E 2 = .int .i64 (k : Int) ∧ E 4 = .cp [.str n, lv, cv]) ?_ ?_
    · have hA := hk.atB hbl
      have hld := hA.load (k := 1) (v := .int .i64 (l : Int)) (r := []) rfl
      have hst := hA.sti1 (c := ((l + ls.length : Nat) : Int))
      simp (maxSteps := 1000000) (disch := omega) only [h0, h2, h4, faP, Nat.zero_add, hld, fa3_1, lcc, hll, add_n, hst, qabz, qajz, qalz, evOp, qaoz, qarz, qatz, qauz, qavz,
 ↓reduceIte, Nat.reduceEqDiff, Option.map_some, Int.toNat_natCast, qckz, true_and, and_true, reduceCtorEq]
      exact hk.setB
    clear hk h0 h2 h4
    rintro e S ⟨hk, h0, h2, h4⟩
    have hnm := fun S : St => tIsName_spec (st := S) (x := n) (by omega)
    have hA := hk.atB hbl
    have hld0 := hA.load (k := 0) (v := .int .i64 ((c + 1 : Nat) : Int)) (r := [.int .i64 ((l + ls.length : Nat) : Int)]) rfl
    have hld1 := hA.load (k := 1) (v := .int .i64 ((l + ls.length : Nat) : Int)) (r := []) rfl
    cases hn : nmB n with
    | false =>
      rw [hn] at hnm
      simp (maxSteps := 1000000) (disch := omega) only [h4, fa3_0, lcc, hnm, qaaz, qabz, qacz, qaiz, qajz, qakz, qalz, qamz, qanz, evOp, qaoz, qapz, qaqz, qarz, qatz, qavz,
 ↓reduceIte, Nat.reduceEqDiff, List.map_cons, List.map_nil, Option.map_some, qazz, qbaz, qbhz, qcfz, beq_false, Bool.false_eq_true, Bool.not_true, Bool.not_false]
      exact no _ _ _ _ hk (.inl (by rw [hTf, hn]; rfl)) rfl
    | true =>
    rw [hn] at hnm
    by_cases hk8 : 8 < k
    · have e1 : (8 : Int) < (k : Int) := by omega
      simp (maxSteps := 1000000) (disch := omega) only [h2, h4, fa3_0, lcc, hnm, e1, qaaz, qabz, qacz, qaiz, qajz, qakz, qalz, qamz, qanz, evOp, qaoz, qapz, qaqz, qarz, qatz, qavz,
 ↓reduceIte, Nat.reduceEqDiff, List.map_cons, List.map_nil, Option.map_some, qazz, qbaz, qbhz, qbrz, qcfz, beq_false, decide_true, Bool.false_eq_true, Bool.not_true, Bool.not_false]
      exact no _ _ _ _ hk (.inr (.inl (by omega))) rfl
    have e1 : ¬ (8 : Int) < (k : Int) := by omega
    by_cases hc64 : 64 < c + 1
    · have e2 : (64 : Int) < ((c + 1 : Nat) : Int) := by omega
      simp (maxSteps := 1000000) (disch := omega) only [h0, h2, h4, fa3_0, lcc, hnm, e1, faP, Nat.zero_add, hld0, e2, qaaz, qabz, qacz, qaiz, qajz, qakz, qalz, qamz, qanz, evOp, qaoz, qapz, qaqz, qarz, qatz, qavz,
 ↓reduceIte, Nat.reduceEqDiff, List.map_cons, List.map_nil, Option.map_some, qazz, qbaz, qbhz, qbrz, qcfz, beq_false, decide_true, decide_false,
 Bool.false_eq_true, qckz, reduceCtorEq, Bool.not_true, Bool.not_false]
      exact no _ _ _ _ hk (.inr (.inr (.inl (by omega)))) rfl
    have e2 : ¬ (64 : Int) < ((c + 1 : Nat) : Int) := by omega
    by_cases hl8 : 8192 < l + ls.length
    · have e3 : (8192 : Int) < ((l + ls.length : Nat) : Int) := by omega
      simp (maxSteps := 1000000) (disch := omega) only [h0, h2, h4, fa3_0, lcc, hnm, e1, faP, Nat.zero_add, hld0, hld1, e2, e3, qaaz, qabz, qacz, qaiz, qajz, qakz, qalz, qamz, qanz, evOp, qaoz, qapz, qaqz, qarz, qatz, qavz,
 ↓reduceIte, Nat.reduceEqDiff, List.map_cons, List.map_nil, Option.map_some, qazz, qbaz, qbhz, qbrz, qcfz, beq_false, decide_true, decide_false,
 Bool.false_eq_true, qckz, reduceCtorEq, Bool.not_true, Bool.not_false]
      exact no _ _ _ _ hk (.inr (.inr (.inr (by omega)))) rfl
    have e3 : ¬ (8192 : Int) < ((l + ls.length : Nat) : Int) := by omega
    simp (maxSteps := 1000000) (disch := omega) only [h0, h2, h4, fa3_0, fa3_1, lcc, hnm, e1, faP, Nat.zero_add, hld0, hld1, e2, e3, hll, qaaz, qabz, qacz, qadz, qaez, qajz, qakz, qalz, qamz, qanz, evOp, qaoz, qapz, qaqz, qarz, qatz, qavz,
 ↓reduceIte, Nat.reduceEqDiff, List.map_cons, List.map_nil, Option.map_some, qazz, qbhz, qbrz, qcfz, beq_false, decide_false,
 Bool.false_eq_true, qckz, reduceCtorEq, Bool.not_true, Bool.not_false]
    clear hld0 hld1 hA
    obtain ⟨I, hI⟩ : ∃ I : Nat → Env → St → Prop, I = fun z E S => ∃ i : Nat, z = ls.length - i ∧ i ≤ ls.length ∧ Kept (stB st b (c + 1) (l + ls.length)) S ∧ (∀ j, j < i → lineB (ls.getD j ([], [], [])) = true) ∧ E 0 = .ptr b 0 ∧ E 2 = .int .i64 (k : Int) ∧ E 4 = .cp [.str n, lv, cv] ∧ E 51 = lv ∧ E 52 = .int .i64 (ls.length : Int) ∧ E 53 = .int .i64 (i : Int) := ⟨_, rfl⟩
    refine W_loop I ?_ (n := ls.length) (by
      rw [hI]; exact ⟨0, rfl, by omega, hk, fun j hj => by omega, h0, h2, h4, rfl, rfl, rfl⟩)
    clear hk h0 h2 h4
    intro z E S hh
    rw [hI] at hh
    obtain ⟨i, rfl, hi, hk, hall, h0, h2, h4, h51, h52, h53⟩ := hh
    by_cases hlt : i < ls.length
    · obtain ⟨L, hL⟩ : ∃ L, L = Ls.getD i L0 := ⟨_, rfl⟩
      have hltL : i < Ls.length := by omega
      have hLm : L ∈ Ls := by rw [hL]; exact getD_mem hltL
      have hg := a5 L hLm
      have hia := iaddr_L (k := .i64) (c := (i : Int)) a3 (by omega) (by rw [Int.toNat_natCast]; exact hltL)
      rw [Int.toNat_natCast, ← hL] at hia
      have hgd : ls.getD i ([], [], []) = ofLn L := by rw [← a4, getD_map hltL, ← hL]
      have hok : L.ok := hg.ok (by rw [← hgd]; exact s3 _ (getD_mem hlt))
      have hrt := fun S : St => sRight_spec (st := S) hok
      simp only [lV] at hrt
      have bad : lineB (ofLn L) = false → T.fit = false := fun h => by
        rw [hTf, all_not (d := ([], [], [])) hlt (by rw [hgd]; exact h)]; simp
      obtain ⟨b8, hb8⟩ : ∃ b8, b8 = S.boxes.length := ⟨_, rfl⟩
      have hle8 : (stB st b (c + 1) (l + ls.length)).boxes.length ≤ b8 := by have := hk.bl; omega
      have hA8 := At.last (s := S) (z := [.str [], .nils, .str []]) (T := S.toks) (Lp := S.loops) (lo := S.low)
      rw [← hb8] at hA8
      obtain ⟨S1, q1, w1⟩ := hA8.st3 (v0 := .str L.n) (v1 := L.pv) (v2 := .str L.v) rfl hok.lf rfl rfl (hok.ib _) rfl
      have m1 := w1.kp _ hk.alloc' hle8
      have hln := w1.at_.load (k := 0) (v := .str L.n) (r := [L.pv, .str L.v]) rfl
      cases hr : rtB L with
      | false =>
        rw [hr] at hrt
        simp (maxSteps := 1000000) (disch := omega) only [h51, h52, h53, hlt, hia, ldcp3, allocPV, ← hb8, q1, w1.at_.ld3, hrt, qaaz, qabz, qacz, qadz, qaez, qaiz, qajz, qakz, qalz, qamz, qanz, evOp, qaoz, qapz, qaqz, qarz, qatz, qauz, qavz,
 ↓reduceIte, Nat.reduceEqDiff, List.map_cons, List.map_nil, Option.map_some, qazz, qbaz, qbez, qbhz, qbiz, qbpz, qcfz, beq_false, decide_true, Int.ofNat_lt, Bool.false_eq_true, Bool.not_true, Bool.not_false]
        exact no _ _ _ _ m1 (.inl (bad (by rw [lineB_of hg, hr]; rfl))) rfl
      | true =>
      rw [hr] at hrt
      by_cases hb : L.n = begS
      · have hb' : L.n = [66, 69, 71, 73, 78] := hb
        simp (maxSteps := 1000000) (disch := omega) only [h51, h52, h53, hlt, hia, ldcp3, allocPV, ← hb8, q1, w1.at_.ld3, hrt, faP, Nat.zero_add, hln, eq_true hb', qaaz, qabz, qacz, qadz, qaez, qaiz, qajz, qakz, qalz, qamz, qanz, evOp, qaoz, qapz, qaqz, qarz, qatz, qauz, qavz,
 ↓reduceIte, Nat.reduceEqDiff, List.map_cons, List.map_nil, Option.map_some, qazz, qbaz, qbez, qbhz, qbiz, qbpz, qcbz, qcfz, beq_false, decide_true, Int.ofNat_lt, Bool.false_eq_true, Bool.not_true, Bool.not_false]
        exact no _ _ _ _ m1 (.inl (bad (by rw [lineB_of hg, hr]; simp [hb]))) rfl
      · by_cases he : L.n = endS
        · have hb' : ¬ L.n = [66, 69, 71, 73, 78] := hb
          have he' : L.n = [69, 78, 68] := he
          simp (maxSteps := 1000000) (disch := omega) only [h51, h52, h53, hlt, hia, ldcp3, allocPV, ← hb8, q1, w1.at_.ld3, hrt, faP, Nat.zero_add, hln, hb', eq_true he', qaaz, qabz, qacz, qadz, qaez, qaiz, qajz, qakz, qalz, qamz, qanz, evOp, qaoz, qapz, qaqz, qarz, qatz, qauz, qavz,
 ↓reduceIte, Nat.reduceEqDiff, List.map_cons, List.map_nil, Option.map_some, qazz, qbaz, qbez, qbhz, qbiz, qbpz, qcbz, qcfz, beq_false, decide_true, decide_false,
 Int.ofNat_lt, Bool.false_eq_true, Bool.not_true, Bool.not_false]
          exact no _ _ _ _ m1 (.inl (bad (by rw [lineB_of hg, hr]; simp [he]))) rfl
        · have hb' : ¬ L.n = [66, 69, 71, 73, 78] := hb
          have he' : ¬ L.n = [69, 78, 68] := he
          simp (maxSteps := 1000000) (disch := omega) only [h51, h52, h53, hlt, hia, ldcp3, allocPV, ← hb8, q1, w1.at_.ld3, hrt, faP, Nat.zero_add, hln, hb', he', add_n, loopQ_normal, qaaz, qabz, qacz, qadz, qaez, qajz, qakz, qalz, qamz, qanz, evOp, qaoz, qapz, qaqz, qarz, qatz, qauz, qavz,
 ↓reduceIte, Nat.reduceEqDiff, List.map_cons, List.map_nil, Option.map_some, qazz, qbdz, qbhz, qbpz, qcbz, qcfz, beq_false, decide_true, decide_false,
 Int.ofNat_lt, Bool.false_eq_true, Int.reduceToNat, Bool.not_true, Bool.not_false]
          refine ⟨ls.length - (i + 1), by omega, ?_⟩
          rw [hI]
          refine ⟨i + 1, rfl, by omega, m1, fun j hj => ?_, h0, h2, h4, h51, h52, rfl⟩
          by_cases hji : j = i
          · subst hji; rw [hgd]; exact lineB_ok hr hb he hg
          · exact hall j (by omega)
    · obtain rfl : i = ls.length := by omega
      have hls := all_take (p := lineB) hall
      simp (maxSteps := 1000000) (disch := omega) only [h4, h52, h53, fa3_2, lcc, hcl, hlt, qaaz, qabz, qacz, qadz, qagz, qajz, qalz, evOp, qaoz, qapz, qarz, qatz, qavz,
 ↓reduceIte, Nat.reduceEqDiff, Option.map_some, qazz, qbbz, qbfz, qbhz, qbjz, qbpz, decide_false,
 Int.ofNat_lt, Bool.false_eq_true]
      clear hI I
      obtain ⟨I, hI⟩ : ∃ I : Nat → Env → St → Prop, I = fun z E S => ∃ i : Nat, z = cs.length - i ∧ i ≤ cs.length ∧ Kept (stB st b (c + 1 + cntL (cs.take i)) (l + ls.length + lnsL (cs.take i))) S ∧ (∀ j, j < i → TD.fit (cs.getD j T0) = true) ∧ k + deepL (cs.take i) ≤ 8 ∧ c + 1 + cntL (cs.take i) ≤ 64 ∧ l + ls.length + lnsL (cs.take i) ≤ 8192 ∧ E 0 = .ptr b 0 ∧ E 2 = .int .i64 (k : Int) ∧ E 72 = cv ∧ E 73 = .int .i64 (cs.length : Int) ∧ E 74 = .int .i64 (i : Int) := ⟨_, rfl⟩
      refine W_loop I ?_ (n := cs.length) (by
        rw [hI]; exact ⟨0, rfl, by omega, by simpa [cntL, lnsL] using hk, fun j hj => by omega, by simp [deepL]; omega, by simp [cntL]; omega, by simp [lnsL]; omega, h0, h2, rfl, rfl, rfl⟩)
      clear hk h0 h2 h4 h51 h52 h53
      intro z E S hh
      rw [hI] at hh
      obtain ⟨i, rfl, hi, hk, hallc, hd8, hc8, hl8', h0, h2, h72, h73, h74⟩ := hh
      by_cases hltc : i < cs.length
      · obtain ⟨la, ca, q1, q2, q3, q4, q5⟩ := iaddr_T a6 (by omega) (a8 i hltc)
        obtain ⟨p1, p2, p3⟩ := part_le hltc
        obtain ⟨t1, t2, t3⟩ := take_succ_T hltc
        obtain ⟨d, hd⟩ : ∃ d, d = cs.getD i T0 := ⟨_, rfl⟩
        rw [← hd] at q2 q3 p1 p2 p3 t1 t2 t3
        have hdm : d ∈ cs := by rw [hd]; exact getD_mem hltc
        obtain ⟨ci, hci⟩ : ∃ ci, ci = c + 1 + cntL (cs.take i) := ⟨_, rfl⟩
        obtain ⟨li, hli⟩ : ∃ li, li = l + ls.length + lnsL (cs.take i) := ⟨_, rfl⟩
        rw [← hci, ← hli] at hk
        obtain ⟨b10, hb10⟩ : ∃ b10, b10 = S.boxes.length := ⟨_, rfl⟩
        have hle10 : (stB st b ci li).boxes.length ≤ b10 := by have := hk.bl; omega
        have hA10 := At.last (s := S) (z := [.str [], .nils, .nils]) (T := S.toks) (Lp := S.loops) (lo := S.low)
        rw [← hb10] at hA10
        obtain ⟨S1, u1, w1⟩ := hA10.st3 (v0 := .str d.n) (v1 := la) (v2 := ca) rfl q4.1 q5.1 rfl (q4.2 _) (q5.2 _)
        have m1 := w1.kp _ hk.alloc' hle10
        have hAb := m1.atB hbl
        obtain ⟨c', l', r1, r2⟩ := ih d hdm (s5 d hdm) _ S1 b ci li (k + 1) q3 hAb (by omega) (by omega) (by omega)
        have m2 : Kept (stB st b c' l') (stB S1 b c' l') := m1.setB
        cases hok : okM d (k + 1) ci li with
        | false =>
          rw [hok] at r1
          simp (maxSteps := 1000000) (disch := omega) only [h0, h2, h72, h73, h74, hltc, q2, ldcp3, allocPV, ← hb10, u1, w1.at_.ld3, add_n, Int.reduceToNat, r1, qaaz, qabz, qacz, qadz, qaez, qaiz, qajz, qalz, evOp, qaoz, qapz, qaqz, qarz, qatz, qauz, qavz,
 ↓reduceIte, Nat.reduceEqDiff, List.map_cons, List.map_nil, Option.map_some, qazz, qbaz, qbez, qbhz, qbiz, qbpz, qcfz, decide_true, Int.ofNat_lt, Int.reduceToNat, reduceCtorEq, Bool.not_false]
          refine no _ _ _ _ m2 ?_ rfl
          rcases okM_cases hok with h | h | h | h
          · left; rw [hTf, all_not (d := T0) hltc (by rw [← hd]; exact h)]; simp
          · right; left; omega
          · right; right; left; omega
          · right; right; right; omega
        | true =>
          rw [hok] at r1
          obtain ⟨rfl, rfl⟩ := r2 hok
          simp only [okM, Bool.and_eq_true, decide_eq_true_eq] at hok
          obtain ⟨⟨⟨o1, o2⟩, o3⟩, o4⟩ := hok
          simp (maxSteps := 1000000) (disch := omega) only [h0, h2, h72, h73, h74, hltc, q2, ldcp3, allocPV, ← hb10, u1, w1.at_.ld3, add_n, Int.reduceToNat, r1, loopQ_normal, qaaz, qabz, qacz, qadz, qaez, qajz, qalz, evOp, qaoz, qapz, qaqz, qarz, qatz, qauz, qavz,
 ↓reduceIte, Nat.reduceEqDiff, List.map_cons, List.map_nil, Option.map_some, qazz, qbdz, qbhz, qbpz, qcfz, decide_true, Int.ofNat_lt, Bool.false_eq_true, Int.reduceToNat, reduceCtorEq, Bool.not_true]
          refine ⟨cs.length - (i + 1), by omega, ?_⟩
          rw [hI]
          refine ⟨i + 1, rfl, by omega, ?_, fun j hj => ?_, by omega, by omega, by omega, h0, h2, h72, h73, rfl⟩
          · rw [t1, t2, show c + 1 + (cntL (cs.take i) + d.cnt) = ci + d.cnt by omega, show l + ls.length + (lnsL (cs.take i) + d.lns) = li + d.lns by omega]
            exact m2
          · by_cases hji : j = i
            · subst hji; rw [← hd]; exact o1
            · exact hallc j (by omega)
      · obtain rfl : i = cs.length := by omega
        rw [List.take_length] at hk hd8 hc8 hl8'
        simp (maxSteps := 1000000) (disch := omega) only [h73, h74, hltc, qaaz, qabz, qacz, qagz, qaiz, qajz, qalz, evOp, qaoz, qapz, qarz, qatz, qavz,
 ↓reduceIte, Option.map_some, qazz, qbbz, qbfz, qbhz, qbjz, qbpz, decide_false,
 Int.ofNat_lt, Bool.false_eq_true]
        refine fin _ _ _ _ true hk ?_ (fun _ => ⟨by omega, by omega⟩) rfl
        have : T.fit = true := by rw [hTf, hn, hls, all_take hallc]; rfl
        simp [okM, this]
        omega
  obtain ⟨r, h1, c', l', h2, h3⟩ := hcore
  exact ⟨c', l', by rw [h1, h2], h3⟩

theorem tRight_spec {T : TD} {x : PV} (hsm : T.sm) (hx : IsT T x) : call prog (.fn 321 []) [x] st = some (.bool (rightD T), st) := by
  refine call_of_W prog_321 ?_
  unfold F_tree_Right; dsimp only
  generalize hQ1 : endQ st _ _ = Q0
  obtain ⟨n, ls, cs⟩ := T
  obtain ⟨lv, cv, Ls, ys, a1, a2, a3, a4, a5, a6, a7, a8⟩ := strip_T hx
  obtain ⟨b, hb⟩ : ∃ b, b = st.boxes.length := ⟨_, rfl⟩
  obtain ⟨S, hS⟩ : ∃ S : St, S = ⟨st.boxes ++ [[.int .i64 0, .int .i64 0]], st.toks, st.loops, st.boxes.length⟩ := ⟨_, rfl⟩
  have hA : At S b [.int .i64 ((0 : Nat) : Int), .int .i64 ((0 : Nat) : Int)] := by rw [hS, hb]; exact At.last (s := ⟨st.boxes, st.toks, st.loops, st.boxes.length⟩)
  obtain ⟨c', l', r1, -⟩ := meter_spec _ hsm _ S b 0 0 1 a2 hA (by omega) (by omega) (by omega)
  have hR : okM (.mk n ls cs) 1 0 0 = rightD (.mk n ls cs) := by
    unfold okM rightD
    rw [Bool.eq_iff_iff]
    simp only [Bool.and_eq_true, decide_eq_true_eq]
    constructor
    · rintro ⟨⟨⟨h1, h2⟩, h3⟩, h4⟩; exact ⟨⟨⟨by omega, by omega⟩, by omega⟩, h1⟩
    · rintro ⟨⟨⟨h1, h2⟩, h3⟩, h4⟩; exact ⟨⟨⟨h4, by omega⟩, by omega⟩, by omega⟩
  rw [hR] at r1
  have hbx : PV.inB.inBAll st.boxes.length [.int .i64 0, .int .i64 0] = true := rfl
  have r1' : call prog (.fn 341 []) [.ptr st.boxes.length 0, .agg [.str n, lv, cv], .int .i64 1] ⟨st.boxes ++ [[.int .i64 0, .int .i64 0]], st.toks, st.loops, st.boxes.length⟩ = some (.bool (rightD (.mk n ls cs)), stB S b c' l') := by
    rw [← hS, ← hb]; exact r1
  simp (maxSteps := 1000000) (disch := omega) only [a1, cells3, build0i, PV.inB, hbx, show (PV.agg [PV.int .i64 0, PV.int .i64 0]).cells = [PV.int .i64 0, PV.int .i64 0] from rfl, show List.all [PV.int .i64 0, PV.int .i64 0] leafOk = true from rfl, and_self, allocPV, lcc3, r1', qaaz, qabz, qaiz, qajz, qalz, evOp, qaoz, qapz, qaqz, qarz, qatz, qavz,
 ↓reduceIte, Nat.reduceEqDiff, List.append_nil, List.map_cons, List.map_nil, qawz, Option.map_some, qazz]
  rw [← hQ1, qblz]
  refine retB rfl ?_ rfl
  rw [hS]
  exact ⟨by simp [stB, hb], rfl, by simp [stB], by simp [stB]⟩
end Go.Ab
/-
  Lines are read as a component, walked.
-/
namespace Go.Ab
set_option maxRecDepth 20000
variable {st s : St} {e : Env}

theorem Own.more {esz : Nat} {u : PV} {xs : List PV} {T : List Bool} (h : Own st s esz u xs) {B : List (List PV)} {Lp : List LoopS} {lo : Nat} : Own st ⟨B, s.toks ++ T, Lp, lo⟩ esz u xs := by
  rcases h with h | ⟨j, rfl, h2, h3⟩
  · exact .inl h
  · refine .inr ⟨j, rfl, h2, ?_⟩
    have hlt := (List.getElem?_eq_some_iff.1 h3).1
    show (s.toks ++ T)[j]? = some true
    rw [List.getElem?_append_left hlt]; exact h3
def Cmps (cs : List TD) (ys : List PV) : Prop := ys.length = cs.length ∧ ∀ i, i < cs.length → IsT (cs.getD i T0) (ys.getD i .undef)
theorem Cmps.app {cs : List TD} {ys : List PV} {D : TD} {u : PV} (h : Cmps cs ys) (hD : IsT D u) : Cmps (cs ++ [D]) (ys ++ [u]) := by
  refine ⟨by simp [h.1], fun i hi => ?_⟩
  simp only [List.length_append, List.length_singleton] at hi
  by_cases hlt : i < cs.length
  · have := h.2 i hlt
    have h1 := h.1
    simp only [List.getD, List.getElem?_append_left hlt, List.getElem?_append_left (show i < ys.length by omega)] at this ⊢
    exact this
  · have h1 := h.1
    obtain rfl : i = cs.length := by omega
    simp only [List.getD, List.getElem?_append_right (Nat.le_refl _), Nat.sub_self, List.getElem?_cons_zero, Option.getD_some]
    rw [List.getElem?_append_right (by omega), show cs.length - ys.length = 0 by omega]
    exact hD
theorem strip_I {D : TD} {v : PV} (h : IsT D v) : ∃ u, strip v = some u ∧ IsT D u ∧ u.cells.length = 3 := by
  obtain ⟨n, ls, cs⟩ := D
  obtain ⟨lv, cv, Ls, ys, a1, a2, -⟩ := strip_T h
  exact ⟨_, a1, a2, rfl⟩
end Go.Ab
