/-
  The point at a text's front: the program's function.
-/
import Derived.Test.YtomocanaidhnlaaDoorA3
import Derived.KernelRfl
set_option linter.unusedVariables false
set_option linter.unusedSimpArgs false
namespace Go.Ab
variable {A : AP} {st s : St} {e : Env}

def scopeQ (A : AP) (b rest : ACode) (Q : Ex → Env → St → Prop) : Ex → Env → St → Prop
  | .goto l, e, s => if l = 0 then W A (.scopeAt b rest) e s Q else False
  | x, e, s => Q x e s
theorem W_scope1 {b rest : ACode} {Q : Ex → Env → St → Prop} (hl : findLabelA b 0 = some rest) (h : W A b e st (scopeQ A b rest Q)) : W A (.scope b) e st Q := by
  rw [W_scope]
  refine W_scopeAt (W_mono h ?_)
  intro x e s hq
  cases x with
  | goto l =>
    simp only [scopeQ] at hq
    split at hq
    · rename_i h0; subst h0
      simp only [hl]; exact hq
    · cases hq
  | normal => exact hq
  | ret => exact hq
  | exit i => exact hq

theorem mid_getD {l : List UInt8} {n k : Nat} (h : k + 1 < n) : ((l.take n).drop 1).getD k 0 = l.getD (k + 1) 0 := by
  simp only [List.getD, List.getElem?_drop, List.getElem?_take]
  rw [if_pos (by omega), Nat.add_comm]

set_option maxHeartbeats 1000000 in
theorem uNext_spec {x : PV} {l : List UInt8} (hx : x.by = some l) (hl : l.length ≤ 100000000) : call prog (.fn 77 []) [x] st = some (nextV l, st) := by
  refine call_of_W prog_77 ?_
  unfold F_utf_Next; dsimp only
  refine W_cut (fun E S => Kept st S ∧ E 0 = x) ?_ ?_
  · simp (maxSteps := 1000000) (disch := omega) only [qabz, qajz, qalz, evOp, qapz, qarz, qatz, qavz,
 ↓reduceIte, List.append_nil, qawz, true_and, and_true, reduceCtorEq]
    exact Kept.start
  rintro e S ⟨hk, h0⟩
  refine W_scope1 rfl ?_
  generalize hR : scopeQ prog _ _ _ = R
  have fin : ∀ (E : Env) (S : St) (p n c : Int), Kept st S → nextV l = .tup [.int .i32 p, .int .i64 n, .int .i64 c] → E 2 = .int .i32 p → E 3 = .int .i64 n → E 4 = .int .i64 c → R .ret E S := by
    intro E S p n c k1 hv k2 k3 k4
    rw [← hR]
    show endQ _ _ _ .ret E S
    rw [qblz]
    exact ⟨.tup [.int .i32 p, .int .i64 n, .int .i64 c], by simp [resOf, rvAll, rv1, k2, k3, k4, notTup, packRes], by rw [hv]; exact k1.leave rfl (fun _ _ => rfl)⟩
  have wrong : ∀ (E : Env) (S : St), Kept st S → nextOf l = none → l ≠ [] → R (.goto 0) E S := by
    intro E S k1 hv hne
    rw [← hR]
    simp only [scopeQ, if_true]
    refine W_scopeAt ?_
    simp (maxSteps := 1000000) (disch := omega) only [qaaz, qabz, qaez, qaiz, qajz, qalz, evOp, qapz, qarz, qatz, qazz, qblz]
    exact ⟨.tup [.int .i32 0, .int .i64 0, .int .i64 20], rfl, by rw [nextV_none hv hne]; exact k1.leave rfl (fun _ _ => rfl)⟩
  clear hR
  by_cases hne : l = []
  · have e1 : decide ((l.length : Int) = 0) = true := by simp [hne]
    simp (maxSteps := 1000000) (disch := omega) only [h0, len_by hx, e1, qaaz, qabz, qacz, qaiz, qajz, qalz, evOp, qaoz, qapz, qarz, qatz, qavz,
 ↓reduceIte, Option.map_some, qazz, qbaz, qbhz, qbtz, reduceCtorEq]
    exact fin _ _ 0 0 42 hk (by simp [nextV, nextOf, hne]) rfl rfl rfl
  have hlen : 0 < l.length := List.length_pos_iff.2 hne
  have e1 : ¬ ((l.length : Int) = 0) := by omega
  obtain ⟨c, hc⟩ : ∃ c, c = l.getD 0 0 := ⟨_, rfl⟩
  have hi0 : iaddrPV 1 x (.int .i64 0) = some (.cp [.b8 c]) := by rw [hc]; exact iaddr_by hx (by omega) (by simpa using hlen)
  by_cases h128 : c < 128
  · have h128' : c.toNat < 128 := by rw [UInt8.lt_iff_toNat_lt] at h128; simpa using h128
    simp (maxSteps := 1000000) (disch := omega) only [h0, len_by hx, e1, hi0, qciz, h128, cI32, qaaz, qabz, qacz, qadz, qaez, qaiz, qajz, qalz, evOp, qaoz, qapz, qarz, qatz, qavz,
 ↓reduceIte, Nat.reduceEqDiff, Option.map_some, qazz, qbaz, qbez, qbhz, qbtz, qbxz, qciz, decide_true, decide_false,
 Bool.false_eq_true, reduceCtorEq]
    exact fin _ _ (c.toNat : Int) 1 0 hk (nextV_some (p := c.toNat) (n := 1) (by unfold nextOf; rw [if_neg hne, ← hc, if_pos h128'])) rfl rfl rfl
  have h128' : ¬ c.toNat < 128 := by rw [UInt8.lt_iff_toNat_lt] at h128; simpa using h128
  obtain ⟨p, n, hpn⟩ : ∃ p n, lead c.toNat = (p, n) := ⟨_, _, rfl⟩
  have hnx : nextOf l = if n = 0 ∨ l.length < n ∨ ¬ contB l (n - 1) ∨ ¬ pointN (accP l p (n - 1)) ∨ accP l p (n - 1) < lowN n then none else some (accP l p (n - 1), n) := by
    unfold nextOf
    rw [if_neg hne, ← hc, if_neg h128', hpn]
  refine W_cut (fun E S => Kept st S ∧ E 0 = x ∧ E 5 = .int .i32 0) ?_ ?_
  · simp (maxSteps := 1000000) (disch := omega) only [h0, qabz, qajz, qalz, evOp, qapz, qarz, qatz, qavz,
 ↓reduceIte, true_and, and_true, reduceCtorEq]
    exact hk
  clear hk h0
  rintro e S ⟨hk, h0, h5⟩
  refine W_cut (fun E S => Kept st S ∧ E 0 = x ∧ E 5 = .int .i32 0 ∧ E 6 = .int .i64 0) ?_ ?_
  · simp (maxSteps := 1000000) (disch := omega) only [h0, h5, qabz, qajz, qalz, evOp, qapz, qarz, qatz, qavz,
 ↓reduceIte, Nat.reduceEqDiff, true_and, and_true, reduceCtorEq]
    exact hk
  clear hk h0 h5
  rintro e S ⟨hk, h0, h5, h6⟩
  refine W_cut (fun E S => Kept st S ∧ E 0 = x ∧ E 5 = .int .i32 0 ∧ E 6 = .int .i64 0) ?_ ?_
  · simp (maxSteps := 1000000) (disch := omega) only [h0, h5, h6, len_by hx, e1, qaaz, qabz, qacz, qaez, qajz, qalz, evOp, qaoz, qapz, qarz, qatz, qavz,
 ↓reduceIte, Nat.reduceEqDiff, Option.map_some, qazz, qbhz, qbtz, decide_false,
 Bool.false_eq_true, true_and, and_true, reduceCtorEq]
    exact hk
  clear hk h0 h5 h6
  rintro e S ⟨hk, h0, h5, h6⟩
  refine W_cut (fun E S => Kept st S ∧ E 0 = x ∧ E 5 = .int .i32 (p : Int) ∧ E 6 = .int .i64 (n : Int)) ?_ ?_
  · by_cases q2 : UInt8.ofNat (c.toNat / 32) = 6
    · have := (is2 c).1 q2
      obtain ⟨rfl, rfl⟩ : p = c.toNat % 32 ∧ n = 2 := by
        unfold lead at hpn; rw [if_pos this] at hpn; cases hpn; exact ⟨rfl, rfl⟩
      simp (maxSteps := 1000000) (disch := omega) only [h0, hi0, qciz, h128, shr5, eq_true q2, and_8, cI32, and31, qaaz, qabz, qacz, qadz, qajz, qalz, evOp, qaoz, qapz, qarz, qatz, qavz,
 ↓reduceIte, Nat.reduceEqDiff, Option.map_some, qazz, qbdz, qbhz, qbvz, qbxz, qciz, decide_true, decide_false,
 Bool.false_eq_true, true_and, reduceCtorEq]
      exact ⟨hk, rfl⟩
    have n2 : ¬ (192 ≤ c.toNat ∧ c.toNat < 224) := fun h => q2 ((is2 c).2 h)
    by_cases q3 : UInt8.ofNat (c.toNat / 16) = 14
    · have := (is3 c).1 q3
      obtain ⟨rfl, rfl⟩ : p = c.toNat % 16 ∧ n = 3 := by
        unfold lead at hpn; rw [if_neg n2, if_pos this] at hpn; cases hpn; exact ⟨rfl, rfl⟩
      simp (maxSteps := 1000000) (disch := omega) only [h0, hi0, qciz, h128, shr5, shr4, q2, eq_true q3, and_8, cI32, and15, qaaz, qabz, qacz, qadz, qajz, qalz, evOp, qaoz, qapz, qarz, qatz, qavz,
 ↓reduceIte, Nat.reduceEqDiff, Option.map_some, qazz, qbdz, qbhz, qbvz, qbxz, qciz, decide_true, decide_false,
 Bool.false_eq_true, true_and, reduceCtorEq]
      exact ⟨hk, rfl⟩
    have n3 : ¬ (224 ≤ c.toNat ∧ c.toNat < 240) := fun h => q3 ((is3 c).2 h)
    by_cases q4 : UInt8.ofNat (c.toNat / 8) = 30
    · have := (is4 c).1 q4
      obtain ⟨rfl, rfl⟩ : p = c.toNat % 8 ∧ n = 4 := by
        unfold lead at hpn; rw [if_neg n2, if_neg n3, if_pos this] at hpn; cases hpn; exact ⟨rfl, rfl⟩
      simp (maxSteps := 1000000) (disch := omega) only [h0, hi0, qciz, h128, shr5, shr4, shr3, q2, q3, eq_true q4, and_8, cI32, and7, qaaz, qabz, qacz, qadz, qajz, qalz, evOp, qaoz, qapz, qarz, qatz, qavz,
 ↓reduceIte, Nat.reduceEqDiff, Option.map_some, qazz, qbdz, qbhz, qbvz, qbxz, qciz, decide_true, decide_false,
 Bool.false_eq_true, true_and, reduceCtorEq]
      exact ⟨hk, rfl⟩
    have n4 : ¬ (240 ≤ c.toNat ∧ c.toNat < 248) := fun h => q4 ((is4 c).2 h)
    obtain ⟨rfl, rfl⟩ : p = 0 ∧ n = 0 := by
      unfold lead at hpn; rw [if_neg n2, if_neg n3, if_neg n4] at hpn; cases hpn; exact ⟨rfl, rfl⟩
    simp (maxSteps := 1000000) (disch := omega) only [h0, h5, h6, hi0, qciz, h128, shr5, shr4, shr3, q2, q3, q4, qaaz, qabz, qacz, qadz, qaez, qajz, qalz, evOp, qaoz, qapz, qarz, qatz, qavz,
 ↓reduceIte, Nat.reduceEqDiff, Option.map_some, qazz, qbdz, qbhz, qbvz, qbxz, qciz, decide_false,
 Bool.false_eq_true, true_and, reduceCtorEq]
    exact ⟨hk, rfl, rfl⟩
  clear hk h0 h5 h6
  rintro e S ⟨hk, h0, h5, h6⟩
  by_cases hn0 : n = 0
  · have e2 : decide ((n : Int) = 0) = true := by simp [hn0]
    simp (maxSteps := 1000000) (disch := omega) only [h6, e2, qaaz, qabz, qacz, qahz, qajz, qakz, qalz, qamz, qanz, evOp, qaoz, qapz, qarz, qatz, qavz,
 ↓reduceIte, Nat.reduceEqDiff, Option.map_some, qazz, qbcz, qbhz, qbtz, beq_false, Bool.false_eq_true, Bool.not_true]
    exact wrong _ _ hk (by rw [hnx, if_pos (.inl hn0)]) hne
  have e2 : ¬ (n : Int) = 0 := by omega
  by_cases hln : l.length < n
  · have e3 : (l.length : Int) < (n : Int) := by omega
    simp (maxSteps := 1000000) (disch := omega) only [h0, h6, len_by hx, e2, e3, qaaz, qabz, qacz, qahz, qajz, qakz, qalz, qamz, qanz, evOp, qaoz, qapz, qarz, qatz, qavz,
 ↓reduceIte, Nat.reduceEqDiff, Option.map_some, qazz, qbcz, qbhz, qbpz, qbtz, beq_false, decide_true, decide_false,
 Bool.false_eq_true, reduceCtorEq, Bool.not_false]
    exact wrong _ _ hk (by rw [hnx, if_pos (.inr (.inl hln))]) hne
  have e3 : ¬ (l.length : Int) < (n : Int) := by omega
  have hn24 : (n = 2 ∧ p < 32) ∨ (n = 3 ∧ p < 16) ∨ (n = 4 ∧ p < 8) := by
    rcases lead_cases c.toNat with h | h | h | h
    · rw [hpn] at h; cases h; exact absurd rfl hn0
    · rw [hpn] at h; cases h; exact .inl ⟨rfl, by omega⟩
    · rw [hpn] at h; cases h; exact .inr (.inl ⟨rfl, by omega⟩)
    · rw [hpn] at h; cases h; exact .inr (.inr ⟨rfl, by omega⟩)
  have hacc : ∀ k, k ≤ 3 → accP l p k < 33554432 := by
    intro k hk
    have := accP_lt (l := l) (p := p) k
    have h64 : (p + 1) * 64 ^ k ≤ 32 * 64 ^ 3 := Nat.mul_le_mul (by omega) (Nat.pow_le_pow_right (by omega) hk)
    have : 32 * 64 ^ 3 = 8388608 := by decide
    omega
  refine W_cut (fun E S => Kept st S ∧ E 0 = x ∧ E 5 = .int .i32 (p : Int) ∧ E 6 = .int .i64 (n : Int)) ?_ ?_
  · simp (maxSteps := 1000000) (disch := omega) only [h0, h5, h6, len_by hx, e2, e3, qaaz, qabz, qacz, qaez, qajz, qakz, qalz, qamz, qanz, evOp, qaoz, qapz, qarz, qatz, qavz,
 ↓reduceIte, Nat.reduceEqDiff, Option.map_some, qazz, qbhz, qbpz, qbtz, beq_false, decide_false,
 Bool.false_eq_true, true_and, and_true, reduceCtorEq, Bool.not_false]
    exact hk
  clear hk h0 h5 h6
  rintro e S ⟨hk, h0, h5, h6⟩
  have hml : ((l.take n).drop 1).length = n - 1 := by simp; omega
  have hslc : slcPV 1 x (some (.int .i64 1)) (some (.int .i64 (n : Int))) none = some (x.midB 1 n) := by
    have := slc_lohi (k := .i64) (k' := .i64) (c := 1) (d := (n : Int)) hx (by omega) (by omega) (by simpa using (by omega : n ≤ l.length))
    simpa using this
  have hmb : (x.midB 1 n).by = some ((l.take n).drop 1) := midB_by hx
  have hlm := len_by hmb
  rw [hml] at hlm
  obtain ⟨I, hI⟩ : ∃ I : Nat → Env → St → Prop, I = fun m E S => ∃ k, m = n - 1 - k ∧ k ≤ n - 1 ∧ contB l k ∧ Kept st S ∧ E 0 = x ∧ E 5 = .int .i32 ((accP l p k : Nat) : Int) ∧ E 6 = .int .i64 (n : Int) ∧ E 52 = x.midB 1 n ∧ E 53 = .int .i64 ((n - 1 : Nat) : Int) ∧ E 54 = .int .i64 (k : Int) := ⟨_, rfl⟩
  -- one round of the loop
  have start : I (n - 1) (upd (upd (upd (upd (upd e 50 x) 51 (.int .i64 (n : Int))) 52 (x.midB 1 n)) 53 (.int .i64 ((n - 1 : Nat) : Int))) 54 (.int .i64 0)) S := by
    rw [hI]
    exact ⟨0, rfl, by omega, fun j h => by omega, hk, h0, h5, h6, rfl, rfl, rfl⟩
  have nxt : ∀ (k : Nat) (E : Env) (S : St), contB l (k + 1) → k + 1 ≤ n - 1 → Kept st S → E 0 = x → E 5 = .int .i32 ((accP l p (k + 1) : Nat) : Int) → E 6 = .int .i64 (n : Int) → E 52 = x.midB 1 n → E 53 = .int .i64 ((n - 1 : Nat) : Int) → E 54 = .int .i64 ((k + 1 : Nat) : Int) → I (n - 1 - (k + 1)) E S := by
    intro k E S q1 q2 q3 q4 q5 q6 q7 q8 q9
    rw [hI]; exact ⟨k + 1, rfl, q2, q1, q3, q4, q5, q6, q7, q8, q9⟩
  by_cases hcb : contB l (n - 1)
  · refine W_cut (fun E S => Kept st S ∧ E 0 = x ∧ E 5 = .int .i32 ((accP l p (n - 1) : Nat) : Int) ∧ E 6 = .int .i64 (n : Int)) ?_ ?_
    · simp (maxSteps := 1000000) (disch := omega) only [h0, h6, hslc, hlm, qaaz, qabz, qadz, qajz, qalz, evOp, qaoz, qapz, qarz, qatz, qavz,
 ↓reduceIte, Nat.reduceEqDiff, Option.map_some, Option.map_none, qazz]
      refine W_loop I ?_ start
      clear hk h0 h5 h6 start
      intro m E S hh
      rw [hI] at hh
      obtain ⟨k, rfl, hk1, hck, hk, h0, h5, h6, h52, h53, h54⟩ := hh
      by_cases hlt : k < n - 1
      · obtain ⟨d, hd⟩ : ∃ d, d = l.getD (k + 1) 0 := ⟨_, rfl⟩
        have hid : iaddrPV 1 (x.midB 1 n) (.int .i64 (k : Int)) = some (.cp [.b8 d]) := by
          rw [iaddr_by hmb (by omega) (by rw [hml]; simpa using hlt), Int.toNat_natCast, mid_getD (by omega), ← hd]
        have hdc := hcb k hlt
        rw [← hd] at hdc
        have q6 : UInt8.ofNat (d.toNat / 64) = 2 := (isC d).2 hdc
        have ha := hacc k (by omega)
        have hstep : accP l p (k + 1) = 64 * accP l p k + d.toNat % 64 := by rw [hd]; rfl
        simp (maxSteps := 1000000) (disch := omega) only [h5, h52, h53, h54, hlt, hid, qciz, shr6, eq_true q6, shl6 ha, and_8, cI32, and63, or_i32 (q := d.toNat % 64) ha (by omega), add_n, qaaz, qabz, qacz, qadz, qaez, qajz, qalz, evOp, qaoz, qapz, qarz, qatz, qavz,
 ↓reduceIte, Nat.reduceEqDiff, Option.map_some, qazz, qbdz, qbhz, qbpz, qbwz, qciz, decide_true, decide_false,
 Int.ofNat_lt, Bool.false_eq_true, Int.reduceToNat, ne_eq, not_true_eq_false]
        exact loopQ_intro (m := n - 1 - (k + 1)) (by omega) (nxt k _ _ (fun j hj => by
          by_cases hjk : j = k
          · subst hjk; rw [← hd]; exact hdc
          · exact hck j (by omega)) (by omega) hk h0 (by rw [hstep]; rfl) h6 h52 h53 rfl)
      · obtain rfl : k = n - 1 := by omega
        simp (maxSteps := 1000000) (disch := omega) only [h0, h5, h6, h53, h54, hlt, qaaz, qabz, qacz, qagz, qajz, qalz, evOp, qaoz, qarz, qatz, qavz,
 ↓reduceIte, Nat.reduceEqDiff, Option.map_some, qazz, qbbz, qbfz, qbhz, qbjz, qbpz, decide_false,
 Int.ofNat_lt, Bool.false_eq_true, true_and, and_true, reduceCtorEq]
        exact hk
    clear hk h0 h5 h6 start
    rintro e S ⟨hk, h0, h5, h6⟩
    obtain ⟨v, hv⟩ : ∃ v, v = accP l p (n - 1) := ⟨_, rfl⟩
    rw [← hv] at h5 hnx
    have hip := fun S : St => isPoint_spec (st := S) (p := v)
    by_cases hpt : pointN v
    · simp only [decide_eq_true hpt] at hip
      by_cases hlow : v < lowN n
      · have hno : nextOf l = none := by rw [hnx, if_pos (.inr (.inr (.inr (.inr hlow))))]
        rcases hn24 with ⟨rfl, -⟩ | ⟨rfl, -⟩ | ⟨rfl, -⟩
        · have h6' : e 6 = .int .i64 2 := h6
          have f1 : (v : Int) < 128 := by simp [lowN] at hlow; omega
          simp (maxSteps := 1000000) (disch := omega) only [h5, h6', hip, f1, qaaz, qabz, qacz, qahz, qajz, qakz, qalz, qamz, qanz, evOp, qaoz, qapz, qaqz, qarz, qatz, qavz,
 ↓reduceIte, Nat.reduceEqDiff, List.map_cons, List.map_nil, Option.map_some, qazz, qbcz, qbhz, qbpz, qbtz, qcfz, beq_true, beq_false, decide_true, Bool.false_eq_true, Bool.not_true, Bool.not_false]
          exact wrong _ _ hk hno hne
        · have h6' : e 6 = .int .i64 3 := h6
          have f1 : (v : Int) < 2048 := by simp [lowN] at hlow; omega
          simp (maxSteps := 1000000) (disch := omega) only [h5, h6', hip, f1, qaaz, qabz, qacz, qahz, qajz, qakz, qalz, qamz, qanz, evOp, qaoz, qapz, qaqz, qarz, qatz, qavz,
 ↓reduceIte, Nat.reduceEqDiff, List.map_cons, List.map_nil, Option.map_some, qazz, qbcz, qbhz, qbpz, qbtz, qcfz, beq_true, beq_false, decide_true, decide_false,
 Bool.false_eq_true, Bool.not_true, Bool.not_false, Int.reduceEq]
          exact wrong _ _ hk hno hne
        · have h6' : e 6 = .int .i64 4 := h6
          have f1 : (v : Int) < 65536 := by simp [lowN] at hlow; omega
          simp (maxSteps := 1000000) (disch := omega) only [h5, h6', hip, f1, qaaz, qabz, qacz, qahz, qajz, qakz, qalz, qamz, qanz, evOp, qaoz, qapz, qaqz, qarz, qatz, qavz,
 ↓reduceIte, Nat.reduceEqDiff, List.map_cons, List.map_nil, Option.map_some, qazz, qbcz, qbhz, qbpz, qbtz, qcfz, beq_true, beq_false, decide_true, decide_false,
 Bool.false_eq_true, Bool.not_true, Bool.not_false, Int.reduceEq]
          exact wrong _ _ hk hno hne
      · have hyes : nextOf l = some (v, n) := by
          rw [hnx, if_neg]
          simp only [not_or, Classical.not_not]
          exact ⟨hn0, hln, hcb, hpt, hlow⟩
        rcases hn24 with ⟨rfl, -⟩ | ⟨rfl, -⟩ | ⟨rfl, -⟩
        · have h6' : e 6 = .int .i64 2 := h6
          have f1 : ¬ (v : Int) < 128 := by simp [lowN] at hlow; omega
          simp (maxSteps := 1000000) (disch := omega) only [h5, h6', hip, f1, qaaz, qabz, qacz, qaez, qaiz, qajz, qakz, qalz, qamz, qanz, evOp, qaoz, qapz, qaqz, qarz, qatz, qavz,
 ↓reduceIte, Nat.reduceEqDiff, List.map_cons, List.map_nil, Option.map_some, qazz, qbaz, qbhz, qbpz, qbtz, qcfz, beq_true, beq_false, decide_true, decide_false,
 Bool.false_eq_true, Bool.not_true, Bool.not_false, Int.reduceEq]
          exact fin _ _ _ _ _ hk (nextV_some hyes) rfl rfl rfl
        · have h6' : e 6 = .int .i64 3 := h6
          have f1 : ¬ (v : Int) < 2048 := by simp [lowN] at hlow; omega
          simp (maxSteps := 1000000) (disch := omega) only [h5, h6', hip, f1, qaaz, qabz, qacz, qaez, qaiz, qajz, qakz, qalz, qamz, qanz, evOp, qaoz, qapz, qaqz, qarz, qatz, qavz,
 ↓reduceIte, Nat.reduceEqDiff, List.map_cons, List.map_nil, Option.map_some, qazz, qbaz, qbhz, qbpz, qbtz, qcfz, beq_true, beq_false, decide_true, decide_false,
 Bool.false_eq_true, Bool.not_true, Bool.not_false, Int.reduceEq]
          exact fin _ _ _ _ _ hk (nextV_some hyes) rfl rfl rfl
        · have h6' : e 6 = .int .i64 4 := h6
          have f1 : ¬ (v : Int) < 65536 := by simp [lowN] at hlow; omega
          simp (maxSteps := 1000000) (disch := omega) only [h5, h6', hip, f1, qaaz, qabz, qacz, qaez, qaiz, qajz, qakz, qalz, qamz, qanz, evOp, qaoz, qapz, qaqz, qarz, qatz, qavz,
 ↓reduceIte, Nat.reduceEqDiff, List.map_cons, List.map_nil, Option.map_some, qazz, qbaz, qbhz, qbpz, qbtz, qcfz, beq_true, beq_false, decide_true, decide_false,
 Bool.false_eq_true, Bool.not_true, Bool.not_false, Int.reduceEq]
          exact fin _ _ _ _ _ hk (nextV_some hyes) rfl rfl rfl
    · simp only [decide_eq_false hpt] at hip
      simp (maxSteps := 1000000) (disch := omega) only [h5, hip, qaaz, qabz, qacz, qahz, qajz, qakz, qalz, qamz, qanz, evOp, qaoz, qapz, qaqz, qarz, qatz, qavz,
 ↓reduceIte, Nat.reduceEqDiff, List.map_cons, List.map_nil, Option.map_some, qazz, qbcz, qbhz, qcfz, beq_false, Bool.false_eq_true, Bool.not_true, Bool.not_false]
      exact wrong _ _ hk (by rw [hnx, if_pos (.inr (.inr (.inr (.inl hpt))))]) hne
  · have hno : nextOf l = none := by rw [hnx, if_pos (.inr (.inr (.inl hcb)))]
    simp (maxSteps := 1000000) (disch := omega) only [h0, h6, hslc, hlm, qaaz, qabz, qadz, qajz, qalz, evOp, qaoz, qapz, qarz, qatz, qavz,
 ↓reduceIte, Nat.reduceEqDiff, Option.map_some, Option.map_none, qazz]
    refine W_loop I ?_ start
    clear hk h0 h5 h6 start
    intro m E S hh
    rw [hI] at hh
    obtain ⟨k, rfl, hk1, hck, hk, h0, h5, h6, h52, h53, h54⟩ := hh
    by_cases hlt : k < n - 1
    · obtain ⟨d, hd⟩ : ∃ d, d = l.getD (k + 1) 0 := ⟨_, rfl⟩
      have hid : iaddrPV 1 (x.midB 1 n) (.int .i64 (k : Int)) = some (.cp [.b8 d]) := by
        rw [iaddr_by hmb (by omega) (by rw [hml]; simpa using hlt), Int.toNat_natCast, mid_getD (by omega), ← hd]
      by_cases q6 : UInt8.ofNat (d.toNat / 64) = 2
      · have hdc := (isC d).1 q6
        have ha := hacc k (by omega)
        have hstep : accP l p (k + 1) = 64 * accP l p k + d.toNat % 64 := by rw [hd]; rfl
        simp (maxSteps := 1000000) (disch := omega) only [h5, h52, h53, h54, hlt, hid, qciz, shr6, eq_true q6, shl6 ha, and_8, cI32, and63, or_i32 (q := d.toNat % 64) ha (by omega), add_n, qaaz, qabz, qacz, qadz, qaez, qajz, qalz, evOp, qaoz, qapz, qarz, qatz, qavz,
 ↓reduceIte, Nat.reduceEqDiff, Option.map_some, qazz, qbdz, qbhz, qbpz, qbwz, qciz, decide_true, decide_false,
 Int.ofNat_lt, Bool.false_eq_true, Int.reduceToNat, ne_eq, not_true_eq_false]
        exact loopQ_intro (m := n - 1 - (k + 1)) (by omega) (nxt k _ _ (fun j hj => by
          by_cases hjk : j = k
          · subst hjk; rw [← hd]; exact hdc
          · exact hck j (by omega)) (by omega) hk h0 (by rw [hstep]; rfl) h6 h52 h53 rfl)
      · simp (maxSteps := 1000000) (disch := omega) only [h52, h53, h54, hlt, hid, qciz, shr6, q6, qaaz, qabz, qacz, qadz, qaez, qahz, qajz, qalz, evOp, qaoz, qapz, qarz, qatz, qavz,
 ↓reduceIte, Nat.reduceEqDiff, Option.map_some, qazz, qbcz, qbgz, qbhz, qbkz, qbpz, qbwz, qciz, decide_true, Int.ofNat_lt, ne_eq, not_false_eq_true]
        exact wrong _ _ hk hno hne
    · obtain rfl : k = n - 1 := by omega
      exact absurd hck hcb
end Go.Ab
/-
  A point's bytes, by the document; the point at a text's front is the one whose bytes stand there.
-/
namespace Go.Ab
variable {st s : St} {e : Env}

theorem rPoint_spec {p : Nat} : call prog (.fn 85 []) [.int .i32 (p : Int)] st = some (.bool (decide (pointN p)), st) := by
  refine call_of_W prog_85 ?_
  unfold F_posthornref02_Point; dsimp only
  have e0 : (0 : Int) ≤ (p : Int) := by omega
  by_cases h2 : p < 55296
  · have e2 : (p : Int) < 55296 := by omega
    simp (maxSteps := 1000000) (disch := omega) only [e0, e2, qaaz, qabz, qaiz, qajz, qakz, qalz, qamz, qanz, evOp, qaoz, qapz, qarz, qatz, qavz,
 ↓reduceIte, Nat.reduceEqDiff, List.append_nil, qawz, Option.map_some, qazz, qblz, qbpz, qbsz, beq_true, beq_false, decide_true, Bool.false_eq_true, reduceCtorEq, Bool.not_true]
    rw [show decide (pointN p) = true by simp [pointN, h2]]
    exact end1 rfl Kp_bool
  have e2 : ¬ (p : Int) < 55296 := by omega
  by_cases h3 : 57343 < p
  · have e3 : (57343 : Int) < (p : Int) := by omega
    by_cases h1 : p ≤ 1114111
    · have e1 : (p : Int) ≤ 1114111 := by omega
      simp (maxSteps := 1000000) (disch := omega) only [e0, e1, e2, e3, qaaz, qabz, qaiz, qajz, qakz, qalz, qamz, qanz, evOp, qaoz, qapz, qarz, qatz, qavz,
 ↓reduceIte, Nat.reduceEqDiff, List.append_nil, qawz, Option.map_some, qazz, qblz, qbpz, qbqz, qbrz, qbsz, beq_true, beq_false, decide_true, decide_false,
 Bool.false_eq_true, reduceCtorEq, Bool.not_false]
      rw [show decide (pointN p) = true by simp [pointN, h3, h1]]
      exact end1 rfl Kp_bool
    · have e1 : ¬ (p : Int) ≤ 1114111 := by omega
      simp (maxSteps := 1000000) (disch := omega) only [e0, e1, e2, e3, qaaz, qabz, qaiz, qajz, qakz, qalz, qamz, qanz, evOp, qaoz, qapz, qarz, qatz, qavz,
 ↓reduceIte, Nat.reduceEqDiff, List.append_nil, qawz, Option.map_some, qazz, qblz, qbpz, qbqz, qbrz, qbsz, beq_true, beq_false, decide_true, decide_false,
 Bool.false_eq_true, reduceCtorEq, Bool.not_false]
      rw [show decide (pointN p) = false from decide_eq_false (by unfold pointN; omega)]
      exact end1 rfl Kp_bool
  · have e3 : ¬ (57343 : Int) < (p : Int) := by omega
    simp (maxSteps := 1000000) (disch := omega) only [e0, e2, e3, qaaz, qabz, qaiz, qajz, qakz, qalz, qamz, qanz, evOp, qaoz, qapz, qarz, qatz, qavz,
 ↓reduceIte, Nat.reduceEqDiff, List.append_nil, qawz, Option.map_some, qazz, qblz, qbpz, qbrz, qbsz, beq_true, beq_false, decide_true, decide_false,
 Bool.false_eq_true, reduceCtorEq, Bool.not_false]
    rw [show decide (pointN p) = false from decide_eq_false (by unfold pointN; omega)]
    exact end1 rfl Kp_bool

def putOf (p : Nat) : List UInt8 :=
  if p < 128 then [UInt8.ofNat p] else if p < 2048 then [UInt8.ofNat (192 + p / 64), UInt8.ofNat (128 + p % 64)]
  else if p < 65536 then [UInt8.ofNat (224 + p / 4096), UInt8.ofNat (128 + p / 64 % 64), UInt8.ofNat (128 + p % 64)]
  else [UInt8.ofNat (240 + p / 262144), UInt8.ofNat (128 + p / 4096 % 64), UInt8.ofNat (128 + p / 64 % 64), UInt8.ofNat (128 + p % 64)]

theorem quo32 {ek : EK} {p : Nat} {c : Int} (h1 : 0 < c) (h : p < 2147483648) : binPV .quo ek (.int .i32 (p : Int)) (.int .i32 c) = some (.int .i32 ((p / c.toNat : Nat) : Int)) := by
  obtain ⟨d, rfl⟩ : ∃ d : Nat, c = (d : Int) := ⟨c.toNat, by omega⟩
  simp only [binPV, binI, if_true]
  rw [if_neg (by omega), Int.toNat_natCast]
  have : (p : Int).tdiv (d : Int) = ((p / d : Nat) : Int) := (Int.ofNat_tdiv p d).symm
  have h3 := Nat.div_le_self p d
  have h4 : (0 : Int) ≤ ((p / d : Nat) : Int) := Int.natCast_nonneg _
  rw [this, wrap32 (by omega) (by omega)]
theorem rem32 {ek : EK} {p : Nat} {c : Int} (h1 : 0 < c) : binPV .rem ek (.int .i32 (p : Int)) (.int .i32 c) = some (.int .i32 ((p % c.toNat : Nat) : Int)) := by
  obtain ⟨d, rfl⟩ : ∃ d : Nat, c = (d : Int) := ⟨c.toNat, by omega⟩
  simp only [binPV, binI, if_true]
  rw [if_neg (by omega), Int.toNat_natCast]
  have : (p : Int).tmod (d : Int) = ((p % d : Nat) : Int) := (Int.ofNat_tmod p d).symm
  rw [this]
theorem addc32 {ek : EK} {a : Nat} {c : Int} (h1 : 0 ≤ c) (h2 : c.toNat + a < 2147483648) : binPV .add ek (.int .i32 c) (.int .i32 (a : Int)) = some (.int .i32 ((c.toNat + a : Nat) : Int)) := by
  simp only [binPV, binI, reduceIte, Option.some.injEq]
  rw [wrap32 (by omega) (by omega)]
  congr 1; omega
theorem cI8 {n : Nat} (h : n < 256) : cIntPV .u8 (.int .i32 (n : Int)) = some (.b8 (UInt8.ofNat n)) := by
  simp only [cIntPV]
  have : IntKind.u8.wrap (n : Int) = (n : Int) := by
    unfold IntKind.wrap
    simp only [IntKind.signed, IntKind.bits]
    simp
    omega
  rw [this, Int.toNat_natCast]
theorem leave_mine2 {v : PV} {l : List UInt8} {n : Int} (hk : Kept st s) (hm : Mine st s v l) (hne : l ≠ []) : leave st s (.tup [v, .int .i64 n]) = (.tup [.bys (.own st.toks.length) l, .int .i64 n], st.tok1) := by
  have e1 := hk.bx; have e2 := hk.lp; have e3 := hk.tk
  rcases hm.1 with ⟨rfl, rfl⟩ | ⟨i, rfl, hi⟩
  · exact absurd rfl hne
  · have h2 := hm.2 i rfl
    simp [leave, PV.inB, PV.inB.inBAll, hk.lw, keepRes, keepVals, keepVal, keepLeaf, keepTok, hi, show ¬ i < st.toks.length by omega, e1, e2, e3, St.tok1]
theorem lit8_3 {a b c : UInt8} : lit8Fill (List.replicate 3 0) [(0, .b8 a), (1, .b8 b), (2, .b8 c)] = some [a, b, c] := rfl
theorem lit8_4 {a b c d : UInt8} : lit8Fill (List.replicate 4 0) [(0, .b8 a), (1, .b8 b), (2, .b8 c), (3, .b8 d)] = some [a, b, c, d] := rfl

def putV (st : St) (p : Nat) : PV × St := if pointN p then (.tup [.bys (.own st.toks.length) (putOf p), .int .i64 0], st.tok1) else (.tup [.nils, .int .i64 20], st)

theorem Put_spec {p : Nat} (hp : p < 2147483648) : call prog (.fn 81 []) [.int .i32 (p : Int)] st = some (putV st p) := by
  refine call_of_W prog_81 ?_
  unfold F_posthornref02_Put; dsimp only
  have hk : Kept st { boxes := st.boxes, toks := st.toks, loops := st.loops, low := st.boxes.length } := Kept.start
  have hip := fun S : St => rPoint_spec (st := S) (p := p)
  by_cases hpt : pointN p
  · simp only [decide_eq_true hpt] at hip
    have hpt2 : p ≤ 1114111 := by unfold pointN at hpt; omega
    have hv : putV st p = (.tup [.bys (.own st.toks.length) (putOf p), .int .i64 0], st.tok1) := by simp [putV, hpt]
    have fin : ∀ (v : PV) (S : St), Kept st S → Mine st S v (putOf p) → ∀ E : Env, E 2 = v → E 3 = .int .i64 0 → ∃ rv, resOf E S [.tmp 2, .tmp 3] = some rv ∧ leave st S rv = putV st p := by
      intro v S k1 m1 E k2 k3
      refine ⟨.tup [v, .int .i64 0], ?_, ?_⟩
      · have hnt : notTup v = true := by rcases m1.1 with ⟨rfl, _⟩ | ⟨i, rfl, _⟩ <;> rfl
        simp [resOf, rvAll, rv1, k2, k3, hnt, packRes]
        rfl
      · rw [hv]
        refine leave_mine2 k1 m1 ?_
        unfold putOf
        split
        · simp
        · split
          · simp
          · split <;> simp
    have app : ∀ m : List UInt8, m.length ≤ 4 → ∃ v S, app8 (St.tok1 { boxes := st.boxes, toks := st.toks, loops := st.loops, low := st.boxes.length }) .nils (.bys (.own st.toks.length) m) = some (v, S) ∧ Kept st S ∧ Mine st S v m := by
      intro m hm
      obtain ⟨v, S, a1, k1, m1⟩ := hk.tok1.app8 (v := .nils) (l := []) (y := .bys (.own st.toks.length) m) (m := m) Mine.nil rfl (by simp [room]; omega)
      exact ⟨v, S, a1, k1, by simpa using m1⟩
    by_cases h1 : p < 128
    · have e1 : (p : Int) < 128 := by omega
      obtain ⟨v, S, a1, k1, m1⟩ := app [UInt8.ofNat p] (by simp)
      simp (maxSteps := 1000000) (disch := omega) only [hip, e1, cI8, lit8_1, freshT_eq, a1, qaaz, qabz, qacz, qaez, qaiz, qajz, qalz, evOp, qaoz, qapz, qaqz, qarz, qatz, qavz,
 ↓reduceIte, Nat.reduceEqDiff, List.append_nil, List.map_cons, List.map_nil, qawz, Option.map_some, qazz, qbaz, qbhz, qblz, qbpz, qcfz, decide_true, Bool.false_eq_true, reduceCtorEq, Bool.not_true]
      exact fin v S k1 (by simpa [putOf, h1] using m1) _ rfl rfl
    have e1 : ¬ (p : Int) < 128 := by omega
    by_cases h2 : p < 2048
    · have e2 : (p : Int) < 2048 := by omega
      obtain ⟨v, S, a1, k1, m1⟩ := app [UInt8.ofNat (192 + p / 64), UInt8.ofNat (128 + p % 64)] (by simp)
      simp (maxSteps := 1000000) (disch := omega) only [hip, e1, e2, quo32, rem32, addc32, cI8, lit8_2, freshT_eq, a1, qaaz, qabz, qacz, qaez, qaiz, qajz, qalz, evOp, qaoz, qapz, qaqz, qarz, qatz, qavz,
 ↓reduceIte, Nat.reduceEqDiff, List.append_nil, List.map_cons, List.map_nil, qawz, Option.map_some, qazz, qbaz, qbhz, qblz, qbpz, qcfz, decide_true, decide_false,
 Bool.false_eq_true, Int.reduceToNat, reduceCtorEq, Bool.not_true]
      exact fin v S k1 (by simpa [putOf, h1, h2] using m1) _ rfl rfl
    have e2 : ¬ (p : Int) < 2048 := by omega
    by_cases h3 : p < 65536
    · have e3 : (p : Int) < 65536 := by omega
      obtain ⟨v, S, a1, k1, m1⟩ := app [UInt8.ofNat (224 + p / 4096), UInt8.ofNat (128 + p / 64 % 64), UInt8.ofNat (128 + p % 64)] (by simp)
      simp (maxSteps := 1000000) (disch := omega) only [hip, e1, e2, e3, quo32, rem32, addc32, cI8, lit8_3, freshT_eq, a1, qaaz, qabz, qacz, qaez, qaiz, qajz, qalz, evOp, qaoz, qapz, qaqz, qarz, qatz, qavz,
 ↓reduceIte, Nat.reduceEqDiff, List.append_nil, List.map_cons, List.map_nil, qawz, Option.map_some, qazz, qbaz, qbhz, qblz, qbpz, qcfz, decide_true, decide_false,
 Bool.false_eq_true, Int.reduceToNat, reduceCtorEq, Bool.not_true]
      exact fin v S k1 (by simpa [putOf, h1, h2, h3] using m1) _ rfl rfl
    · have e3 : ¬ (p : Int) < 65536 := by omega
      obtain ⟨v, S, a1, k1, m1⟩ := app [UInt8.ofNat (240 + p / 262144), UInt8.ofNat (128 + p / 4096 % 64), UInt8.ofNat (128 + p / 64 % 64), UInt8.ofNat (128 + p % 64)] (by simp)
      simp (maxSteps := 1000000) (disch := omega) only [hip, e1, e2, e3, quo32, rem32, addc32, cI8, lit8_4, freshT_eq, a1, qaaz, qabz, qacz, qaez, qaiz, qajz, qalz, evOp, qaoz, qapz, qaqz, qarz, qatz, qavz,
 ↓reduceIte, Nat.reduceEqDiff, List.append_nil, List.map_cons, List.map_nil, qawz, Option.map_some, qazz, qbhz, qblz, qbpz, qcfz, decide_false,
 Bool.false_eq_true, Int.reduceToNat, reduceCtorEq, Bool.not_true]
      exact fin v S k1 (by simpa [putOf, h1, h2, h3] using m1) _ rfl rfl
  · simp only [decide_eq_false hpt] at hip
    have hv : putV st p = (.tup [.nils, .int .i64 20], st) := by simp [putV, hpt]
    have fin : ∀ E : Env, E 2 = .nils → E 3 = .int .i64 20 → ∃ rv, resOf E { boxes := st.boxes, toks := st.toks, loops := st.loops, low := st.boxes.length } [.tmp 2, .tmp 3] = some rv ∧ leave st { boxes := st.boxes, toks := st.toks, loops := st.loops, low := st.boxes.length } rv = putV st p := by
      intro E k2 k3
      exact ⟨.tup [.nils, .int .i64 20], by simp [resOf, rvAll, rv1, k2, k3, notTup, packRes], by rw [hv]; exact hk.leave rfl (fun _ _ => rfl)⟩
    simp (maxSteps := 1000000) (disch := omega) only [hip, qaaz, qabz, qacz, qaiz, qajz, qalz, evOp, qaoz, qapz, qaqz, qarz, qatz, qavz,
 ↓reduceIte, List.append_nil, List.map_cons, List.map_nil, qawz, Option.map_some, qazz, qbaz, qbhz, qblz, qcfz, reduceCtorEq, Bool.not_false]
    exact fin _ rfl rfl
end Go.Ab
/-
  The point at the front is the one whose bytes stand there.
-/
namespace Go.Ab
variable {st s : St} {e : Env}

def mdN (n : Nat) : Nat := if n = 2 then 32 else if n = 3 then 16 else 8
def qN (l : List UInt8) (n : Nat) : Nat := accP l ((l.getD 0 0).toNat % mdN n) (n - 1)
def succN (l : List UInt8) (n : Nat) : Prop := pointN (qN l n) ∧ putOf (qN l n) = l.take n

theorem u8_of {a : UInt8} {k : Nat} (h : k = a.toNat) : UInt8.ofNat k = a := by rw [h]; simp
theorem of_u8 {a : UInt8} {k : Nat} (h : UInt8.ofNat k = a) (hk : k < 256) : k = a.toNat := by
  rw [← h]; simp; omega

theorem lead2 {c : Nat} (h : 192 ≤ c ∧ c < 224) : lead c = (c % 32, 2) := by unfold lead; rw [if_pos h]
theorem lead3 {c : Nat} (h : 224 ≤ c ∧ c < 240) : lead c = (c % 16, 3) := by unfold lead; rw [if_neg (by omega), if_pos h]
theorem lead4 {c : Nat} (h : 240 ≤ c ∧ c < 248) : lead c = (c % 8, 4) := by unfold lead; rw [if_neg (by omega), if_neg (by omega), if_pos h]

theorem next_of {l : List UInt8} {p n : Nat} (hne : l ≠ []) (hc : ¬ (l.getD 0 0).toNat < 128) (hl : lead (l.getD 0 0).toNat = (p, n)) (hn : n ≠ 0) (hlen : n ≤ l.length) (hcb : contB l (n - 1)) (hp : pointN (accP l p (n - 1))) (hlow : lowN n ≤ accP l p (n - 1)) :
    nextOf l = some (accP l p (n - 1), n) := by
  unfold nextOf
  rw [if_neg hne, if_neg hc, hl, if_neg]
  simp only [not_or, Classical.not_not]
  exact ⟨hn, by omega, hcb, hp, by omega⟩

theorem succ_next {l : List UInt8} {n : Nat} (hn : n = 2 ∨ n = 3 ∨ n = 4) (hlen : n ≤ l.length) (hc : ¬ (l.getD 0 0).toNat < 128) (h : succN l n) : nextOf l = some (qN l n, n) := by
  have hne : l ≠ [] := by rintro rfl; simp at hlen; omega
  obtain ⟨h1, h2⟩ := h
  rcases hn with rfl | rfl | rfl
  · match l, hlen with
    | a :: b :: r, _ =>
      simp only [qN, mdN, accP, if_true, List.getD_cons_zero, List.getD_cons_succ, Nat.reduceSub, List.take_succ_cons, List.take_zero] at h1 h2 hc ⊢
      have ha := a.toNat_lt; have hb := b.toNat_lt
      obtain ⟨q, hq⟩ : ∃ q, q = 64 * (a.toNat % 32) + b.toNat % 64 := ⟨_, rfl⟩
      rw [← hq] at h1 h2 ⊢
      unfold putOf at h2
      split at h2
      · simp at h2
      · split at h2
        · simp only [List.cons.injEq, and_true] at h2
          have e1 := of_u8 h2.1 (by omega)
          have e2 := of_u8 h2.2 (by omega)
          have := next_of (l := a :: b :: r) (p := a.toNat % 32) (n := 2) hne (by simpa using hc) (lead2 (by simp only [List.getD_cons_zero]; omega)) (by omega) (by simp) (by
            intro j hj
            match j, hj with
            | 0, _ => simp only [List.getD_cons_succ, List.getD_cons_zero]; omega) (by simpa [accP, ← hq] using h1) (by simp [accP, lowN, ← hq]; omega)
          simpa [accP, ← hq] using this
        · split at h2 <;> simp at h2
  · match l, hlen with
    | a :: b :: c :: r, _ =>
      simp only [qN, mdN, accP, if_true, List.getD_cons_zero, List.getD_cons_succ, Nat.reduceSub, Nat.reduceEqDiff, if_false, List.take_succ_cons, List.take_zero] at h1 h2 hc ⊢
      have ha := a.toNat_lt; have hb := b.toNat_lt; have hcc := c.toNat_lt
      obtain ⟨q, hq⟩ : ∃ q, q = 64 * (64 * (a.toNat % 16) + b.toNat % 64) + c.toNat % 64 := ⟨_, rfl⟩
      rw [← hq] at h1 h2 ⊢
      unfold putOf at h2
      split at h2
      · simp at h2
      · split at h2
        · simp at h2
        · split at h2
          · simp only [List.cons.injEq, and_true] at h2
            have e1 := of_u8 h2.1 (by omega)
            have e2 := of_u8 h2.2.1 (by omega)
            have e3 := of_u8 h2.2.2 (by omega)
            have := next_of (l := a :: b :: c :: r) (p := a.toNat % 16) (n := 3) hne (by simpa using hc) (lead3 (by simp only [List.getD_cons_zero]; omega)) (by omega) (by simp) (by
              intro j hj
              match j, hj with
              | 0, _ => simp only [List.getD_cons_succ, List.getD_cons_zero]; omega
              | 1, _ => simp only [List.getD_cons_succ, List.getD_cons_zero]; omega) (by simpa [accP, ← hq] using h1) (by simp [accP, lowN, ← hq]; omega)
            simpa [accP, ← hq] using this
          · simp at h2
  · match l, hlen with
    | a :: b :: c :: d :: r, _ =>
      simp only [qN, mdN, accP, List.getD_cons_zero, List.getD_cons_succ, Nat.reduceSub, Nat.reduceEqDiff, if_false, List.take_succ_cons, List.take_zero] at h1 h2 hc ⊢
      have ha := a.toNat_lt; have hb := b.toNat_lt; have hcc := c.toNat_lt; have hdd := d.toNat_lt
      obtain ⟨q, hq⟩ : ∃ q, q = 64 * (64 * (64 * (a.toNat % 8) + b.toNat % 64) + c.toNat % 64) + d.toNat % 64 := ⟨_, rfl⟩
      rw [← hq] at h1 h2 ⊢
      have hq2 : q ≤ 1114111 := by unfold pointN at h1; omega
      unfold putOf at h2
      split at h2
      · simp at h2
      · split at h2
        · simp at h2
        · split at h2
          · simp at h2
          · simp only [List.cons.injEq, and_true] at h2
            have e1 := of_u8 h2.1 (by omega)
            have e2 := of_u8 h2.2.1 (by omega)
            have e3 := of_u8 h2.2.2.1 (by omega)
            have e4 := of_u8 h2.2.2.2 (by omega)
            have := next_of (l := a :: b :: c :: d :: r) (p := a.toNat % 8) (n := 4) hne (by simpa using hc) (lead4 (by simp only [List.getD_cons_zero]; omega)) (by omega) (by simp) (by
              intro j hj
              match j, hj with
              | 0, _ => simp only [List.getD_cons_succ, List.getD_cons_zero]; omega
              | 1, _ => simp only [List.getD_cons_succ, List.getD_cons_zero]; omega
              | 2, _ => simp only [List.getD_cons_succ, List.getD_cons_zero]; omega) (by simpa [accP, ← hq] using h1) (by simp [accP, lowN, ← hq]; omega)
            simpa [accP, ← hq] using this

theorem next_succ {l : List UInt8} {v n : Nat} (hc : ¬ (l.getD 0 0).toNat < 128) (h : nextOf l = some (v, n)) : (n = 2 ∨ n = 3 ∨ n = 4) ∧ n ≤ l.length ∧ succN l n := by
  unfold nextOf at h
  split at h
  · cases h
  rename_i hne
  simp only at h
  split at h
  · cases h
  rename_i hcond
  simp only [not_or, Classical.not_not] at hcond
  obtain ⟨c1, c2, c3, c4, c5⟩ := hcond
  simp only [Option.some.injEq, Prod.mk.injEq] at h
  obtain ⟨hv, hn⟩ := h
  rw [hn] at c1 c2 c3 c4 c5 hv
  have hl : lead (l.getD 0 0).toNat = ((lead (l.getD 0 0).toNat).1, n) := by rw [← hn]
  unfold lead at hl
  split at hl
  · rename_i hr
    simp only [Prod.mk.injEq] at hl
    obtain ⟨-, rfl⟩ := hl
    rw [lead2 hr] at c4 c5
    match l, c2 with
    | a :: b :: r, _ =>
      refine ⟨.inl rfl, by simp, ?_⟩
      have hb := c3 0 (by omega)
      simp only [succN, qN, mdN, accP, lowN, if_true, List.getD_cons_zero, List.getD_cons_succ, Nat.reduceSub, List.take_succ_cons, List.take_zero] at hr hb c4 c5 ⊢
      obtain ⟨q, hq⟩ : ∃ q, q = 64 * (a.toNat % 32) + b.toNat % 64 := ⟨_, rfl⟩
      rw [← hq] at c4 c5 ⊢
      refine ⟨c4, ?_⟩
      unfold putOf
      rw [if_neg (by omega), if_pos (by omega), u8_of (a := a) (by omega), u8_of (a := b) (by omega)]
    | [], h => simp at h
    | [a], h => simp at h
  · split at hl
    · rename_i hr
      simp only [Prod.mk.injEq] at hl
      obtain ⟨-, rfl⟩ := hl
      rw [lead3 hr] at c4 c5
      match l, c2 with
      | a :: b :: c :: r, _ =>
        refine ⟨.inr (.inl rfl), by simp, ?_⟩
        have hb := c3 0 (by omega)
        have hb2 := c3 1 (by omega)
        simp only [succN, qN, mdN, accP, lowN, if_true, List.getD_cons_zero, List.getD_cons_succ, Nat.reduceSub, Nat.reduceEqDiff, if_false, List.take_succ_cons, List.take_zero] at hr hb hb2 c4 c5 ⊢
        obtain ⟨q, hq⟩ : ∃ q, q = 64 * (64 * (a.toNat % 16) + b.toNat % 64) + c.toNat % 64 := ⟨_, rfl⟩
        rw [← hq] at c4 c5 ⊢
        refine ⟨c4, ?_⟩
        unfold putOf
        rw [if_neg (by omega), if_neg (by omega), if_pos (by omega), u8_of (a := a) (by omega), u8_of (a := b) (by omega), u8_of (a := c) (by omega)]
      | [], h => simp at h
      | [a], h => simp at h
      | [a, b], h => simp at h
    · split at hl
      · rename_i hr
        simp only [Prod.mk.injEq] at hl
        obtain ⟨-, rfl⟩ := hl
        rw [lead4 hr] at c4 c5
        match l, c2 with
        | a :: b :: c :: d :: r, _ =>
          refine ⟨.inr (.inr rfl), by simp, ?_⟩
          have hb := c3 0 (by omega)
          have hb2 := c3 1 (by omega)
          have hb3 := c3 2 (by omega)
          simp only [succN, qN, mdN, accP, lowN, List.getD_cons_zero, List.getD_cons_succ, Nat.reduceSub, Nat.reduceEqDiff, if_false, List.take_succ_cons, List.take_zero] at hr hb hb2 hb3 c4 c5 ⊢
          obtain ⟨q, hq⟩ : ∃ q, q = 64 * (64 * (64 * (a.toNat % 8) + b.toNat % 64) + c.toNat % 64) + d.toNat % 64 := ⟨_, rfl⟩
          rw [← hq] at c4 c5 ⊢
          refine ⟨c4, ?_⟩
          unfold putOf
          rw [if_neg (by omega), if_neg (by omega), if_neg (by omega), u8_of (a := a) (by omega), u8_of (a := b) (by omega), u8_of (a := c) (by omega), u8_of (a := d) (by omega)]
        | [], h => simp at h
        | [a], h => simp at h
        | [a, b], h => simp at h
        | [a, b, c], h => simp at h
      · simp only [Prod.mk.injEq] at hl
        exact absurd hl.2.symm c1
end Go.Ab
/-
  The point at a text's front: the document's function.
-/
namespace Go.Ab
variable {st s : St} {e : Env}

theorem mul32 {ek : EK} {a : Nat} (h : 64 * a < 2147483648) : binPV .mul ek (.int .i32 64) (.int .i32 (a : Int)) = some (.int .i32 ((64 * a : Nat) : Int)) := by
  simp only [binPV, binI, reduceIte, Option.some.injEq]
  rw [wrap32 (by omega) (by omega)]
  congr 1

set_option maxHeartbeats 1000000 in
theorem rNext_spec {x : PV} {l : List UInt8} (hx : x.by = some l) (hl : l.length ≤ 100000000) : call prog (.fn 75 []) [x] st = some (nextV l, st) := by
  refine call_of_W prog_75 ?_
  unfold F_posthornref02_Next; dsimp only
  by_cases hne : l = []
  · have e1 : decide ((l.length : Int) = 0) = true := by simp [hne]
    simp (maxSteps := 1000000) (disch := omega) only [len_by hx, e1, qaaz, qabz, qacz, qaiz, qajz, qalz, evOp, qaoz, qapz, qarz, qatz, qavz,
 ↓reduceIte, List.append_nil, qawz, Option.map_some, qazz, qbaz, qbhz, qblz, qbtz, reduceCtorEq]
    exact ⟨.tup [.int .i32 0, .int .i64 0, .int .i64 42], rfl, by
      rw [show nextV l = .tup [.int .i32 0, .int .i64 0, .int .i64 42] by simp [nextV, nextOf, hne]]
      exact Kept.start.leave rfl (fun _ _ => rfl)⟩
  have hlen : 0 < l.length := List.length_pos_iff.2 hne
  have e1 : ¬ ((l.length : Int) = 0) := by omega
  obtain ⟨c, hc⟩ : ∃ c, c = l.getD 0 0 := ⟨_, rfl⟩
  have hi0 : iaddrPV 1 x (.int .i64 0) = some (.cp [.b8 c]) := by rw [hc]; exact iaddr_by hx (by omega) (by simpa using hlen)
  by_cases h128 : c < 128
  · have h128' : c.toNat < 128 := by rw [UInt8.lt_iff_toNat_lt] at h128; simpa using h128
    simp (maxSteps := 1000000) (disch := omega) only [len_by hx, e1, hi0, qciz, h128, cI32, qaaz, qabz, qacz, qaez, qaiz, qajz, qalz, evOp, qaoz, qapz, qarz, qatz, qavz,
 ↓reduceIte, List.append_nil, qawz, Option.map_some, qazz, qbaz, qbhz, qblz, qbtz, qbxz, qciz, decide_true, decide_false,
 Bool.false_eq_true, reduceCtorEq]
    exact ⟨.tup [.int .i32 (c.toNat : Int), .int .i64 1, .int .i64 0], rfl, by
      rw [nextV_some (p := c.toNat) (n := 1) (by unfold nextOf; rw [if_neg hne, ← hc, if_pos h128'])]
      exact Kept.start.leave rfl (fun _ _ => rfl)⟩
  have h128' : ¬ (l.getD 0 0).toNat < 128 := by rw [← hc]; rw [UInt8.lt_iff_toNat_lt] at h128; simpa using h128
  simp (maxSteps := 1000000) (disch := omega) only [len_by hx, e1, hi0, qciz, h128, qaaz, qabz, qacz, qadz, qaez, qajz, qalz, evOp, qaoz, qapz, qarz, qatz, qavz,
 ↓reduceIte, List.append_nil, qawz, Option.map_some, qazz, qbhz, qbtz, qbxz, qciz, decide_false,
 Bool.false_eq_true, reduceCtorEq]
  obtain ⟨I, hI⟩ : ∃ I : Nat → Env → St → Prop, I = fun m E S => ∃ n, m = 5 - n ∧ 2 ≤ n ∧ n ≤ 5 ∧ Kept st S ∧ (∀ k, 2 ≤ k → k < n → k ≤ l.length → ¬ succN l k) ∧ E 0 = x ∧ E 5 = .int .i64 (n : Int) := ⟨_, rfl⟩
  refine W_loop I ?_ (n := 3) (by
    rw [hI]
    exact ⟨2, rfl, by omega, by omega, Kept.start, fun k h1 h2 => by omega, rfl, rfl⟩)
  intro m e S hh
  rw [hI] at hh
  obtain ⟨n, rfl, hn2, hn5, hk, hall, h0, h5⟩ := hh
  by_cases hr : n ≤ 4 ∧ n ≤ l.length
  · obtain ⟨hn4, hnl⟩ := hr
    have r1 : (n : Int) ≤ 4 := by omega
    have hn : n = 2 ∨ n = 3 ∨ n = 4 := by omega
    refine W_cut (fun E S => Kept st S ∧ E 0 = x ∧ E 5 = .int .i64 (n : Int)) ?_ ?_
    · simp (maxSteps := 1000000) (disch := omega) only [h0, h5, r1, len_by hx, hnl, qaaz, qabz, qacz, qaez, qajz, qakz, qalz, qamz, qanz, evOp, qaoz, qapz, qarz, qatz, qavz,
 ↓reduceIte, Nat.reduceEqDiff, Option.map_some, qazz, qbhz, qbqz, beq_true, decide_true, Int.ofNat_le, true_and, and_true, reduceCtorEq]
      exact hk
    clear hk h0 h5
    rintro e S ⟨hk, h0, h5⟩
    rw [qaaz, qadz]
    refine W_cut (fun E S => Kept st S ∧ E 0 = x ∧ E 5 = .int .i64 (n : Int) ∧ E 6 = .int .i32 ((c.toNat % 32 : Nat) : Int)) ?_ ?_
    · simp (maxSteps := 1000000) (disch := omega) only [h0, h5, hi0, qciz, cI32, rem32, qabz, qajz, qalz, evOp, qaoz, qapz, qarz, qatz, qavz,
 ↓reduceIte, Nat.reduceEqDiff, Option.map_some, qciz, Int.reduceToNat, true_and, and_true, reduceCtorEq]
      exact hk
    clear hk h0 h5
    rintro e S ⟨hk, h0, h5, h6⟩
    refine W_cut (fun E S => Kept st S ∧ E 0 = x ∧ E 5 = .int .i64 (n : Int) ∧ E 6 = .int .i32 ((if n = 3 then c.toNat % 16 else c.toNat % 32 : Nat) : Int)) ?_ ?_
    · by_cases q : n = 3
      · have d3 : decide ((n : Int) = 3) = true := by simp [q]
        simp (maxSteps := 1000000) (disch := omega) only [h0, h5, d3, hi0, qciz, cI32, rem32, qaaz, qabz, qacz, qajz, qalz, evOp, qaoz, qapz, qarz, qatz, qavz,
 ↓reduceIte, Nat.reduceEqDiff, Option.map_some, qazz, qbhz, qbtz, qciz, Int.reduceToNat, true_and, reduceCtorEq]
        exact ⟨hk, by simp [q]⟩
      · have d3 : ¬ (n : Int) = 3 := by omega
        simp (maxSteps := 1000000) (disch := omega) only [h0, h5, h6, d3, qaaz, qabz, qacz, qaez, qajz, qalz, evOp, qaoz, qapz, qarz, qatz, qavz,
 ↓reduceIte, Nat.reduceEqDiff, Option.map_some, qazz, qbhz, qbtz, decide_false,
 Bool.false_eq_true, true_and, reduceCtorEq]
        exact ⟨hk, by simp [q]⟩
    clear hk h0 h5 h6
    rintro e S ⟨hk, h0, h5, h6⟩
    refine W_cut (fun E S => Kept st S ∧ E 0 = x ∧ E 5 = .int .i64 (n : Int) ∧ E 6 = .int .i32 ((c.toNat % mdN n : Nat) : Int)) ?_ ?_
    · by_cases q : n = 4
      · have d4 : decide ((n : Int) = 4) = true := by simp [q]
        simp (maxSteps := 1000000) (disch := omega) only [h0, h5, d4, hi0, qciz, cI32, rem32, qaaz, qabz, qacz, qajz, qalz, evOp, qaoz, qapz, qarz, qatz, qavz,
 ↓reduceIte, Nat.reduceEqDiff, Option.map_some, qazz, qbhz, qbtz, qciz, Int.reduceToNat, true_and, reduceCtorEq]
        exact ⟨hk, by simp [q, mdN]⟩
      · have d4 : ¬ (n : Int) = 4 := by omega
        simp (maxSteps := 1000000) (disch := omega) only [h0, h5, h6, d4, qaaz, qabz, qacz, qaez, qajz, qalz, evOp, qaoz, qapz, qarz, qatz, qavz,
 ↓reduceIte, Nat.reduceEqDiff, Option.map_some, qazz, qbhz, qbtz, decide_false,
 Bool.false_eq_true, true_and, reduceCtorEq]
        refine ⟨hk, ?_⟩
        by_cases q3 : n = 3
        · simp [mdN, q3]
        · have q2 : n = 2 := by omega
          simp [mdN, q2]
    clear hk h0 h5 h6
    rintro e S ⟨hk, h0, h5, h6⟩
    obtain ⟨p, hp⟩ : ∃ p, p = c.toNat % mdN n := ⟨_, rfl⟩
    rw [← hp] at h6
    have hp32 : p < 32 := by
      rw [hp]; unfold mdN
      split
      · omega
      · split <;> omega
    have hacc : ∀ k, k ≤ 3 → accP l p k < 8388609 := by
      intro k hk
      have := accP_lt (l := l) (p := p) k
      have h64 : (p + 1) * 64 ^ k ≤ 32 * 64 ^ 3 := Nat.mul_le_mul (by omega) (Nat.pow_le_pow_right (by omega) hk)
      have : 32 * 64 ^ 3 = 8388608 := by decide
      omega
    have hq : qN l n = accP l p (n - 1) := by unfold qN; rw [← hc, ← hp]
    refine W_cut (fun E S => Kept st S ∧ E 0 = x ∧ E 5 = .int .i64 (n : Int) ∧ E 6 = .int .i32 ((accP l p (n - 1) : Nat) : Int)) ?_ ?_
    · simp (maxSteps := 1000000) (disch := omega) only [qaaz, qabz, qadz, qajz, qalz, evOp, qapz, qarz, qatz, qazz]
      obtain ⟨II, hII⟩ : ∃ II : Nat → Env → St → Prop, II = fun m E S => ∃ k, m = n - 1 - k ∧ k ≤ n - 1 ∧ Kept st S ∧ E 0 = x ∧ E 5 = .int .i64 (n : Int) ∧ E 6 = .int .i32 ((accP l p k : Nat) : Int) ∧ E 7 = .int .i64 ((k + 1 : Nat) : Int) := ⟨_, rfl⟩
      refine W_loop II ?_ (n := n - 1) (by
        rw [hII]
        exact ⟨0, rfl, by omega, hk, h0, h5, h6, rfl⟩)
      clear hk h0 h5 h6
      intro m E S hh
      rw [hII] at hh
      obtain ⟨k, rfl, hk1, hk, h0, h5, h6, h7⟩ := hh
      by_cases hlt : k + 1 < n
      · obtain ⟨d, hd⟩ : ∃ d, d = l.getD (k + 1) 0 := ⟨_, rfl⟩
        have hid : iaddrPV 1 x (.int .i64 ((k + 1 : Nat) : Int)) = some (.cp [.b8 d]) := by
          rw [hd]; exact iaddr_by hx (by omega) (by rw [Int.toNat_natCast]; omega)
        have ha := hacc k (by omega)
        have hstep : accP l p (k + 1) = 64 * accP l p k + d.toNat % 64 := by rw [hd]; rfl
        simp (maxSteps := 1000000) (disch := omega) only [h0, h5, h6, h7, hlt, hid, qciz, cI32, rem32, mul32, addc32, add_n, qaaz, qabz, qacz, qadz, qaez, qajz, qalz, evOp, qaoz, qapz, qarz, qatz, qavz,
 ↓reduceIte, Nat.reduceEqDiff, Option.map_some, qazz, qbdz, qbhz, qbpz, qciz, decide_true, Int.toNat_natCast, Int.ofNat_lt, Int.reduceToNat, reduceCtorEq]
        refine loopQ_intro (m := n - 1 - (k + 1)) (by omega) ?_
        rw [hII]
        exact ⟨k + 1, rfl, by omega, hk, h0, h5, by rw [hstep]; rfl, rfl⟩
      · obtain rfl : k = n - 1 := by omega
        simp (maxSteps := 1000000) (disch := omega) only [h0, h5, h6, h7, hlt, qaaz, qabz, qacz, qagz, qajz, qalz, evOp, qaoz, qarz, qatz, qavz,
 ↓reduceIte, Nat.reduceEqDiff, Option.map_some, qazz, qbbz, qbfz, qbhz, qbjz, qbpz, decide_false,
 Int.ofNat_lt, Bool.false_eq_true, true_and, and_true, reduceCtorEq]
        exact hk
    clear hk h0 h5 h6
    rintro e S ⟨hk, h0, h5, h6⟩
    rw [← hq] at h6
    have hqb : qN l n < 2147483648 := by rw [hq]; have := hacc (n - 1) (by omega); omega
    have hput := Put_spec (st := S) hqb
    have hnext : ¬ succN l n → ∀ (E : Env) (S : St), Kept st S → E 0 = x → E 5 = .int .i64 ((n + 1 : Nat) : Int) → I (5 - (n + 1)) E S := by
      intro hs E S k1 k2 k3
      rw [hI]
      refine ⟨n + 1, rfl, by omega, by omega, k1, fun k j1 j2 j3 => ?_, k2, k3⟩
      by_cases hkn : k = n
      · subst hkn; exact hs
      · exact hall k j1 (by omega) j3
    by_cases hpt : pointN (qN l n)
    · have hput' : call prog (.fn 81 []) [.int .i32 ((qN l n : Nat) : Int)] S = some (.tup [.bys (.own S.toks.length) (putOf (qN l n)), .int .i64 0], S.tok1) := by
        rw [hput]; simp [putV, hpt]
      have hsl := slc_hi (k := .i64) (c := (n : Int)) hx (by omega) (by simpa using hnl)
      rw [Int.toNat_natCast] at hsl
      by_cases hs : putOf (qN l n) = l.take n
      · have hyes := succ_next hn hnl h128' ⟨hpt, hs⟩
        simp (maxSteps := 1000000) (disch := omega) only [h0, h5, h6, hput', b2s_by qcgz, hsl, b2s_by (takeB_by hx), eq_true hs, qaaz, qabz, qacz, qaiz, qajz, qakz, qalz, qamz, qanz, evOp, qaoz, qapz, qaqz, qarz, qatz, qavz,
 ↓reduceIte, Nat.reduceEqDiff, List.map_cons, List.map_nil, Option.map_some, Option.map_none, qazz, qbaz, qbez, qbhz, qbiz, qblz, qbtz, qcbz, beq_true, decide_true, qcjz, List.getElem?_cons_zero, List.getElem?_cons_succ, reduceCtorEq]
        refine ⟨.tup [.int .i32 ((qN l n : Nat) : Int), .int .i64 (n : Int), .int .i64 0], rfl, ?_⟩
        rw [nextV_some hyes]
        exact hk.tok1.leave rfl (fun _ _ => rfl)
      · simp (maxSteps := 1000000) (disch := omega) only [h0, h5, h6, hput', b2s_by qcgz, hsl, b2s_by (takeB_by hx), hs, add_n, qaaz, qabz, qacz, qaez, qajz, qakz, qalz, qamz, qanz, evOp, qaoz, qapz, qaqz, qarz, qatz, qavz,
 ↓reduceIte, Nat.reduceEqDiff, List.map_cons, List.map_nil, Option.map_some, Option.map_none, qazz, qbdz, qbhz, qbtz, qcbz, beq_true, decide_true, decide_false,
 Bool.false_eq_true, qcjz, List.getElem?_cons_zero, List.getElem?_cons_succ, Int.reduceToNat, reduceCtorEq]
        exact loopQ_intro (m := 5 - (n + 1)) (by omega) (hnext (fun h => hs h.2) _ _ hk.tok1 h0 rfl)
    · have hput' : call prog (.fn 81 []) [.int .i32 ((qN l n : Nat) : Int)] S = some (.tup [.nils, .int .i64 20], S) := by
        rw [hput]; simp [putV, hpt]
      simp (maxSteps := 1000000) (disch := omega) only [h5, h6, hput', add_n, qaaz, qabz, qacz, qaez, qajz, qakz, qalz, qamz, qanz, evOp, qaoz, qapz, qaqz, qarz, qatz, qavz,
 ↓reduceIte, Nat.reduceEqDiff, List.map_cons, List.map_nil, Option.map_some, qazz, qbdz, qbhz, qbtz, beq_true, decide_false,
 Bool.false_eq_true, qcjz, List.getElem?_cons_zero, List.getElem?_cons_succ, Int.reduceToNat, Int.reduceEq]
      exact loopQ_intro (m := 5 - (n + 1)) (by omega) (hnext (fun h => hpt h.1) _ _ hk h0 rfl)
  · have hno : nextOf l = none := by
      cases h : nextOf l with
      | none => rfl
      | some r =>
        obtain ⟨v, k⟩ := r
        obtain ⟨k1, k2, k3⟩ := next_succ h128' h
        exact absurd k3 (hall k (by omega) (by omega) k2)
    have fin : ∀ E : Env, E 2 = .int .i32 0 → E 3 = .int .i64 0 → E 4 = .int .i64 20 → ∃ rv, resOf E S [.tmp 2, .tmp 3, .tmp 4] = some rv ∧ leave st S rv = (nextV l, st) := by
      intro E k2 k3 k4
      exact ⟨.tup [.int .i32 0, .int .i64 0, .int .i64 20], by simp [resOf, rvAll, rv1, k2, k3, k4, notTup, packRes], by rw [nextV_none hno hne]; exact hk.leave rfl (fun _ _ => rfl)⟩
    by_cases hn4 : n ≤ 4
    · have r1 : (n : Int) ≤ 4 := by omega
      have r2 : ¬ n ≤ l.length := by omega
      simp (maxSteps := 1000000) (disch := omega) only [h0, h5, r1, len_by hx, r2, qaaz, qabz, qacz, qagz, qaiz, qajz, qakz, qalz, qamz, qanz, evOp, qaoz, qapz, qarz, qatz, qavz,
 ↓reduceIte, Nat.reduceEqDiff, Option.map_some, qazz, qbbz, qbfz, qbhz, qbjz, qblz, qbqz, beq_true, decide_true, decide_false,
 Int.ofNat_le, Bool.false_eq_true, reduceCtorEq]
      exact fin _ rfl rfl rfl
    · have r1 : ¬ (n : Int) ≤ 4 := by omega
      simp (maxSteps := 1000000) (disch := omega) only [h5, r1, qaaz, qabz, qacz, qagz, qaiz, qajz, qakz, qalz, qamz, qanz, evOp, qaoz, qapz, qarz, qatz, qavz,
 ↓reduceIte, Nat.reduceEqDiff, Option.map_some, qazz, qbbz, qbfz, qbhz, qbjz, qblz, qbqz, beq_true, decide_false,
 Bool.false_eq_true]
      exact fin _ rfl rfl rfl
end Go.Ab
/-
  A text's points; whether it is one.
-/
namespace Go.Ab
variable {st s : St} {e : Env}

theorem next_pos {l : List UInt8} {p n : Nat} (h : nextOf l = some (p, n)) : 1 ≤ n ∧ n ≤ l.length ∧ p < 2147483648 := by
  by_cases hc : (l.getD 0 0).toNat < 128
  · unfold nextOf at h
    split at h
    · cases h
    · rename_i hne
      cases h
      have := List.length_pos_iff.2 hne
      omega
  · obtain ⟨h1, h2, h3⟩ := next_succ hc h
    have h4 := succ_next h1 h2 hc h3
    rw [h] at h4
    simp only [Option.some.injEq, Prod.mk.injEq] at h4
    have := h3.1
    rw [← h4.1] at this
    unfold pointN at this
    omega

def ptsOf : Nat → List UInt8 → Nat → Except Nat (List Nat)
  | 0, _, _ => .ok []
  | k + 1, l, i => if i < l.length then match nextOf (l.drop i) with
    | none => .error i
    | some (p, n) => match ptsOf k l (i + n) with
      | .ok r => .ok (p :: r)
      | .error j => .error j
    else .ok []
def ptV (p : Nat) : PV := .int .i32 (p : Int)
def ptsV (st : St) (r : Except Nat (List Nat)) : PV × St := match r with
  | .ok ps => (.tup [newSl st 1 (ps.map ptV), .agg [.int .i64 0, .int .i64 0]], newS st (ps.map ptV).isEmpty)
  | .error j => (.tup [.nils, .agg [.int .i64 (j : Int), .int .i64 20]], st)

theorem Kept.appS {esz : Nat} {v : PV} {xs : List PV} (hk : Kept st s) (h : Own st s esz v xs) : Kept st (Ab.appS s v) := by
  have htl := hk.tl
  rcases h with ⟨rfl, rfl⟩ | ⟨i, rfl, h2, h3⟩
  · exact hk.tok1
  · refine hk.of rfl rfl hk.lw (fun j hj => ?_) ?_
    · show (s.toks.set i false ++ [true])[j]? = s.toks[j]?
      rw [List.getElem?_append_left (by simp; omega), List.getElem?_set_ne (by omega)]
    · show st.toks.length ≤ (s.toks.set i false ++ [true]).length
      simp; omega
theorem Own.appK {esz : Nat} {v : PV} {xs ys : List PV} (hk : Kept st s) (h : Own st s esz v xs) : Own st (Ab.appS s v) esz (.sl esz (.own s.toks.length) ys) ys := by
  have htl := hk.tl
  refine .inr ⟨_, rfl, htl, ?_⟩
  rcases h with ⟨rfl, rfl⟩ | ⟨i, rfl, h2, h3⟩
  · simp [Ab.appS, St.tok1]
  · show (s.toks.set i false ++ [true])[s.toks.length]? = some true
    rw [List.getElem?_append_right (by simp)]; simp
theorem leave_ownA {v : PV} {xs : List PV} {a b : Int} (hk : Kept st s) (h : Own st s 1 v xs) (hne : xs = [] → v = .nils) : leave st s (.tup [v, .agg [.int .i64 a, .int .i64 b]]) = (.tup [newSl st 1 xs, .agg [.int .i64 a, .int .i64 b]], newS st xs.isEmpty) := by
  have e1 := hk.bx; have e2 := hk.lp; have e3 := hk.tk
  rcases h with ⟨rfl, rfl⟩ | ⟨i, rfl, h2, h3⟩
  · simp [leave, PV.inB, PV.inB.inBAll, hk.lw, keepRes, keepVals, keepVal, keepCells, keepLeaf, e1, e2, e3, newSl, newS]
  · by_cases hx : xs = []
    · have := hne hx; cases this
    · simp [leave, PV.inB, PV.inB.inBAll, hk.lw, keepRes, keepVals, keepVal, keepCells, keepLeaf, keepTok, h3, show ¬ i < st.toks.length by omega, e1, e2, e3, newSl, newS, hx, St.tok1]
theorem liti1 {p : Int} : litFill 1 (List.replicate 1 (.int .i32 0)) [(0, .int .i32 p)] = some [.int .i32 p] := lit1 rfl rfl
theorem build2i {a b : Int} : buildCells [.int .i64 0, .int .i64 0] [(0, 1, .int .i64 a), (1, 1, .int .i64 b)] = some [.int .i64 a, .int .i64 b] := by
  simp [buildCells, PV.cells, leafOk, setCells]
theorem build0i : buildCells [.int .i64 0, .int .i64 0] [] = some [.int .i64 0, .int .i64 0] := rfl

def FB (st s : St) (a b : Int) : Prop := st.boxes.length < s.boxes.length ∧ s.boxes[st.boxes.length]? = some [.int .i64 a, .int .i64 b]
theorem FB.store {a b c d : Int} (hk : Kept st s) (h : FB st s a b) : ∃ s', storePV s 2 (.ptr st.boxes.length 0) (.agg [.int .i64 c, .int .i64 d]) = some s' ∧ Kept st s' ∧ FB st s' c d ∧ s'.toks = s.toks := by
  refine ⟨{ s with boxes := s.boxes.set st.boxes.length [.int .i64 c, .int .i64 d] }, ?_, ?_, ⟨by simpa using h.1, by simp [h.1]⟩, rfl⟩
  · simp [storePV, h.2, PV.cells, PV.inB, PV.inB.inBAll, leafOk, hasTok, tokOf, setCells]
  · exact hk.of (by rw [List.take_set_of_le (Nat.le_refl _)]) rfl hk.lw (fun _ _ => rfl) hk.tl
theorem FB.load {a b : Int} (h : FB st s a b) : loadPV s true 2 (.ptr st.boxes.length 0) = some (.agg [.int .i64 a, .int .i64 b]) := by
  simp [loadPV, h.2, readCells]
theorem FB.appS {v : PV} {esz : Nat} {xs : List PV} {a b : Int} (h : FB st s a b) (ho : Own st s esz v xs) : FB st (Ab.appS s v) a b := by
  rcases ho with ⟨rfl, rfl⟩ | ⟨i, rfl, _, _⟩ <;> exact h

set_option maxHeartbeats 1000000 in
theorem uPoints_spec {x : PV} {l : List UInt8} (hx : x.by = some l) (hl : l.length ≤ 100000000) : call prog (.fn 69 []) [x] st = some (ptsV st (ptsOf (l.length + 1) l 0)) := by
  refine call_of_W prog_69 ?_
  unfold F_utf_Points; dsimp only
  obtain ⟨T, hT⟩ : ∃ T, T = ptsOf (l.length + 1) l 0 := ⟨_, rfl⟩
  rw [← hT]
  refine W_cut (fun E S => Kept st S ∧ FB st S 0 0 ∧ E 0 = x ∧ E 3 = .ptr st.boxes.length 0) ?_ ?_
  · simp (maxSteps := 1000000) (disch := omega) only [allocPV, qabz, qajz, qalz, evOp, qapz, qarz, qatz, qavz,
 ↓reduceIte, List.append_nil, qawz, true_and, and_true, reduceCtorEq]
    exact ⟨Kept.start.alloc, by simp, by simp⟩
  rintro e S ⟨hk, hb, h0, h3⟩
  simp (maxSteps := 1000000) (disch := omega) only [qaaz, qabz, qadz, qajz, qalz, evOp, qapz, qarz, qatz, qazz]
  obtain ⟨I, hI⟩ : ∃ I : Nat → Env → St → Prop, I = fun m E S => ∃ (i k : Nat) (v : PV) (acc : List Nat), m = l.length - i ∧ l.length + 1 - i ≤ k ∧ i ≤ l.length ∧ acc.length ≤ i ∧ Kept st S ∧ FB st S 0 0 ∧ Own st S 1 v (acc.map ptV) ∧ (acc.map ptV = [] → v = .nils) ∧ T = (match ptsOf k l i with | .ok r => .ok (acc ++ r) | .error j => .error j) ∧ E 0 = x ∧ E 3 = .ptr st.boxes.length 0 ∧ E 4 = v ∧ E 5 = .int .i64 (i : Int) := ⟨_, rfl⟩
  refine W_loop I ?_ (n := l.length) (by
    rw [hI]
    refine ⟨0, l.length + 1, .nils, [], rfl, by omega, by omega, by simp, hk, hb, .inl ⟨rfl, rfl⟩, fun _ => rfl, ?_, h0, h3, rfl, rfl⟩
    rw [hT]; split <;> simp_all)
  clear hk hb h0 h3
  intro m e S hh
  rw [hI] at hh
  obtain ⟨i, k, v, acc, rfl, hki, hil, hacl, hk, hb, ho, hnil, hTT, h0, h3, h4, h5⟩ := hh
  by_cases hlt : i < l.length
  · obtain ⟨k, rfl⟩ : ∃ k', k = k' + 1 := ⟨k - 1, by omega⟩
    simp only [ptsOf, hlt, if_true] at hTT
    have hnx := fun S : St => uNext_spec (st := S) (dropB_by (i := i) hx) (by simp; omega)
    have hsl := slc_lo (k := .i64) (c := (i : Int)) hx (by omega) (by simpa using hil)
    rw [Int.toNat_natCast] at hsl
    cases hno : nextOf (l.drop i) with
    | none =>
      simp only [hno] at hTT
      have hdn : l.drop i ≠ [] := by intro h; have := congrArg List.length h; simp at this; omega
      rw [nextV_none hno hdn] at hnx
      obtain ⟨S2, a1, k1, b1, -⟩ := FB.store (c := (i : Int)) (d := 20) hk hb
      have hld := b1.load
      simp (maxSteps := 1000000) (disch := omega) only [h0, h3, h5, len_by hx, hlt, hsl, hnx, build2i, a1, qaaz, qabz, qacz, qadz, qaez, qaiz, qajz, qalz, evOp, qaoz, qapz, qaqz, qarz, qatz, qauz, qavz,
 ↓reduceIte, Nat.reduceEqDiff, List.map_cons, List.map_nil, Option.map_some, Option.map_none, qazz, qbaz, qbez, qbhz, qbiz, qblz, qbpz, qbuz, decide_true, Int.ofNat_lt, qcjz, List.getElem?_cons_zero, List.getElem?_cons_succ, reduceCtorEq, ne_eq, Int.reduceEq, not_false_eq_true]
      refine ⟨.tup [.nils, .agg [.int .i64 (i : Int), .int .i64 20]], ?_, ?_⟩
      · simp [resOf, rvAll, rv1, qavz, h3, hld, notTup, packRes]
      · rw [hTT]; exact k1.leave rfl (fun _ _ => rfl)
    | some pn =>
      obtain ⟨p, n⟩ := pn
      simp only [hno] at hTT
      rw [nextV_some hno] at hnx
      obtain ⟨hn1, hn2, hn3⟩ := next_pos hno
      simp only [List.length_drop] at hn2
      have happ := appV_own (u := ptV p) (t := .own S.toks.length) ho.tok1 (by simp only [List.length_map, room]; omega)
      have k2 := hk.tok1.appS ho.tok1
      have o2 := Own.appK (ys := acc.map ptV ++ [ptV p]) hk.tok1 ho.tok1
      have b2 : FB st (Ab.appS S.tok1 v) 0 0 := FB.appS (s := S.tok1) hb ho.tok1
      unfold ptV at happ
      simp (maxSteps := 1000000) (disch := omega) only [h0, h4, h5, len_by hx, hlt, hsl, hnx, liti1, freshT_eq, happ, add_n, qaaz, qabz, qacz, qadz, qaez, qajz, qalz, evOp, qaoz, qapz, qaqz, qarz, qatz, qavz,
 ↓reduceIte, Nat.reduceEqDiff, List.map_cons, List.map_nil, Option.map_some, Option.map_none, qazz, qbdz, qbhz, qbpz, qbuz, decide_true, decide_false,
 Int.toNat_natCast, Int.ofNat_lt, Bool.false_eq_true, qcjz, List.getElem?_cons_zero, List.getElem?_cons_succ, reduceCtorEq, ne_eq, not_true_eq_false]
      refine loopQ_intro (m := l.length - (i + n)) (by omega) ?_
      rw [hI]
      refine ⟨i + n, k, _, acc ++ [p], rfl, by omega, by omega, by simp; omega, k2, b2, ?_, fun h => by simp at h, ?_, h0, h3, rfl, rfl⟩
      · rw [List.map_append]; exact o2
      · rw [hTT]
        cases ptsOf k l (i + n) with
        | ok r => simp
        | error j => rfl
  · obtain rfl : i = l.length := by omega
    have hTf : T = .ok acc := by
      rw [hTT]
      cases k with
      | zero => simp [ptsOf]
      | succ k => simp [ptsOf]
    obtain ⟨S2, a1, k1, b1, t1⟩ := FB.store (c := 0) (d := 0) hk hb
    have hld := b1.load
    have ho2 : Own st S2 1 v (acc.map ptV) := by
      rcases ho with h | ⟨i, h1, h2, h3⟩
      · exact .inl h
      · exact .inr ⟨i, h1, h2, by rw [t1]; exact h3⟩
    simp (maxSteps := 1000000) (disch := omega) only [h0, h3, h4, h5, len_by hx, hlt, build0i, a1, qaaz, qabz, qacz, qagz, qaiz, qajz, qalz, evOp, qaoz, qarz, qatz, qauz, qavz,
 ↓reduceIte, Nat.reduceEqDiff, List.map_nil, Option.map_some, qazz, qbbz, qbfz, qbhz, qbjz, qblz, qbpz, decide_false,
 Int.ofNat_lt, Bool.false_eq_true, reduceCtorEq]
    refine ⟨.tup [v, .agg [.int .i64 0, .int .i64 0]], ?_, ?_⟩
    · have hnt : notTup v = true := by rcases ho with ⟨rfl, _⟩ | ⟨i, rfl, _⟩ <;> rfl
      simp [resOf, rvAll, rv1, qavz, h3, hld, hnt, packRes]
      rfl
    · rw [hTf]; exact leave_ownA k1 ho2 hnil
set_option maxHeartbeats 1000000 in
theorem rPoints_spec {x : PV} {l : List UInt8} (hx : x.by = some l) (hl : l.length ≤ 100000000) : call prog (.fn 80 []) [x] st = some (ptsV st (ptsOf (l.length + 1) l 0)) := by
  refine call_of_W prog_80 ?_
  unfold F_posthornref02_Points; dsimp only
  obtain ⟨T, hT⟩ : ∃ T, T = ptsOf (l.length + 1) l 0 := ⟨_, rfl⟩
  rw [← hT]
  refine W_cut (fun E S => Kept st S ∧ FB st S 0 0 ∧ E 0 = x ∧ E 3 = .ptr st.boxes.length 0) ?_ ?_
  · simp (maxSteps := 1000000) (disch := omega) only [allocPV, qabz, qajz, qalz, evOp, qapz, qarz, qatz, qavz,
 ↓reduceIte, List.append_nil, qawz, true_and, and_true, reduceCtorEq]
    exact ⟨Kept.start.alloc, by simp, by simp⟩
  rintro e S ⟨hk, hb, h0, h3⟩
  simp (maxSteps := 1000000) (disch := omega) only [qaaz, qabz, qadz, qajz, qalz, evOp, qapz, qarz, qatz, qazz]
  obtain ⟨I, hI⟩ : ∃ I : Nat → Env → St → Prop, I = fun m E S => ∃ (i k : Nat) (v : PV) (acc : List Nat), m = l.length - i ∧ l.length + 1 - i ≤ k ∧ i ≤ l.length ∧ acc.length ≤ i ∧ Kept st S ∧ FB st S 0 0 ∧ Own st S 1 v (acc.map ptV) ∧ (acc.map ptV = [] → v = .nils) ∧ T = (match ptsOf k l i with | .ok r => .ok (acc ++ r) | .error j => .error j) ∧ E 0 = x ∧ E 3 = .ptr st.boxes.length 0 ∧ E 4 = v ∧ E 5 = .int .i64 (i : Int) := ⟨_, rfl⟩
  refine W_loop I ?_ (n := l.length) (by
    rw [hI]
    refine ⟨0, l.length + 1, .nils, [], rfl, by omega, by omega, by simp, hk, hb, .inl ⟨rfl, rfl⟩, fun _ => rfl, ?_, h0, h3, rfl, rfl⟩
    rw [hT]; split <;> simp_all)
  clear hk hb h0 h3
  intro m e S hh
  rw [hI] at hh
  obtain ⟨i, k, v, acc, rfl, hki, hil, hacl, hk, hb, ho, hnil, hTT, h0, h3, h4, h5⟩ := hh
  by_cases hlt : i < l.length
  · obtain ⟨k, rfl⟩ : ∃ k', k = k' + 1 := ⟨k - 1, by omega⟩
    simp only [ptsOf, hlt, if_true] at hTT
    have hnx := fun S : St => rNext_spec (st := S) (dropB_by (i := i) hx) (by simp; omega)
    have hsl := slc_lo (k := .i64) (c := (i : Int)) hx (by omega) (by simpa using hil)
    rw [Int.toNat_natCast] at hsl
    cases hno : nextOf (l.drop i) with
    | none =>
      simp only [hno] at hTT
      have hdn : l.drop i ≠ [] := by intro h; have := congrArg List.length h; simp at this; omega
      rw [nextV_none hno hdn] at hnx
      obtain ⟨S2, a1, k1, b1, -⟩ := FB.store (c := (i : Int)) (d := 20) hk hb
      have hld := b1.load
      simp (maxSteps := 1000000) (disch := omega) only [h0, h3, h5, len_by hx, hlt, hsl, hnx, build2i, a1, qaaz, qabz, qacz, qadz, qaez, qaiz, qajz, qalz, evOp, qaoz, qapz, qaqz, qarz, qatz, qauz, qavz,
 ↓reduceIte, Nat.reduceEqDiff, List.map_cons, List.map_nil, Option.map_some, Option.map_none, qazz, qbaz, qbez, qbhz, qbiz, qblz, qbpz, qbuz, decide_true, Int.ofNat_lt, qcjz, List.getElem?_cons_zero, List.getElem?_cons_succ, reduceCtorEq, ne_eq, Int.reduceEq, not_false_eq_true]
      refine ⟨.tup [.nils, .agg [.int .i64 (i : Int), .int .i64 20]], ?_, ?_⟩
      · simp [resOf, rvAll, rv1, qavz, h3, hld, notTup, packRes]
      · rw [hTT]; exact k1.leave rfl (fun _ _ => rfl)
    | some pn =>
      obtain ⟨p, n⟩ := pn
      simp only [hno] at hTT
      rw [nextV_some hno] at hnx
      obtain ⟨hn1, hn2, hn3⟩ := next_pos hno
      simp only [List.length_drop] at hn2
      have happ := appV_own (u := ptV p) (t := .own S.toks.length) ho.tok1 (by simp only [List.length_map, room]; omega)
      have k2 := hk.tok1.appS ho.tok1
      have o2 := Own.appK (ys := acc.map ptV ++ [ptV p]) hk.tok1 ho.tok1
      have b2 : FB st (Ab.appS S.tok1 v) 0 0 := FB.appS (s := S.tok1) hb ho.tok1
      unfold ptV at happ
      simp (maxSteps := 1000000) (disch := omega) only [h0, h4, h5, len_by hx, hlt, hsl, hnx, liti1, freshT_eq, happ, add_n, qaaz, qabz, qacz, qadz, qaez, qajz, qalz, evOp, qaoz, qapz, qaqz, qarz, qatz, qavz,
 ↓reduceIte, Nat.reduceEqDiff, List.map_cons, List.map_nil, Option.map_some, Option.map_none, qazz, qbdz, qbhz, qbpz, qbuz, decide_true, decide_false,
 Int.toNat_natCast, Int.ofNat_lt, Bool.false_eq_true, qcjz, List.getElem?_cons_zero, List.getElem?_cons_succ, reduceCtorEq, ne_eq, not_true_eq_false]
      refine loopQ_intro (m := l.length - (i + n)) (by omega) ?_
      rw [hI]
      refine ⟨i + n, k, _, acc ++ [p], rfl, by omega, by omega, by simp; omega, k2, b2, ?_, fun h => by simp at h, ?_, h0, h3, rfl, rfl⟩
      · rw [List.map_append]; exact o2
      · rw [hTT]
        cases ptsOf k l (i + n) with
        | ok r => simp
        | error j => rfl
  · obtain rfl : i = l.length := by omega
    have hTf : T = .ok acc := by
      rw [hTT]
      cases k with
      | zero => simp [ptsOf]
      | succ k => simp [ptsOf]
    obtain ⟨S2, a1, k1, b1, t1⟩ := FB.store (c := 0) (d := 0) hk hb
    have hld := b1.load
    have ho2 : Own st S2 1 v (acc.map ptV) := by
      rcases ho with h | ⟨i, h1, h2, h3⟩
      · exact .inl h
      · exact .inr ⟨i, h1, h2, by rw [t1]; exact h3⟩
    simp (maxSteps := 1000000) (disch := omega) only [h0, h3, h4, h5, len_by hx, hlt, build0i, a1, qaaz, qabz, qacz, qagz, qaiz, qajz, qalz, evOp, qaoz, qarz, qatz, qauz, qavz,
 ↓reduceIte, Nat.reduceEqDiff, List.map_nil, Option.map_some, qazz, qbbz, qbfz, qbhz, qbjz, qblz, qbpz, decide_false,
 Int.ofNat_lt, Bool.false_eq_true, reduceCtorEq]
    refine ⟨.tup [v, .agg [.int .i64 0, .int .i64 0]], ?_, ?_⟩
    · have hnt : notTup v = true := by rcases ho with ⟨rfl, _⟩ | ⟨i, rfl, _⟩ <;> rfl
      simp [resOf, rvAll, rv1, qavz, h3, hld, hnt, packRes]
      rfl
    · rw [hTf]; exact leave_ownA k1 ho2 hnil
end Go.Ab
/-
  Whether a text is one of points; where it can be cut.
-/
namespace Go.Ab
variable {st s : St} {e : Env}

def validOf (l : List UInt8) : Bool := match ptsOf (l.length + 1) l 0 with
  | .ok _ => true
  | .error _ => false

theorem pts_parts {l : List UInt8} {S : St} (hk : Kept st S) : ∃ w a S', ptsV S (ptsOf (l.length + 1) l 0) = (.tup [w, .agg [.int .i64 a, .int .i64 (if validOf l = true then 0 else 20)]], S') ∧ Kept st S' := by
  unfold validOf
  cases ptsOf (l.length + 1) l 0 with
  | ok ps =>
    refine ⟨_, 0, _, rfl, ?_⟩
    unfold newS; split
    · exact hk
    · exact hk.tok1
  | error j => exact ⟨_, _, _, rfl, hk⟩
theorem store_i2 {B : List (List PV)} {T : List Bool} {L : List LoopS} {lo : Nat} {a b : Int} : storePV ⟨B ++ [[.int .i64 0, .int .i64 0]], T, L, lo⟩ 2 (.ptr B.length 0) (.agg [.int .i64 a, .int .i64 b]) = some ⟨B ++ [[.int .i64 a, .int .i64 b]], T, L, lo⟩ := by
  simp [storePV, PV.cells, PV.inB, PV.inB.inBAll, leafOk, setCells, hasTok, tokOf]
theorem load_i1 {B : List (List PV)} {T : List Bool} {L : List LoopS} {lo : Nat} {a b : Int} : loadPV ⟨B ++ [[.int .i64 a, .int .i64 b]], T, L, lo⟩ false 1 (.ptr B.length 1) = some (.int .i64 b) := by
  simp [loadPV, readCells]

theorem uValid_spec {x : PV} {l : List UInt8} (hx : x.by = some l) (hl : l.length ≤ 100000000) : call prog (.fn 53 []) [x] st = some (.bool (validOf l), st) := by
  refine call_of_W prog_53 ?_
  unfold F_utf_Valid; dsimp only
  obtain ⟨w, a, S', h1, hk⟩ := pts_parts (l := l) (st := st) Kept.start
  have hp := uPoints_spec (st := { boxes := st.boxes, toks := st.toks, loops := st.loops, low := st.boxes.length }) hx hl
  rw [h1] at hp
  cases hv : validOf l with
  | true =>
    simp only [hv, if_true] at hp
    simp (maxSteps := 1000000) (disch := omega) only [hp, allocPV, store_i2, faddrPV, Nat.zero_add, load_i1, qaaz, qabz, qaiz, qajz, qalz, evOp, qaoz, qapz, qaqz, qarz, qatz, qauz, qavz,
 ↓reduceIte, Nat.reduceEqDiff, List.append_nil, List.map_cons, List.map_nil, qawz, Option.map_some, qazz, qblz, qbtz, decide_true, qcjz, List.getElem?_cons_zero, List.getElem?_cons_succ, reduceCtorEq]
    exact ⟨.bool true, rfl, hk.alloc.leave rfl (fun _ _ => rfl)⟩
  | false =>
    simp only [hv, Bool.false_eq_true, if_false] at hp
    simp (maxSteps := 1000000) (disch := omega) only [hp, allocPV, store_i2, faddrPV, Nat.zero_add, load_i1, qaaz, qabz, qaiz, qajz, qalz, evOp, qaoz, qapz, qaqz, qarz, qatz, qauz, qavz,
 ↓reduceIte, Nat.reduceEqDiff, List.append_nil, List.map_cons, List.map_nil, qawz, Option.map_some, qazz, qblz, qbtz, decide_false,
 qcjz, List.getElem?_cons_zero, List.getElem?_cons_succ, reduceCtorEq, Int.reduceEq]
    exact ⟨.bool false, rfl, hk.alloc.leave rfl (fun _ _ => rfl)⟩
theorem rValid_spec {x : PV} {l : List UInt8} (hx : x.by = some l) (hl : l.length ≤ 100000000) : call prog (.fn 74 []) [x] st = some (.bool (validOf l), st) := by
  refine call_of_W prog_74 ?_
  unfold F_posthornref02_Valid; dsimp only
  obtain ⟨w, a, S', h1, hk⟩ := pts_parts (l := l) (st := st) Kept.start
  have hp := rPoints_spec (st := { boxes := st.boxes, toks := st.toks, loops := st.loops, low := st.boxes.length }) hx hl
  rw [h1] at hp
  cases hv : validOf l with
  | true =>
    simp only [hv, if_true] at hp
    simp (maxSteps := 1000000) (disch := omega) only [hp, allocPV, store_i2, faddrPV, Nat.zero_add, load_i1, qaaz, qabz, qaiz, qajz, qalz, evOp, qaoz, qapz, qaqz, qarz, qatz, qauz, qavz,
 ↓reduceIte, Nat.reduceEqDiff, List.append_nil, List.map_cons, List.map_nil, qawz, Option.map_some, qazz, qblz, qbtz, decide_true, qcjz, List.getElem?_cons_zero, List.getElem?_cons_succ, reduceCtorEq]
    exact ⟨.bool true, rfl, hk.alloc.leave rfl (fun _ _ => rfl)⟩
  | false =>
    simp only [hv, Bool.false_eq_true, if_false] at hp
    simp (maxSteps := 1000000) (disch := omega) only [hp, allocPV, store_i2, faddrPV, Nat.zero_add, load_i1, qaaz, qabz, qaiz, qajz, qalz, evOp, qaoz, qapz, qaqz, qarz, qatz, qauz, qavz,
 ↓reduceIte, Nat.reduceEqDiff, List.append_nil, List.map_cons, List.map_nil, qawz, Option.map_some, qazz, qblz, qbtz, decide_false,
 qcjz, List.getElem?_cons_zero, List.getElem?_cons_succ, reduceCtorEq, Int.reduceEq]
    exact ⟨.bool false, rfl, hk.alloc.leave rfl (fun _ _ => rfl)⟩

def isCont (c : UInt8) : Prop := 128 ≤ c.toNat ∧ c.toNat < 192
instance {c : UInt8} : Decidable (isCont c) := by unfold isCont; infer_instance
def back (l : List UInt8) : Nat → Nat
  | 0 => 0
  | n + 1 => if n + 1 < l.length ∧ isCont (l.getD (n + 1) 0) then back l n else n + 1
theorem next_cont {l : List UInt8} {p n : Nat} (h : nextOf l = some (p, n)) : ¬ isCont (l.getD 0 0) ∧ ∀ j, 1 ≤ j → j < n → isCont (l.getD j 0) := by
  unfold nextOf at h
  split at h
  · cases h
  split at h
  · rename_i hc
    cases h
    exact ⟨fun hh => by unfold isCont at hh; omega, fun j h1 h2 => by omega⟩
  · rename_i hc
    simp only at h
    split at h
    · cases h
    · rename_i hcond
      simp only [not_or, Classical.not_not] at hcond
      cases h
      refine ⟨fun hh => ?_, fun j h1 h2 => ?_⟩
      · apply hcond.1
        unfold isCont at hh
        unfold lead
        rw [if_neg (by omega), if_neg (by omega), if_neg (by omega)]
      · have := hcond.2.2.1 (j - 1) (by omega)
        rw [show j - 1 + 1 = j by omega] at this
        exact this

end Go.Ab
/-
  Messages, plain: which may be, whose a method is, what is wrong with a message.
-/
namespace Go.Ab

abbrev sADD : Bs := [65, 68, 68]
abbrev sCAN : Bs := [67, 65, 78, 67, 69, 76]
abbrev sCOU : Bs := [67, 79, 85, 78, 84, 69, 82]
abbrev sDEC : Bs := [68, 69, 67, 76, 73, 78, 69, 67, 79, 85, 78, 84, 69, 82]
abbrev sPUB : Bs := [80, 85, 66, 76, 73, 83, 72]
abbrev sREF : Bs := [82, 69, 70, 82, 69, 83, 72]
abbrev sREP : Bs := [82, 69, 80, 76, 89]
abbrev sREQ : Bs := [82, 69, 81, 85, 69, 83, 84]
abbrev sNEE : Bs := [78, 69, 69, 68, 83, 45, 65, 67, 84, 73, 79, 78]
abbrev sACC : Bs := [65, 67, 67, 69, 80, 84, 69, 68]
abbrev sDCL : Bs := [68, 69, 67, 76, 73, 78, 69, 68]
abbrev sTEN : Bs := [84, 69, 78, 84, 65, 84, 73, 86, 69]

structure MD where
  (me uid : Bs) (seq stamp recur : Int) (org : Bs) (att : List (Bs × Bs)) (sta fin : Int) (sum com : Bs)

def personB (s : Bs) : Bool := decide ((plainA s).2 = 0) && decide (lowOf s = s)
def answerB (s : Bs) : Bool := decide (s = sNEE) || decide (s = sACC) || decide (s = sDCL) || decide (s = sTEN)
def mtC (c : UInt8) : Bool := !decide (c < 65) && !decide (90 < c)
def methB (l : Bs) : Bool := l.all mtC && decide (1 ≤ l.length) && decide (l.length ≤ 32)
def uiC (c : UInt8) : Bool := !decide (c < 33) && !decide (126 < c) && !decide (c = 92) && !decide (c = 59) && !decide (c = 44)
def uidB (l : Bs) : Bool := l.all uiC && decide (1 ≤ l.length) && decide (l.length ≤ 200)
def noC (c : UInt8) : Bool := !(decide (c < 32) && !decide (c = 9) && !decide (c = 10)) && !decide (c = 127)
def noteB (l : Bs) : Bool := l.all noC && decide (l.length ≤ 1000) && validOf l
def timeB (t : Int) : Bool := decide (0 ≤ t ∧ t ≤ 253402300799)
def optB (t : Int) : Bool := decide (t = -1) || timeB t
def pairB (a : Bs × Bs) : Bool := personB a.1 && answerB a.2
def freshB : List Bs → List (Bs × Bs) → Bool
  | _, [] => true
  | seen, a :: r => pairB a && !seen.contains a.1 && freshB (seen ++ [a.1]) r
def peopleB (l : List (Bs × Bs)) : Bool := freshB [] l && decide (l.length ≤ 32)
def seqB (n : Int) : Bool := decide (0 ≤ n) && decide (n ≤ 2147483647)
def timesB (m : MD) : Bool := timeB m.stamp && optB m.recur && optB m.sta && optB m.fin
def spanB (m : MD) : Bool := decide (m.fin = -1) || (!decide (m.sta = -1) && decide (m.sta < m.fin))
def orgB (s : Bs) : Bool := decide (s = []) || personB s
def rightM (m : MD) : Bool := methB m.me && uidB m.uid && seqB m.seq && timesB m && spanB m && orgB m.org && peopleB m.att && noteB m.sum && noteB m.com
def pairG (a : Bs × Bs) : Bool := decide (a.1.length + a.2.length ≤ 600)
def greatM (m : MD) : Bool := decide (60 < m.att.length) || decide (1000 < m.me.length + m.uid.length) || decide (1000 < m.org.length) || decide (4000 < m.sum.length + m.com.length) || !m.att.all pairG

def roleO (s : Bs) : Bool := decide (s = sPUB) || decide (s = sREQ) || decide (s = sADD) || decide (s = sCAN) || decide (s = sDEC)
def roleA (s : Bs) : Bool := decide (s = sREP) || decide (s = sREF) || decide (s = sCOU)
def roleOf (s : Bs) : Int := if roleO s = true then 1 else if roleA s = true then 2 else 0
structure Nd where
  (lo hi : Int) (re st ti : Bool)
def needOf (s : Bs) : Nd :=
  if s = sPUB then ⟨0, 0, false, true, false⟩ else if s = sREQ then ⟨1, 32, false, true, false⟩ else if s = sADD then ⟨1, 32, true, true, false⟩
  else if s = sCAN then ⟨0, 32, false, false, false⟩ else if s = sREF then ⟨1, 1, false, false, true⟩ else if s = sCOU then ⟨1, 1, false, true, false⟩ else ⟨1, 1, false, false, false⟩
def partB (m : MD) : Bool := decide (m.me = sREP) && decide ((m.att.getD 0 ([], [])).2 = sNEE)
def checkM (m : MD) : Int :=
  if rightM m = false then 120 else if roleOf m.me = 0 then 130
  else if m.org = [] ∨ (m.att.length : Int) < (needOf m.me).lo then 131
  else if (needOf m.me).hi < (m.att.length : Int) then 132
  else if partB m = true then 3
  else if ((needOf m.me).re = true ∧ m.recur < 0) ∨ ((needOf m.me).st = true ∧ m.sta < 0) then 131
  else if (needOf m.me).ti = true ∧ 0 ≤ m.sta then 132 else 0
def newerB (s t r u : Int) : Bool := decide (r < s) || (decide (s = r) && decide (u < t))
def senderM (m : MD) : Bs × Int := if checkM m = 0 then (if roleOf m.me = 2 then ((m.att.getD 0 ([], [])).1, 0) else (m.org, 0)) else ([], checkM m)

/- the document's answer -/
def fewM (m : MD) : Bool := decide (m.att.length = 0) && !decide (m.me = sPUB) && !decide (m.me = sCAN)
def manyM (m : MD) : Bool := if m.me = sPUB then decide (0 < m.att.length) else decide (1 < m.att.length) && (decide (roleOf m.me = 2) || decide (m.me = sDEC))
def tlessM (m : MD) : Bool := if m.me = sADD ∧ m.recur = -1 then true else (decide (m.me = sPUB) || decide (m.me = sREQ) || decide (m.me = sADD) || decide (m.me = sCOU)) && decide (m.sta = -1)
def rcheckM (m : MD) : Int :=
  if rightM m = false then 120 else if roleOf m.me = 0 then 130
  else if m.org = [] ∨ fewM m = true then 131 else if manyM m = true then 132 else if partB m = true then 3
  else if tlessM m = true then 131 else if m.me = sREF ∧ m.sta ≠ -1 then 132 else 0

theorem opt_neg {t : Int} (h : optB t = true) : t = -1 ∨ 0 ≤ t := by
  simp only [optB, timeB, Bool.or_eq_true, decide_eq_true_eq] at h
  omega
theorem right_times {m : MD} (h : rightM m = true) : (m.recur = -1 ∨ 0 ≤ m.recur) ∧ (m.sta = -1 ∨ 0 ≤ m.sta) ∧ m.att.length ≤ 32 := by
  simp only [rightM, timesB, peopleB, Bool.and_eq_true, decide_eq_true_eq] at h
  exact ⟨opt_neg h.1.1.1.1.1.2.1.1.2, opt_neg h.1.1.1.1.1.2.1.2, h.1.1.2.2⟩
theorem role_cases {s : Bs} (h : ¬ roleOf s = 0) : s = sPUB ∨ s = sREQ ∨ s = sADD ∨ s = sCAN ∨ s = sDEC ∨ s = sREP ∨ s = sREF ∨ s = sCOU := by
  unfold roleOf at h
  by_cases h1 : roleO s = true
  · simp only [roleO, Bool.or_eq_true, decide_eq_true_eq] at h1
    rcases h1 with (((h1 | h1) | h1) | h1) | h1 <;> simp [h1]
  · by_cases h2 : roleA s = true
    · simp only [roleA, Bool.or_eq_true, decide_eq_true_eq] at h2
      rcases h2 with (h2 | h2) | h2 <;> simp [h2]
    · rw [if_neg h1, if_neg h2] at h; exact absurd rfl h

theorem rcheck_eq (m : MD) : rcheckM m = checkM m := by
  unfold rcheckM checkM
  by_cases hr : rightM m = false
  · rw [if_pos hr, if_pos hr]
  rw [if_neg hr, if_neg hr]
  obtain ⟨t1, t2, t3⟩ := right_times (m := m) (by simpa using hr)
  by_cases h0 : roleOf m.me = 0
  · rw [if_pos h0, if_pos h0]
  rw [if_neg h0, if_neg h0]
  obtain ⟨me, uid, seq, stamp, recur, org, att, sta, fin, sum, com⟩ := m
  simp only at t1 t2 t3 h0 ⊢
  have hc := role_cases h0
  clear h0 hr
  obtain ⟨N, hN⟩ : ∃ N, N = att.length := ⟨_, rfl⟩
  have e0 : (att = []) = (N = 0) := by rw [hN]; exact propext List.length_eq_zero_iff.symm
  have e1 : ((N : Int) < 1) = (N = 0) := by apply propext; omega
  have e2 : ((N : Int) < 0) = False := eq_false (by omega)
  have e3 : ((32 : Int) < (N : Int)) = False := eq_false (by omega)
  have e4 : ((1 : Int) < (N : Int)) = (1 < N) := by apply propext; omega
  have e5 : (sta = -1) = (sta < 0) := by apply propext; omega
  have e6 : (recur = -1) = (recur < 0) := by apply propext; omega
  have e7 : (0 ≤ sta) = ¬ (sta < 0) := by apply propext; omega
  rcases hc with rfl | rfl | rfl | rfl | rfl | rfl | rfl | rfl <;>
    simp (config := { decide := true }) [fewM, manyM, tlessM, partB, needOf, roleOf, roleO, roleA] <;> rw [← hN] <;> simp only [e0, e1, e2, e3, e4, e5, e6, e7, or_false, if_false, ite_not]

end Go.Ab
/-
  Ids: plain.
-/
namespace Go.Ab

theorem split_none {sep : UInt8} : ∀ (l acc : Bs), (∀ c ∈ l, c ≠ sep) → splitOn sep acc l = [acc ++ l]
  | [], acc, _ => by simp [splitOn]
  | c :: r, acc, h => by
    rw [splitOn, if_neg (h c (by simp)), split_none r _ fun x hx => h x (by simp [hx])]; simp
theorem split_at {sep : UInt8} (r : Bs) : ∀ (l acc : Bs), (∀ c ∈ l, c ≠ sep) → splitOn sep acc (l ++ sep :: r) = (acc ++ l) :: splitOn sep [] r
  | [], acc, _ => by simp [splitOn]
  | c :: l, acc, h => by
    rw [List.cons_append, splitOn, if_neg (h c (by simp)), split_at r l _ fun x hx => h x (by simp [hx])]; simp

end Go.Ab
/-
  strings.Cut.
-/
namespace Go.Ab
variable {st : St} {e : Env}

theorem faP {n k b : Nat} : faddrPV n (.ptr b k) = some (.ptr b (k + n)) := rfl
theorem index_room' : ∀ (a b : List UInt8), 0 ≤ Lib.index a b → Lib.index a b + b.length ≤ a.length := by
  intro a b
  induction a with
  | nil =>
    intro h
    cases b with
    | nil => simp [Lib.index]
    | cons c r => simp [Lib.index] at h
  | cons c r ih =>
    intro h
    by_cases hp : b.isPrefixOf (c :: r) = true
    · have := (List.isPrefixOf_iff_prefix.1 hp).length_le
      rw [Lib.index, if_pos hp]; omega
    · have hp2 : b.isPrefixOf (c :: r) = false := Bool.eq_false_iff.2 hp
      rw [Lib.index, hp2] at h ⊢
      by_cases hq : (Lib.index r b == -1) = true
      · rw [hq] at h; simp at h
      · have hq2 : (Lib.index r b == -1) = false := by simpa using hq
        rw [hq2] at h ⊢
        simp only [Bool.false_eq_true, if_false] at h ⊢
        have hge := Lib.index_ge r b
        have hne : Lib.index r b ≠ -1 := by simpa using hq2
        have := ih (by omega)
        simp only [List.length_cons]; omega
def cutAt (a b : List UInt8) : PV := if 0 ≤ Lib.index a b then .tup [.str (a.take (Lib.index a b).toNat), .str (a.drop ((Lib.index a b).toNat + b.length)), .bool true] else .tup [.str a, .str [], .bool false]
theorem sCut_spec {a b : List UInt8} (h : a.length < 4294967281) (hb : b.length < 4294967281) : call prog (.fn 135 []) [.str a, .str b] st = some (cutAt a b, st) := by
  refine call_of_W prog_135 ?_
  unfold F_internal_stringslite_Cut; dsimp only
  have hroom := index_room' a b
  by_cases h0 : 0 ≤ Lib.index a b
  · have hr := hroom h0
    obtain ⟨k, hk⟩ : ∃ k : Nat, Lib.index a b = (k : Int) := ⟨(Lib.index a b).toNat, by omega⟩
    rw [hk] at hr
    have hadd : ∀ ek, binPV .add ek (.int .i64 (k : Int)) (.int .i64 (b.length : Int)) = some (.int .i64 ((k + b.length : Nat) : Int)) := fun ek => by
      rw [add_i (by omega) (by omega)]; simp
    have e1 : (0 : Int) ≤ (k : Int) := by omega
    simp (maxSteps := 1000000) (disch := omega) only [strIndex_spec h, hk, e1, len_s, hadd, slc_s_lo, slc_s_hi, qaaz, qabz, qacz, qaiz, qajz, qalz, evOp, qaoz, qapz, qaqz, qarz, qatz, qavz,
 ↓reduceIte, Nat.reduceEqDiff, List.append_nil, List.map_cons, List.map_nil, qawz, qaxz, Option.map_some, Option.map_none, qazz, qbaz, qbhz, qblz, qbsz, decide_true, Int.toNat_natCast, reduceCtorEq]
    rw [show cutAt a b = .tup [.str (a.take k), .str (a.drop (k + b.length)), .bool true] by simp [cutAt, hk]]
    exact end3 rfl rfl rfl Kp_str Kp_str Kp_bool
  · simp (maxSteps := 1000000) (disch := omega) only [strIndex_spec h, h0, qaaz, qabz, qacz, qaez, qaiz, qajz, qalz, evOp, qaoz, qapz, qaqz, qarz, qatz, qavz,
 ↓reduceIte, Nat.reduceEqDiff, List.append_nil, List.map_cons, List.map_nil, qawz, qaxz, Option.map_some, qazz, qbhz, qblz, qbsz, decide_false,
 Bool.false_eq_true, reduceCtorEq]
    rw [show cutAt a b = .tup [.str a, .str [], .bool false] by simp [cutAt, h0]]
    exact end3 rfl rfl rfl Kp_str Kp_str Kp_bool
theorem Cut_spec {a b : List UInt8} (h : a.length < 4294967281) (hb : b.length < 4294967281) : call prog (.fn 128 []) [.str a, .str b] st = some (cutAt a b, st) := by
  refine call_of_W prog_128 ?_
  unfold F_strings_Cut; dsimp only
  by_cases h0 : 0 ≤ Lib.index a b
  · have hc : cutAt a b = .tup [.str (a.take (Lib.index a b).toNat), .str (a.drop ((Lib.index a b).toNat + b.length)), .bool true] := by simp [cutAt, h0]
    simp (maxSteps := 1000000) (disch := omega) only [sCut_spec h hb, hc, qaaz, qabz, qaiz, qajz, qalz, evOp, qaoz, qapz, qaqz, qarz, qatz, qavz,
 ↓reduceIte, Nat.reduceEqDiff, List.append_nil, List.map_cons, List.map_nil, qawz, qaxz, Option.map_some, qazz, qblz, qcjz, List.getElem?_cons_zero, List.getElem?_cons_succ, reduceCtorEq]
    exact end3 rfl rfl rfl Kp_str Kp_str Kp_bool
  · have hc : cutAt a b = .tup [.str a, .str [], .bool false] := by simp [cutAt, h0]
    simp (maxSteps := 1000000) (disch := omega) only [sCut_spec h hb, hc, qaaz, qabz, qaiz, qajz, qalz, evOp, qaoz, qapz, qaqz, qarz, qatz, qavz,
 ↓reduceIte, Nat.reduceEqDiff, List.append_nil, List.map_cons, List.map_nil, qawz, qaxz, Option.map_some, qazz, qblz, qcjz, List.getElem?_cons_zero, List.getElem?_cons_succ, reduceCtorEq]
    exact end3 rfl rfl rfl Kp_str Kp_str Kp_bool

end Go.Ab
/-
  Rules that part the ways of a run: each way under what it was taken for.
-/
namespace Go.Ab
variable {A : AP} {st : St} {e : Env}

def guardW (A : AP) (v : PV) (g : Nat) (b : Bool) (d : Option Nat) (op : AOp) (r : List AOper) (e : Env) (st : St) (Q : Env → St → Prop) : Prop := match v with
  | .bool t => if t = b then WN A (evOp (call A) op e st) d r e Q else WO A r (updO e d .undef) st Q
  | _ => WO A r (updO e d .undef) st Q
def guardT (A : AP) (t : Bool) (b : Bool) (d : Option Nat) (op : AOp) (r : List AOper) (e : Env) (st : St) (Q : Env → St → Prop) : Prop := match t, b with
  | true, true => WN A (evOp (call A) op e st) d r e Q
  | false, false => WN A (evOp (call A) op e st) d r e Q
  | _, _ => WO A r (updO e d .undef) st Q
theorem qcnz {d : Option Nat} {op : AOp} {r : List AOper} {Q : Env → St → Prop} : guardT A true true d op r e st Q = WN A (evOp (call A) op e st) d r e Q := rfl
theorem qcoz {d : Option Nat} {op : AOp} {r : List AOper} {Q : Env → St → Prop} : guardT A false false d op r e st Q = WN A (evOp (call A) op e st) d r e Q := rfl
theorem qcpz {d : Option Nat} {op : AOp} {r : List AOper} {Q : Env → St → Prop} : guardT A true false d op r e st Q = WO A r (updO e d .undef) st Q := rfl
theorem qcqz {d : Option Nat} {op : AOp} {r : List AOper} {Q : Env → St → Prop} : guardT A false true d op r e st Q = WO A r (updO e d .undef) st Q := rfl

theorem WO_consG2 {d : Option Nat} {op : AOp} {g : Nat} {b : Bool} {r : List AOper} {Q : Env → St → Prop} : WO A (⟨d, op, some (g, b)⟩ :: r) e st Q = guardW A (e g) g b d op r e st Q := by
  rw [qakz, qamz]
  unfold guardW qanz
  cases e g with
  | bool c => simp
  | _ => simp
theorem upd_self {g : Nat} {v : PV} (h : e g = v) : upd e g v = e := by
  funext t
  simp only [upd]
  split
  · rename_i h1; rw [h1, h]
  · rfl
theorem guardW_bool {t : Bool} {g : Nat} {b : Bool} {d : Option Nat} {op : AOp} {r : List AOper} {Q : Env → St → Prop} (h : e g = .bool t) : guardW A (.bool t) g b d op r e st Q =
    ((t = true → guardT A true b d op r (upd e g (.bool true)) st Q) ∧ (t = false → guardT A false b d op r (upd e g (.bool false)) st Q)) := by
  cases t with
  | true =>
    rw [upd_self h]
    cases b <;> simp [guardW, guardT]
  | false =>
    rw [upd_self h]
    cases b <;> simp [guardW, guardT]
def guardV (A : AP) (v : PV) (g : Nat) (b : Bool) (d : Option Nat) (op : AOp) (r : List AOper) (e : Env) (st : St) (Q : Env → St → Prop) : Prop := match v with
  | .bool t => (t = true → guardT A true b d op r (upd e g (.bool true)) st Q) ∧ (t = false → guardT A false b d op r (upd e g (.bool false)) st Q)
  | _ => WO A r (updO e d .undef) st Q
theorem qclz {d : Option Nat} {op : AOp} {g : Nat} {b : Bool} {r : List AOper} {Q : Env → St → Prop} : WO A (⟨d, op, some (g, b)⟩ :: r) e st Q = guardV A (e g) g b d op r e st Q := by
  rw [WO_consG2]
  cases h : e g with
  | bool t => rw [guardW_bool h]; rfl
  | _ => rfl
theorem qcmz {t : Bool} {g : Nat} {b : Bool} {d : Option Nat} {op : AOp} {r : List AOper} {Q : Env → St → Prop} : guardV A (.bool t) g b d op r e st Q =
    ((t = true → guardT A true b d op r (upd e g (.bool true)) st Q) ∧ (t = false → guardT A false b d op r (upd e g (.bool false)) st Q)) := rfl
theorem qcrz {t : Bool} {a b : ACode} {Q : Ex → Env → St → Prop} : condW A (.bool t) a b e st Q = ((t = true → W A a e st Q) ∧ (t = false → W A b e st Q)) := by
  cases t <;> simp [condW]
theorem qcwz {p : Prop} : (False → p) = True := by simp
end Go.Ab
/-
  Helpers: how a call ends, cuts of which a first part may return.
-/
namespace Go.Ab
variable {st s : St} {e : Env}

theorem ret1 {a : Nat} {v : PV} (ha : e a = v) (hnt : notTup v = true) (hk : Kept st s) (hf : Flat v) : ∃ rv, resOf e s [.tmp a] = some rv ∧ leave st s rv = (v, st) :=
  ⟨v, by simp [resOf, rvAll, rv1, ha, hnt, packRes], hk.leave' hf⟩
theorem retB {a : Nat} {b c : Bool} (ha : e a = .bool b) (hk : Kept st s) (hb : b = c) : ∃ rv, resOf e s [.tmp a] = some rv ∧ leave st s rv = (.bool c, st) := by
  subst hb; exact ret1 ha rfl hk ⟨fun _ => rfl, fun _ _ => rfl⟩
theorem retS {a : Nat} {b c : List UInt8} (ha : e a = .str b) (hk : Kept st s) (hb : b = c) : ∃ rv, resOf e s [.tmp a] = some rv ∧ leave st s rv = (.str c, st) := by
  subst hb; exact ret1 ha rfl hk ⟨fun _ => rfl, fun _ _ => rfl⟩
theorem retI {a : Nat} {k : IntKind} {b c : Int} (ha : e a = .int k b) (hk : Kept st s) (hb : b = c) : ∃ rv, resOf e s [.tmp a] = some rv ∧ leave st s rv = (.int k c, st) := by
  subst hb; exact ret1 ha rfl hk ⟨fun _ => rfl, fun _ _ => rfl⟩
theorem ret2 {a b : Nat} {v w : PV} (ha : e a = v) (hb : e b = w) (h1 : notTup v = true) (h2 : notTup w = true) (hk : Kept st s) (hf : Flat (.tup [v, w])) : ∃ rv, resOf e s [.tmp a, .tmp b] = some rv ∧ leave st s rv = (.tup [v, w], st) :=
  ⟨.tup [v, w], by simp [resOf, rvAll, rv1, ha, hb, h1, h2, packRes], hk.leave' hf⟩
theorem retSI {a b : Nat} {t u : List UInt8} {n m : Int} (ha : e a = .str t) (hb : e b = .int .i64 n) (hk : Kept st s) (h1 : t = u) (h2 : n = m) : ∃ rv, resOf e s [.tmp a, .tmp b] = some rv ∧ leave st s rv = (.tup [.str u, .int .i64 m], st) := by
  subst h1 h2; exact ret2 ha hb rfl rfl hk ⟨fun _ => rfl, fun _ _ => rfl⟩
theorem Kept.box {S : St} {z : List PV} (h : Kept st S) (hbx : S.boxes.length = st.boxes.length + 1) : Kept st ⟨st.boxes ++ [z], S.toks, S.loops, S.low⟩ := ⟨by simp, h.lp, h.lw, h.tk⟩
theorem W_cutR {A : AP} {a b : ACode} {Q : Ex → Env → St → Prop} (M : Env → St → Prop) (h1 : W A a e st (fun x e' s' => (x = .normal ∧ M e' s') ∨ (x = .ret ∧ Q .ret e' s'))) (h2 : ∀ e' s', M e' s' → W A b e' s' Q) : W A (.seq a b) e st Q := by
  rw [qaaz]
  refine W_mono h1 ?_
  rintro x e s (⟨rfl, h⟩ | ⟨rfl, h⟩)
  · exact h2 e s h
  · rw [qbaz]; exact h
theorem Kept.toks {T : List Bool} (h : Kept st s) : Kept st ⟨s.boxes, s.toks ++ T, s.loops, s.low⟩ := by
  refine ⟨h.bx, h.lp, h.lw, ?_⟩
  have h1 := h.tk
  have h2 : st.toks.length ≤ s.toks.length := by have := congrArg List.length h1; simp at this; omega
  simp only [List.take_append_of_le_length h2]
  exact h1
end Go.Ab
/-
  Signs, atoms, labels, names; parts of a text.
-/
namespace Go.Ab
variable {st s : St} {e : Env}

theorem alnum_spec {c : UInt8} : call prog (.fn 134 []) [.b8 c] st = some (.bool (alnC c), st) := by
  refine call_of_W prog_134 ?_
  unfold F_addr_alnum; dsimp only
  have fin : ∀ {E : Env} (b : Bool), E 2 = .bool b → b = alnC c → ∃ rv, resOf E { boxes := st.boxes, toks := st.toks, loops := st.loops, low := st.boxes.length } [.tmp 2] = some rv ∧ leave st { boxes := st.boxes, toks := st.toks, loops := st.loops, low := st.boxes.length } rv = (.bool (alnC c), st) :=
    fun b h hb => retB h Kept.start hb
  simp (maxSteps := 1000000) (disch := omega) only [qaaz, qabz, qacz, qadz, qaez, qagz, qaiz, qajz, qclz, qcmz, qcnz, qcqz, qcrz, qcwz, forall_const, qalz, evOp, qaoz, qapz, qarz, qatz, qavz,
 ↓reduceIte, Nat.reduceEqDiff, List.append_nil, qawz, Option.map_some, qazz, qbaz, qbbz, qbdz, qbez, qbfz, qblz, qbyz, qcaz, decide_eq_true_eq, decide_eq_false_iff_not, Bool.false_eq_true, Bool.true_eq_false, true_and, and_true, reduceCtorEq]
  repeat' (first | refine And.intro ?_ ?_ | intro q)
  all_goals first | exact fin true rfl (by simp only [alnC, *, decide_true, decide_false, Bool.and_true, Bool.and_false, Bool.false_and, Bool.or_true, Bool.true_or, Bool.or_false]) | exact fin false rfl (by simp only [alnC, *, decide_true, decide_false, Bool.and_false, Bool.false_and, Bool.or_false])

theorem signs_neg {c : UInt8} : (Lib.indexByte [33, 35, 36, 37, 38, 39, 42, 43, 45, 47, 61, 63, 94, 95, 123, 124, 125, 126, 96] c < 0) = (signs.contains c = false) := by
  have := all8 (p := fun c => decide (Lib.indexByte [33, 35, 36, 37, 38, 39, 42, 43, 45, 47, 61, 63, 94, 95, 123, 124, 125, 126, 96] c < 0) == !signs.contains c) (by kernel_rfl) c
  simp only [beq_iff_eq] at this
  apply propext
  constructor
  · intro h; simp only [h, decide_true] at this; simpa using this.symm
  · intro h; rw [h] at this; simpa using this

theorem isAtom_spec {l : List UInt8} (hl : l.length ≤ 100000000) : call prog (.fn 125 []) [.str l] st = some (.bool (atomB l), st) := by
  refine call_of_W prog_125 ?_
  unfold F_addr_isAtom; dsimp only
  simp (maxSteps := 1000000) (disch := omega) only [len_s, qaaz, qabz, qadz, qajz, qalz, evOp, qaoz, qapz, qarz, qatz, qavz,
 ↓reduceIte, List.append_nil, qawz, Option.map_some, qazz, reduceCtorEq]
  obtain ⟨I, hI⟩ : ∃ I : Nat → Env → St → Prop, I = fun k e s' => ∃ (i : Nat), k = l.length - i ∧ i ≤ l.length ∧ Kept st s' ∧ (∀ j, j < i → atC (l.getD j 0) = true) ∧ e 0 = .str l ∧ e 5 = .int .i64 (l.length : Int) ∧ e 6 = .int .i64 (i : Int) := ⟨_, rfl⟩
  refine W_loop I ?_ (n := l.length) (by
    rw [hI]
    exact ⟨0, rfl, by omega, Kept.start, fun j h => by omega, rfl, rfl, rfl⟩)
  intro k e s' hh
  rw [hI] at hh
  obtain ⟨i, rfl, hi, hk, hall, h0, h5, h6⟩ := hh
  by_cases hlt : i < l.length
  · obtain ⟨c, hc⟩ : ∃ c, c = l.getD i 0 := ⟨_, rfl⟩
    have bad : atC c = false → ∀ E : Env, E 2 = .bool false → ∃ rv, resOf E s' [.tmp 2] = some rv ∧ leave st s' rv = (.bool (atomB l), st) := fun h E k2 =>
      retB k2 hk (by simp only [atomB, all_bad (p := atC) hlt (by rw [← hc]; exact h), Bool.false_and])
    have next : atC c = true → ∀ E : Env, E 0 = .str l → E 5 = .int .i64 (l.length : Int) → E 6 = .int .i64 ((i + 1 : Nat) : Int) → ∃ m, m < l.length - i ∧ I m E s' := fun h E k0 k5 k6 =>
      ⟨l.length - (i + 1), by omega, by
        rw [hI]
        refine ⟨i + 1, rfl, by omega, hk, fun j hj => ?_, k0, k5, k6⟩
        by_cases hji : j = i
        · subst hji; rw [← hc]; exact h
        · exact hall j (by omega)⟩
    simp (maxSteps := 1000000) (disch := omega) only [h0, h5, h6, hlt, idx_s, ← hc, alnum_spec, strIndexByte_spec, signs_neg, add_n, loopQ_normal, qaaz, qabz, qacz, qadz, qaez, qagz, qaiz, qajz, qclz, qcmz, qcnz, qcqz, qcrz, qcwz, forall_const, Bool.not_eq_false', qalz, evOp, qaoz, qapz, qaqz, qarz, qatz, qavz,
 ↓reduceIte, Nat.reduceEqDiff, List.map_cons, List.map_nil, Option.map_some, qazz, qbaz, qbbz, qbdz, qbez, qbfz, qbiz, qbjz, qblz, qbpz, qccz, qcfz, Bool.not_eq_true', decide_eq_true_eq, decide_eq_false_iff_not, decide_true, Int.toNat_natCast, Int.ofNat_lt, Bool.false_eq_true, Bool.true_eq_false, Int.reduceToNat, true_and, and_true, reduceCtorEq, ne_eq]
    clear hc hall hI
    repeat' (first | refine And.intro ?_ ?_ | intro q)
    all_goals first | exact bad (by simp only [atC, *, Bool.or_true, Bool.true_or, Bool.or_false]) _ rfl | exact next (by simp only [atC, *, Bool.or_true, Bool.true_or]) _ h0 h5 rfl | (exfalso; simp_all; done)
  · obtain rfl : i = l.length := by omega
    simp (maxSteps := 1000000) (disch := omega) only [h0, h5, h6, hlt, qaaz, qabz, qacz, qadz, qaez, qagz, qaiz, qajz, qcrz, qcwz, forall_const, qalz, evOp, qaoz, qapz, qarz, qatz, qavz,
 ↓reduceIte, Nat.reduceEqDiff, Option.map_some, qazz, qbbz, qbfz, qbjz, qblz, qbpz, qccz, decide_false,
 Int.ofNat_lt, Bool.false_eq_true, true_and, reduceCtorEq, ne_eq]
    refine retB rfl hk ?_
    simp only [atomB, all_getD (p := atC) hall, Bool.true_and]
    cases l <;> rfl

theorem isLabel_spec {l : List UInt8} (hl : l.length ≤ 100000000) : call prog (.fn 126 []) [.str l] st = some (.bool (labB l), st) := by
  refine call_of_W prog_126 ?_
  unfold F_addr_isLabel; dsimp only
  simp (maxSteps := 1000000) (disch := omega) only [len_s, qaaz, qabz, qadz, qajz, qalz, evOp, qaoz, qapz, qarz, qatz, qavz,
 ↓reduceIte, List.append_nil, qawz, Option.map_some, qazz, reduceCtorEq]
  obtain ⟨I, hI⟩ : ∃ I : Nat → Env → St → Prop, I = fun k e s' => ∃ (i : Nat), k = l.length - i ∧ i ≤ l.length ∧ Kept st s' ∧ (∀ j, j < i → labC (l.getD j 0) = true) ∧ e 0 = .str l ∧ e 5 = .int .i64 (l.length : Int) ∧ e 6 = .int .i64 (i : Int) := ⟨_, rfl⟩
  refine W_loop I ?_ (n := l.length) (by
    rw [hI]
    exact ⟨0, rfl, by omega, Kept.start, fun j h => by omega, rfl, rfl, rfl⟩)
  intro k e s' hh
  rw [hI] at hh
  obtain ⟨i, rfl, hi, hk, hall, h0, h5, h6⟩ := hh
  by_cases hlt : i < l.length
  · obtain ⟨c, hc⟩ : ∃ c, c = l.getD i 0 := ⟨_, rfl⟩
    have bad : labC c = false → ∀ E : Env, E 2 = .bool false → ∃ rv, resOf E s' [.tmp 2] = some rv ∧ leave st s' rv = (.bool (labB l), st) := fun h E k2 =>
      retB k2 hk (by simp only [labB, all_bad (p := labC) hlt (by rw [← hc]; exact h), Bool.false_and])
    have next : labC c = true → ∀ E : Env, E 0 = .str l → E 5 = .int .i64 (l.length : Int) → E 6 = .int .i64 ((i + 1 : Nat) : Int) → ∃ m, m < l.length - i ∧ I m E s' := fun h E k0 k5 k6 =>
      ⟨l.length - (i + 1), by omega, by
        rw [hI]
        refine ⟨i + 1, rfl, by omega, hk, fun j hj => ?_, k0, k5, k6⟩
        by_cases hji : j = i
        · subst hji; rw [← hc]; exact h
        · exact hall j (by omega)⟩
    simp (maxSteps := 1000000) (disch := omega) only [h0, h5, h6, hlt, idx_s, ← hc, alnum_spec, add_n, loopQ_normal, qaaz, qabz, qacz, qadz, qaez, qagz, qaiz, qajz, qclz, qcmz, qcnz, qcqz, qcrz, qcwz, Decidable.not_not, forall_const, Bool.not_eq_false', qalz, evOp, qaoz, qapz, qaqz, qarz, qatz, qavz,
 ↓reduceIte, Nat.reduceEqDiff, List.map_cons, List.map_nil, Option.map_some, qazz, qbaz, qbbz, qbdz, qbez, qbfz, qbiz, qbjz, qblz, qbpz, qbwz, qccz, qcfz, Bool.not_eq_true', decide_eq_true_eq, decide_eq_false_iff_not, decide_true, Int.toNat_natCast, Int.ofNat_lt, Bool.false_eq_true, Bool.true_eq_false, Int.reduceToNat, true_and, and_true, reduceCtorEq, ne_eq]
    clear hc hall hI
    repeat' (first | refine And.intro ?_ ?_ | intro q)
    all_goals first | exact bad (by simp only [labC, *, decide_true, decide_false, Bool.or_true, Bool.true_or, Bool.or_false]) _ rfl | exact next (by simp only [labC, *, decide_true, Bool.or_true, Bool.true_or]) _ h0 h5 rfl | (exfalso; simp_all; done)
  · obtain rfl : i = l.length := by omega
    have ha := all_getD (p := labC) hall
    by_cases hn : l = []
    · simp (maxSteps := 1000000) (disch := omega) only [h0, h5, h6, hlt, eq_true hn, qaaz, qabz, qacz, qadz, qaez, qagz, qaiz, qajz, qclz, qcmz, qcnz, qcqz, qcrz, qcwz, forall_const, qalz, evOp, qaoz, qapz, qarz, qatz, qavz,
 ↓reduceIte, Nat.reduceEqDiff, Option.map_some, qazz, qbbz, qbfz, qbjz, qblz, qbpz, qccz, decide_false,
 Int.ofNat_lt, Bool.false_eq_true, Bool.true_eq_false, true_and, and_true, reduceCtorEq, ne_eq, not_true_eq_false]
      exact retB rfl hk (by simp [labB, hn])
    · have hp := List.length_pos_iff.2 hn
      have hsub : ∀ ek, binPV .sub ek (.int .i64 (l.length : Int)) (.int .i64 1) = some (.int .i64 ((l.length - 1 : Nat) : Int)) := fun ek => by
        rw [sub_n (by omega) (by simp; omega) (by omega)]; rfl
      have he : l.isEmpty = false := by cases l with | nil => exact absurd rfl hn | cons a r => rfl
      by_cases h63 : l.length ≤ 63
      · have e63 : (l.length : Int) ≤ 63 := by omega
        simp (maxSteps := 1000000) (disch := omega) only [h0, h5, h6, hlt, hn, len_s, idx_s, hsub, e63, qaaz, qabz, qacz, qadz, qaez, qagz, qaiz, qajz, qclz, qcmz, qcnz, qcqz, qcrz, qcwz, Decidable.not_not, forall_const, qalz, evOp, qaoz, qapz, qarz, qatz, qavz,
 ↓reduceIte, Nat.reduceEqDiff, Option.map_some, qazz, qbbz, qbfz, qbjz, qblz, qbpz, qbqz, qbwz, qccz, decide_eq_true_eq, decide_eq_false_iff_not, decide_true, decide_false,
 Int.toNat_natCast, Int.ofNat_lt, Bool.false_eq_true, Bool.true_eq_false, Int.reduceToNat, true_and, and_true, reduceCtorEq, ne_eq, not_false_eq_true]
        clear hall hI h0 h5 h6
        repeat' (first | refine And.intro ?_ ?_ | intro q)
        all_goals exact retB rfl hk (by simp only [labB, *, decide_not, decide_true, decide_false, Bool.and_true, Bool.true_and, Bool.and_false, Bool.false_and, Bool.not_true, Bool.not_false])
      · have e63 : ¬ (l.length : Int) ≤ 63 := by omega
        simp (maxSteps := 1000000) (disch := omega) only [h0, h5, h6, hlt, hn, len_s, idx_s, hsub, e63, qaaz, qabz, qacz, qadz, qaez, qagz, qaiz, qajz, qclz, qcmz, qcnz, qcqz, qcrz, qcwz, Decidable.not_not, forall_const, qalz, evOp, qaoz, qapz, qarz, qatz, qavz,
 ↓reduceIte, Nat.reduceEqDiff, Option.map_some, qazz, qbbz, qbfz, qbjz, qblz, qbpz, qbqz, qbwz, qccz, decide_eq_true_eq, decide_eq_false_iff_not, decide_true, decide_false,
 Int.toNat_natCast, Int.ofNat_lt, Bool.false_eq_true, Bool.true_eq_false, Int.reduceToNat, true_and, and_true, reduceCtorEq, ne_eq, not_false_eq_true]
        exact retB rfl hk (by simp only [labB, h63, decide_false, Bool.and_false, Bool.false_and])

theorem isNm_spec {l : List UInt8} (hl : l.length ≤ 100000000) : call prog (.fn 127 []) [.str l] st = some (.bool (nmA l), st) := by
  refine call_of_W prog_127 ?_
  unfold F_addr_isName; dsimp only
  simp (maxSteps := 1000000) (disch := omega) only [len_s, qaaz, qabz, qadz, qajz, qalz, evOp, qaoz, qapz, qarz, qatz, qavz,
 ↓reduceIte, List.append_nil, qawz, Option.map_some, qazz, reduceCtorEq]
  obtain ⟨I, hI⟩ : ∃ I : Nat → Env → St → Prop, I = fun k e s' => ∃ (i : Nat), k = l.length - i ∧ i ≤ l.length ∧ Kept st s' ∧ (∀ j, j < i → prC (l.getD j 0) = true) ∧ e 0 = .str l ∧ e 5 = .int .i64 (l.length : Int) ∧ e 6 = .int .i64 (i : Int) := ⟨_, rfl⟩
  refine W_loop I ?_ (n := l.length) (by
    rw [hI]
    exact ⟨0, rfl, by omega, Kept.start, fun j h => by omega, rfl, rfl, rfl⟩)
  intro k e s' hh
  rw [hI] at hh
  obtain ⟨i, rfl, hi, hk, hall, h0, h5, h6⟩ := hh
  by_cases hlt : i < l.length
  · obtain ⟨c, hc⟩ : ∃ c, c = l.getD i 0 := ⟨_, rfl⟩
    have bad : prC c = false → ∀ E : Env, E 2 = .bool false → ∃ rv, resOf E s' [.tmp 2] = some rv ∧ leave st s' rv = (.bool (nmA l), st) := fun h E k2 =>
      retB k2 hk (by simp only [nmA, all_bad (p := prC) hlt (by rw [← hc]; exact h), Bool.false_and])
    have next : prC c = true → ∀ E : Env, E 0 = .str l → E 5 = .int .i64 (l.length : Int) → E 6 = .int .i64 ((i + 1 : Nat) : Int) → ∃ m, m < l.length - i ∧ I m E s' := fun h E k0 k5 k6 =>
      ⟨l.length - (i + 1), by omega, by
        rw [hI]
        refine ⟨i + 1, rfl, by omega, hk, fun j hj => ?_, k0, k5, k6⟩
        by_cases hji : j = i
        · subst hji; rw [← hc]; exact h
        · exact hall j (by omega)⟩
    simp (maxSteps := 1000000) (disch := omega) only [h0, h5, h6, hlt, idx_s, ← hc, add_n, loopQ_normal, qaaz, qabz, qacz, qadz, qaez, qagz, qaiz, qajz, qclz, qcmz, qcoz, qcpz, qcrz, qcwz, forall_const, qalz, evOp, qaoz, qapz, qarz, qatz, qavz,
 ↓reduceIte, Nat.reduceEqDiff, Option.map_some, qazz, qbaz, qbbz, qbdz, qbez, qbfz, qbiz, qbjz, qblz, qbpz, qbxz, qbzz, decide_eq_true_eq, decide_eq_false_iff_not, decide_true, Int.toNat_natCast, Int.ofNat_lt, Bool.false_eq_true, Bool.true_eq_false, Int.reduceToNat, true_and, and_true, reduceCtorEq]
    clear hc hall hI
    repeat' (first | refine And.intro ?_ ?_ | intro q)
    all_goals first | exact bad (by simp only [prC, *, decide_true, decide_false, Bool.and_true, Bool.and_false, Bool.false_and, Bool.not_true, Bool.not_false]) _ rfl | exact next (by simp only [prC, *, decide_false, Bool.and_true, Bool.not_false]) _ h0 h5 rfl
  · obtain rfl : i = l.length := by omega
    simp (maxSteps := 1000000) (disch := omega) only [h0, h5, h6, hlt, len_s, qaaz, qabz, qacz, qadz, qaez, qagz, qaiz, qajz, qcrz, qcwz, forall_const, qalz, evOp, qaoz, qapz, qarz, qatz, qavz,
 ↓reduceIte, Nat.reduceEqDiff, Option.map_some, qazz, qbbz, qbfz, qbjz, qblz, qbpz, qbqz, decide_false,
 Int.ofNat_lt, Bool.false_eq_true, true_and, reduceCtorEq]
    refine retB rfl hk ?_
    simp only [nmA, all_getD (p := prC) hall, Bool.true_and]
    by_cases h : l.length ≤ 128
    · rw [decide_eq_true h, decide_eq_true (by omega)]
    · rw [decide_eq_false h, decide_eq_false (by omega)]
end Go.Ab
/-
  What may be an address; its normal form; an address without a name.
-/
namespace Go.Ab
variable {st s : St} {e : Env}

theorem split_len {sep : UInt8} : ∀ (l acc : Bs), ∀ x ∈ splitOn sep acc l, x.length ≤ acc.length + l.length := by
  intro l
  induction l with
  | nil => intro acc x hx; simp [splitOn] at hx; subst hx; simp
  | cons d r ih =>
    intro acc x hx
    simp only [splitOn] at hx
    split at hx
    · rcases List.mem_cons.1 hx with rfl | hx
      · simp
      · have := ih [] x hx; simp at this ⊢; omega
    · have := ih (acc ++ [d]) x hx; simp at this ⊢; omega
theorem split_num {sep : UInt8} : ∀ (l acc : Bs), (splitOn sep acc l).length ≤ l.length + 1 := by
  intro l
  induction l with
  | nil => intro acc; simp [splitOn]
  | cons d r ih =>
    intro acc
    simp only [splitOn]
    split
    · have := ih []; simp; omega
    · have := ih (acc ++ [d]); simp; omega
theorem Split_spec {l : Bs} {c : UInt8} (hl : l.length ≤ 100000000) : call prog (.fn 133 []) [.str l, .str [c]] st = some (.sl 1 .no ((splitOn c [] l).map .str), st) := by
  rw [call_prim prog_133]
  simp [pStrSplit]
  omega
theorem iaddr_t {x : PV} {xs : List Bs} {k : IntKind} {c : Int} (h : x.vs 1 = some (xs.map .str)) (h1 : 0 ≤ c) (h2 : c.toNat < xs.length) : iaddrPV 1 x (.int k c) = some (.cp [.str (xs.getD c.toNat [])]) := by
  rw [iaddr_vs h h1 (by simpa using h2)]
  simp [List.getD, h2, PV.cells]
theorem all_getD' {p : Bs → Bool} {xs : List Bs} (h : ∀ j, j < xs.length → p (xs.getD j []) = true) : xs.all p = true := by
  rw [List.all_eq_true]
  intro x hx
  obtain ⟨i, hi, rfl⟩ := List.mem_iff_getElem.1 hx
  have := h i hi
  simpa [List.getD, hi] using this
theorem all_bad' {p : Bs → Bool} {xs : List Bs} {j : Nat} (hj : j < xs.length) (h : p (xs.getD j []) = false) : xs.all p = false := by
  rw [List.all_eq_false]
  exact ⟨xs.getD j [], by simp [List.getD, hj], by rw [h]; simp⟩

theorem parts_spec {l : Bs} {c : UInt8} {f : Nat} {p : Bs → Bool} (hl : l.length ≤ 100000000) (hf : ∀ (S : St) (x : Bs), x.length ≤ 100000000 → call prog (.fn f []) [.str x] S = some (.bool (p x), S)) :
    call prog (.fn 124 []) [.str l, .str [c], .fn f []] st = some (.bool (partsB c p l), st) := by
  refine call_of_W prog_124 ?_
  unfold F_addr_parts; dsimp only
  obtain ⟨xs, hxs⟩ : ∃ xs, xs = splitOn c [] l := ⟨_, rfl⟩
  have hsp : ∀ S : St, call prog (.fn 133 []) [.str l, .str [c]] S = some (.sl 1 .no (xs.map .str), S) := fun S => by rw [hxs]; exact Split_spec hl
  have hlen : lenPV false (.sl 1 .no (xs.map .str)) = some (.int .i64 (xs.length : Int)) := by simp [lenPV]
  have hvs : (PV.sl 1 .no (xs.map .str)).vs 1 = some (xs.map .str) := by simp [PV.vs]
  have hp : partsB c p l = xs.all p := by rw [hxs]; rfl
  have hxl : ∀ j, j < xs.length → (xs.getD j []).length ≤ 100000000 := fun j hj => by
    have hm : xs.getD j [] ∈ splitOn c [] l := by rw [← hxs]; simp [List.getD, hj]
    have := split_len l [] _ hm
    simp at this ⊢; omega
  have hnum : xs.length ≤ 100000001 := by
    have := split_num (sep := c) l []
    rw [← hxs] at this; omega
  rw [hp]
  simp (maxSteps := 1000000) (disch := omega) only [hsp, hlen, qaaz, qabz, qadz, qajz, qalz, evOp, qaoz, qapz, qaqz, qarz, qatz, qavz,
 ↓reduceIte, Nat.reduceEqDiff, List.append_nil, List.map_cons, List.map_nil, qawz, qaxz, Option.map_some, qazz, reduceCtorEq]
  obtain ⟨I, hI⟩ : ∃ I : Nat → Env → St → Prop, I = fun k e s' => ∃ (i : Nat), k = xs.length - i ∧ i ≤ xs.length ∧ Kept st s' ∧ (∀ j, j < i → p (xs.getD j []) = true) ∧ e 2 = .fn f [] ∧ e 11 = .sl 1 .no (xs.map .str) ∧ e 12 = .int .i64 (xs.length : Int) ∧ e 13 = .int .i64 (i : Int) := ⟨_, rfl⟩
  refine W_loop I ?_ (n := xs.length) (by
    rw [hI]
    exact ⟨0, rfl, by omega, Kept.start, fun j h => by omega, rfl, rfl, rfl, rfl⟩)
  intro k e s' hh
  rw [hI] at hh
  obtain ⟨i, rfl, hi, hk, hall, h2, h11, h12, h13⟩ := hh
  by_cases hlt : i < xs.length
  · obtain ⟨x, hx⟩ : ∃ x, x = xs.getD i [] := ⟨_, rfl⟩
    have hfx := fun S : St => hf S x (by rw [hx]; exact hxl i hlt)
    cases hpx : p x with
    | false =>
      rw [hpx] at hfx
      simp (maxSteps := 1000000) (disch := omega) only [h2, h11, h12, h13, hlt, iaddr_t hvs, ← hx, qciz, hfx, qaaz, qabz, qacz, qadz, qaez, qagz, qaiz, qajz, qcrz, qcwz, forall_const, qalz, evOp, qaoz, qapz, qarz, qatz, qavz,
 ↓reduceIte, Nat.reduceEqDiff, List.map_cons, List.map_nil, Option.map_some, qazz, qbaz, qbbz, qbdz, qbez, qbfz, qbiz, qbjz, qblz, qbpz, qcfz, qciz, decide_true, Int.toNat_natCast, Int.ofNat_lt, Bool.true_eq_false, and_true, Bool.not_false]
      exact retB rfl hk (all_bad' hlt (by rw [← hx]; exact hpx)).symm
    | true =>
      rw [hpx] at hfx
      simp (maxSteps := 1000000) (disch := omega) only [h2, h11, h12, h13, hlt, iaddr_t hvs, ← hx, qciz, hfx, add_n, qaaz, qabz, qacz, qadz, qaez, qagz, qaiz, qajz, qcrz, qcwz, forall_const, qalz, evOp, qaoz, qapz, qarz, qatz, qavz,
 ↓reduceIte, Nat.reduceEqDiff, List.map_cons, List.map_nil, Option.map_some, qazz, qbaz, qbbz, qbdz, qbez, qbfz, qbiz, qbjz, qblz, qbpz, qcfz, qciz, decide_true, Int.toNat_natCast, Int.ofNat_lt, Bool.false_eq_true, Bool.true_eq_false, Int.reduceToNat, true_and, and_true, Bool.not_true]
      refine loopQ_intro (m := xs.length - (i + 1)) (by omega) ?_
      rw [hI]
      refine ⟨i + 1, rfl, by omega, hk, fun j hj => ?_, h2, h11, h12, rfl⟩
      by_cases hji : j = i
      · subst hji; rw [← hx]; exact hpx
      · exact hall j (by omega)
  · obtain rfl : i = xs.length := by omega
    simp (maxSteps := 1000000) (disch := omega) only [h11, h12, h13, hlt, qaaz, qabz, qacz, qadz, qaez, qagz, qaiz, qajz, qcrz, qcwz, forall_const, qalz, evOp, qaoz, qapz, qarz, qatz, qavz,
 ↓reduceIte, Nat.reduceEqDiff, Option.map_some, qazz, qbbz, qbfz, qbjz, qblz, qbpz, decide_false,
 Int.ofNat_lt, Bool.false_eq_true, true_and]
    exact retB rfl hk (all_getD' hall).symm

theorem atoms_spec {l : Bs} {c : UInt8} (hl : l.length ≤ 100000000) : call prog (.fn 124 []) [.str l, .str [c], .fn 125 []] st = some (.bool (partsB c atomB l), st) :=
  parts_spec hl (fun S x hx => isAtom_spec hx)
theorem labels_spec {l : Bs} {c : UInt8} (hl : l.length ≤ 100000000) : call prog (.fn 124 []) [.str l, .str [c], .fn 126 []] st = some (.bool (partsB c labB l), st) :=
  parts_spec hl (fun S x hx => isLabel_spec hx)

variable {B : List (List PV)} {T : List Bool} {L : List LoopS} {lo : Nat} {a b c : Bs}
abbrev cA (a b c : Bs) : List PV := [.str a, .str b, .str c]
theorem inB_a {m : Nat} : (PV.agg [.str a, .str b, .str c]).inB m = true := rfl
theorem all_a : List.all [PV.str a, .str b, .str c] leafOk = true := rfl
theorem ld_a0 : loadPV ⟨B ++ [cA a b c], T, L, lo⟩ false 1 (.ptr B.length 0) = some (.str a) := by simp [loadPV, readCells]
theorem ld_a1 : loadPV ⟨B ++ [cA a b c], T, L, lo⟩ false 1 (.ptr B.length 1) = some (.str b) := by simp [loadPV, readCells]
theorem ld_a2 : loadPV ⟨B ++ [cA a b c], T, L, lo⟩ false 1 (.ptr B.length 2) = some (.str c) := by simp [loadPV, readCells]
theorem ld_aa : loadPV ⟨B ++ [cA a b c], T, L, lo⟩ true 3 (.ptr B.length 0) = some (.agg (cA a b c)) := by simp [loadPV, readCells]
theorem st_aa {a' b' c' : Bs} : storePV ⟨B ++ [cA a b c], T, L, lo⟩ 3 (.ptr B.length 0) (.agg (cA a' b' c')) = some ⟨B ++ [cA a' b' c'], T, L, lo⟩ := by
  simp [storePV, PV.cells, PV.inB, PV.inB.inBAll, setCells, hasTok, tokOf, leafOk]
theorem cells_agg {cs : List PV} : (PV.agg cs).cells = cs := rfl
theorem Kept.box1 {z : List PV} : Kept st ⟨st.boxes ++ [z], st.toks, st.loops, st.boxes.length⟩ := Kept.start.alloc

structure okA (a : Adr) : Prop where
  n : a.1.length ≤ 100000000
  l : a.2.1.length ≤ 100000000
  d : a.2.2.length ≤ 100000000

theorem Right_spec {a : Adr} (h : okA a) : call prog (.fn 111 []) [aV a] st = some (.bool (rightA a), st) := by
  refine call_of_W prog_111 ?_
  unfold F_addr_Right; dsimp only
  obtain ⟨n, l, d⟩ := a
  have hn := h.n; have hl := h.l; have hd := h.d
  simp only at hn hl hd
  have e64 : ((l.length : Int) ≤ 64) = (l.length ≤ 64) := by apply propext; omega
  have e253 : ((d.length : Int) ≤ 253) = (d.length ≤ 253) := by apply propext; omega
  have hA := fun S : St => atoms_spec (st := S) (c := 46) hl
  have hD := fun S : St => labels_spec (st := S) (c := 46) hd
  have hN := fun S : St => isNm_spec (st := S) hn
  simp (maxSteps := 1000000) (disch := omega) only [aV, inB_a, all_a, allocPV, cells_agg, faP, Nat.zero_add, ld_a0, ld_a1, ld_a2, len_s, e64, e253, hA, hD, hN, qaaz, qabz, qaiz, qajz, qclz, qcmz, qcnz, qcqz, qcwz, forall_const, and_self, qalz, evOp, qaoz, qapz, qaqz, qarz, qatz, qavz,
 ↓reduceIte, Nat.reduceEqDiff, List.append_nil, List.map_cons, List.map_nil, qawz, Option.map_some, qazz, qblz, qbqz, decide_eq_true_eq, decide_eq_false_iff_not, Bool.false_eq_true, Bool.true_eq_false, true_and, and_true]
  clear hA hD hN
  repeat' (first | refine And.intro ?_ ?_ | intro q)
  all_goals exact retB rfl Kept.box1 (by simp only [rightA, *, decide_true, decide_false, Bool.and_true, Bool.true_and, Bool.and_false, Bool.false_and])

def bst2 (st : St) (z : List PV) (l : Bs) : St := ⟨(st.boxes ++ [z]) ++ [l.map PV.b8], st.toks, st.loops, st.boxes.length⟩
theorem load_bst2 {z : List PV} {l : Bs} {i : Nat} (h : i < l.length) : loadPV (bst2 st z l) false 1 (.ptr (st.boxes.length + 1) i) = some (.b8 (l.getD i 0)) := by
  have hg : (st.boxes ++ [z] ++ [l.map PV.b8])[st.boxes.length + 1]? = some (l.map PV.b8) := by
    rw [List.getElem?_append_right (by simp)]; simp
  simp only [loadPV, bst2, hg]
  rw [← List.map_drop, drop_getD h]; rfl
theorem store_bst2 {z : List PV} {l : Bs} {i : Nat} {c : UInt8} (h : i < l.length) : storePV (bst2 st z l) 1 (.ptr (st.boxes.length + 1) i) (.b8 c) = some (bst2 st z (l.set i c)) := by
  have hg : (st.boxes ++ [z] ++ [l.map PV.b8])[st.boxes.length + 1]? = some (l.map PV.b8) := by
    rw [List.getElem?_append_right (by simp)]; simp
  have hs : ∀ y, (st.boxes ++ [z] ++ [l.map PV.b8]).set (st.boxes.length + 1) y = st.boxes ++ [z] ++ [y] := fun y => by
    rw [List.set_append_right _ _ (by simp)]; simp
  have h2 : i + 1 ≤ l.length := by omega
  simp only [storePV, bst2, hg, PV.cells]
  simp [h2, PV.inB, leafOk, setCells, hasTok, tokOf, List.map_set]
theorem b2s_bst2 {z : List PV} {l : Bs} {n : Nat} (h : n = l.length) : b2s true (bst2 st z l) (.ms (st.boxes.length + 1) 0 n) = some l := by
  subst h
  have hg : (st.boxes ++ [z] ++ [l.map PV.b8])[st.boxes.length + 1]? = some (l.map PV.b8) := by
    rw [List.getElem?_append_right (by simp)]; simp
  simp only [b2s, if_true, src8, bst2, hg]
  rw [if_pos (by simp), List.drop_zero, List.take_of_length_le (by simp), bytesOf_map]
theorem Kept.bst2 {z : List PV} {l : Bs} : Kept st (bst2 st z l) := by
  have := (Kept.box1 (st := st) (z := z)).alloc (z := l.map PV.b8)
  exact this

theorem aPlain_spec {s : Bs} (h : s.length ≤ 100000000) : call prog (.fn 115 []) [.str s] st = some (.tup [aV (plainA s).1, .int .i64 (plainA s).2], st) := by
  refine call_of_W prog_115 ?_
  unfold F_addr_Plain; dsimp only
  have hcut : ∀ S : St, call prog (.fn 128 []) [.str s, .str [64]] S = some (cutAt s [64], S) := fun S => Cut_spec (by omega) (by simp)
  obtain ⟨a, ha⟩ : ∃ a, a = cutA s := ⟨_, rfl⟩
  obtain ⟨t, hct⟩ : ∃ t, cutAt s [64] = .tup [.str a.2.1, .str a.2.2, .bool t] := by
    rw [ha]
    unfold cutAt cutA
    split
    · exact ⟨true, rfl⟩
    · exact ⟨false, rfl⟩
  have ha1 : a.1 = [] := by rw [ha]; unfold cutA; split <;> rfl
  have hok : okA a := by
    rw [ha]
    unfold cutA
    split
    · exact ⟨by simp, by simp; omega, by simp; omega⟩
    · exact ⟨by simp, h, by simp⟩
  rw [hct] at hcut
  obtain ⟨n, l, d⟩ := a
  simp only at ha1 hcut
  subst ha1
  have hR := fun S : St => Right_spec (st := S) hok
  simp only [aV] at hR
  have hbuild : buildCells [.str [], .str [], .str []] [(1, 1, .str l), (2, 1, .str d)] = some (cA [] l d) := rfl
  have hb0 : buildCells [.str [], .str [], .str []] [] = some (cA [] [] []) := rfl
  have hlen1 : (st.boxes ++ [cA [] [] []]).length = st.boxes.length + 1 := by simp
  have hs2 : ∀ T L lo, storePV ⟨st.boxes ++ [cA [] [] []] ++ [cA [] [] []], T, L, lo⟩ 3 (.ptr (st.boxes.length + 1) 0) (.agg (cA [] l d)) = some ⟨st.boxes ++ [cA [] [] []] ++ [cA [] l d], T, L, lo⟩ := fun T L lo => by
    have := st_aa (B := st.boxes ++ [cA [] [] []]) (T := T) (L := L) (lo := lo) (a := []) (b := []) (c := []) (a' := []) (b' := l) (c' := d)
    rw [hlen1] at this; exact this
  have hl2 : ∀ x T L lo, loadPV ⟨st.boxes ++ [x] ++ [cA [] l d], T, L, lo⟩ true 3 (.ptr (st.boxes.length + 1) 0) = some (.agg (cA [] l d)) := fun x T L lo => by
    have := ld_aa (B := st.boxes ++ [x]) (T := T) (L := L) (lo := lo) (a := []) (b := l) (c := d)
    simpa using this
  have hs0 : ∀ (x y z : Bs) (w : List PV) T L lo, storePV ⟨st.boxes ++ [cA [] [] []] ++ [w], T, L, lo⟩ 3 (.ptr st.boxes.length 0) (.agg (cA x y z)) = some ⟨st.boxes ++ [cA x y z] ++ [w], T, L, lo⟩ := fun x y z w T L lo => by
    simp [storePV, PV.cells, PV.inB, PV.inB.inBAll, setCells, hasTok, tokOf, leafOk]
  have fin : ∀ (E : Env) (x y z : Bs) (w : List PV) (c : Int), E 2 = .ptr st.boxes.length 0 → E 3 = .int .i64 c → plainA s = ((x, y, z), c) →
      ∃ rv, resOf E ⟨st.boxes ++ [cA x y z] ++ [w], st.toks, st.loops, st.boxes.length⟩ [.cell 2 true 3, .tmp 3] = some rv ∧ leave st ⟨st.boxes ++ [cA x y z] ++ [w], st.toks, st.loops, st.boxes.length⟩ rv = (.tup [aV (plainA s).1, .int .i64 (plainA s).2], st) := by
    intro E x y z w c k2 k3 hp
    have hk : Kept st ⟨st.boxes ++ [cA x y z] ++ [w], st.toks, st.loops, st.boxes.length⟩ := (Kept.box1 (st := st) (z := cA x y z)).alloc
    refine ⟨.tup [.agg (cA x y z), .int .i64 c], ?_, ?_⟩
    · simp [resOf, rvAll, rv1, k2, k3, loadPV, readCells, notTup, packRes]
    · rw [hp]; exact hk.leave rfl (fun _ _ => rfl)
  cases hr : rightA ([], l, d) with
  | true =>
    rw [hr] at hR
    simp (maxSteps := 1000000) (disch := omega) only [allocPV, hcut, hbuild, hlen1, hs2, hl2, hR, hs0, qaaz, qabz, qacz, qaez, qaiz, qajz, qcrz, qcwz, forall_const, qalz, evOp, qaoz, qapz, qaqz, qarz, qatz, qauz, qavz,
 ↓reduceIte, Nat.reduceEqDiff, List.append_nil, List.map_cons, List.map_nil, qawz, Option.map_some, qazz, qblz, qcfz, Bool.false_eq_true, qcjz, List.getElem?_cons_zero, List.getElem?_cons_succ, true_and, reduceCtorEq, Bool.not_true]
    exact fin _ [] l d _ 0 rfl rfl (by simp [plainA, ← ha, hr])
  | false =>
    rw [hr] at hR
    simp (maxSteps := 1000000) (disch := omega) only [allocPV, hcut, hbuild, hb0, hlen1, hs2, hl2, hR, hs0, qaaz, qabz, qacz, qaez, qaiz, qajz, qcrz, qcwz, forall_const, qalz, evOp, qaoz, qapz, qaqz, qarz, qatz, qauz, qavz,
 ↓reduceIte, Nat.reduceEqDiff, List.append_nil, List.map_cons, List.map_nil, qawz, Option.map_some, qazz, qbaz, qblz, qcfz, Bool.true_eq_false, qcjz, List.getElem?_cons_zero, List.getElem?_cons_succ, and_true, reduceCtorEq, Bool.not_false]
    exact fin _ [] [] [] _ 60 rfl rfl (by simp [plainA, ← ha, hr, noA])
end Go.Ab
/-
  Layer 20: what must come of fixed calls; weekdays.
-/
namespace Go.Ab
set_option maxRecDepth 20000
variable {st s : St} {e : Env}

end Go.Ab
/-
  Ids are written.
-/
namespace Go.Ab
set_option maxRecDepth 20000
variable {st s : St} {e : Env}

theorem Right_w {t : Int} : call prog (.fn 199 []) [.int .i64 t] st = some (.bool (decide (0 ≤ t ∧ t ≤ 253402300799)), st) := by
  refine call_of_W prog_199 ?_
  unfold F_when_Right; dsimp only
  by_cases h1 : 0 ≤ t
  · by_cases h2 : t ≤ 253402300799
    · simp (maxSteps := 1000000) (disch := omega) only [h1, h2, qaaz, qabz, qaiz, qajz, qakz, qalz, qamz, qanz, evOp, qaoz, qapz, qarz, qatz, qavz,
 ↓reduceIte, Nat.reduceEqDiff, List.append_nil, qawz, Option.map_some, qazz, qblz, qbqz, qbsz, beq_true, decide_true, and_true, reduceCtorEq]
      exact retB rfl Kept.start (by simp [])
    · simp (maxSteps := 1000000) (disch := omega) only [h1, h2, qaaz, qabz, qaiz, qajz, qakz, qalz, qamz, qanz, evOp, qaoz, qapz, qarz, qatz, qavz,
 ↓reduceIte, Nat.reduceEqDiff, List.append_nil, qawz, Option.map_some, qazz, qblz, qbqz, qbsz, beq_true, decide_true, decide_false,
 true_and, reduceCtorEq]
      exact retB rfl Kept.start (by simp [])
  · simp (maxSteps := 1000000) (disch := omega) only [h1, qaaz, qabz, qaiz, qajz, qakz, qalz, qamz, qanz, evOp, qaoz, qapz, qarz, qatz, qavz,
 ↓reduceIte, Nat.reduceEqDiff, List.append_nil, qawz, Option.map_some, qazz, qblz, qbsz, beq_true, decide_false,
 Bool.false_eq_true, reduceCtorEq]
    exact retB rfl Kept.start (by simp [])

end Go.Ab
/-
  Rows of one's own in a state that keeps what the caller has.
-/
namespace Go.Ab
variable {st s : St} {e : Env}

theorem Kept.appV {esz : Nat} {v u w : PV} {xs : List PV} (hk : Kept st s) (h : Own st s esz v xs) (hl : xs.length + 1 ≤ room) :
    ∃ v' s', Ab.appV esz s.tok1 v (.sl esz (.own s.toks.length) [u]) = some (v', s') ∧ Kept st s' ∧ Own st s' esz v' (xs ++ [u]) ∧ s'.boxes = s.boxes := by
  have hk1 := hk.tok1
  have hg : GrewAt s.tok1.boxes st.toks s.tok1.loops s.tok1.low s.tok1 := ⟨rfl, rfl, rfl, hk1.tk⟩
  have h1 := h.tok1
  obtain ⟨g2, o2⟩ := Own.app (ys := xs ++ [u]) hg h1
  refine ⟨_, _, appV_own h1 hl, ⟨?_, ?_, ?_, g2.tk⟩, o2, g2.bx⟩
  · rw [g2.bx]; exact hk1.bx
  · rw [g2.lp]; exact hk1.lp
  · rw [g2.lw]; exact hk1.lw
theorem Kept.leaveOwn1 {esz : Nat} {v : PV} {xs : List PV} (hk : Kept st s) (h : Own st s esz v xs) (hne : xs = [] → v = .nils) : Ab.leave st s v = (newSl st esz xs, newS st xs.isEmpty) := by
  have e1 := hk.bx; have e2 := hk.lp; have e3 := hk.tk
  rcases h with ⟨rfl, rfl⟩ | ⟨i, rfl, h2, h3⟩
  · simp [Ab.leave, PV.inB, hk.lw, keepRes, keepVal, keepLeaf, newSl, newS, e1, e2, e3]
  · by_cases hx : xs = []
    · have := hne hx; cases this
    · simp [Ab.leave, PV.inB, hk.lw, keepRes, keepVal, keepLeaf, keepTok, newSl, newS, hx, h3, show ¬ i < st.toks.length by omega, e1, e2, e3, St.tok1]
theorem lit_s {x : List UInt8} : litFill 1 (List.replicate 1 (.str [])) [(0, .str x)] = some [.str x] := rfl
end Go.Ab
/-
  Ids are read; the law DateUnlike.
-/
namespace Go.Ab
set_option maxRecDepth 20000
variable {st s : St} {e : Env}

end Go.Ab
/-
  The document's addresses: parts, letters, atoms, domains.
-/
namespace Go.Ab
set_option maxRecDepth 20000
variable {st s : St} {e : Env}

theorem split_step {l : Bs} {by_ : UInt8} {i f : Nat} (hf : f ≤ i) (hi : i < l.length) (hb : l.getD i 0 = by_) : splitOn by_ ((l.take i).drop f) (l.drop i) = (l.take i).drop f :: splitOn by_ ((l.take (i + 1)).drop (i + 1)) (l.drop (i + 1)) := by
  have hd : l.drop i = l.getD i 0 :: l.drop (i + 1) := by rw [List.drop_eq_getElem_cons hi]; simp [List.getD, hi]
  rw [hd, splitOn, if_pos hb, List.drop_of_length_le (l := l.take (i + 1)) (by simp; omega)]
theorem split_go {l : Bs} {by_ : UInt8} {i f : Nat} (hf : f ≤ i) (hi : i < l.length) (hb : ¬ l.getD i 0 = by_) : splitOn by_ ((l.take i).drop f) (l.drop i) = splitOn by_ ((l.take (i + 1)).drop f) (l.drop (i + 1)) := by
  have hd : l.drop i = l.getD i 0 :: l.drop (i + 1) := by rw [List.drop_eq_getElem_cons hi]; simp [List.getD, hi]
  rw [hd, splitOn, if_neg hb]
  congr 1
  rw [List.take_add_one, List.drop_append_of_le_length (by simp; omega)]
  simp [List.getD, hi]

set_option maxHeartbeats 1000000 in
theorem Parts_spec {l : Bs} {c : UInt8} (hl : l.length ≤ 100000000) : call prog (.fn 215 []) [.str l, .b8 c] st = some (newSl st 1 ((splitOn c [] l).map .str), st.tok1) := by
  refine call_of_W prog_215 ?_
  unfold F_posthornref04_Parts; dsimp only
  obtain ⟨T, hT⟩ : ∃ T, T = splitOn c [] l := ⟨_, rfl⟩
  rw [← hT]
  simp (maxSteps := 1000000) (disch := omega) only [qaaz, qabz, qadz, qajz, qalz, evOp, qapz, qarz, qatz, List.append_nil, qazz]
  obtain ⟨Q0, hQ0⟩ : ∃ Q0 : Ex → Env → St → Prop, Q0 = endQ st [.tmp 4] (newSl st 1 (T.map .str), st.tok1) := ⟨_, rfl⟩
  rw [← hQ0]
  obtain ⟨I, hI⟩ : ∃ I : Nat → Env → St → Prop, I = fun k E S => ∃ (i f : Nat) (v : PV) (dn : List Bs), k = l.length + 1 - i ∧ f ≤ i ∧ i ≤ l.length + 1 ∧ Kept st S ∧ Own st S 1 v (dn.map .str) ∧ (dn = [] → v = .nils) ∧ dn.length ≤ i ∧ (if i ≤ l.length then T = dn ++ splitOn c ((l.take i).drop f) (l.drop i) ∧ f ≤ l.length else T = dn ∧ dn ≠ []) ∧ E 0 = .str l ∧ E 1 = .b8 c ∧ E 5 = v ∧ E 6 = .int .i64 (f : Int) ∧ E 7 = .int .i64 (i : Int) := ⟨_, rfl⟩
  refine W_loop I ?_ (n := l.length + 1) (by
    rw [hI]
    exact ⟨0, 0, .nils, [], rfl, by omega, by omega, Kept.start, .inl ⟨rfl, rfl⟩, fun _ => rfl, by simp, by rw [if_pos (by omega)]; exact ⟨by simpa using hT, by omega⟩, rfl, rfl, rfl, rfl, rfl⟩)
  intro k E S hh
  rw [hI] at hh
  obtain ⟨i, f, v, dn, rfl, hfi, hil, hk, ho, hne, hdi, hTT, h0, h1, h5, h6, h7⟩ := hh
  by_cases hlt : i ≤ l.length
  · rw [if_pos hlt] at hTT
    obtain ⟨hTT, hfl⟩ := hTT
    have hs : slcPV 0 (.str l) (some (.int .i64 (f : Int))) (some (.int .i64 (i : Int))) none = some (.str ((l.take i).drop f)) := by
      rw [slc_s (by omega) (by omega) (by omega)]; rfl
    obtain ⟨v1, S1, b1, k1, o1, _⟩ := hk.appV (u := .str ((l.take i).drop f)) (w := v) ho (by simp only [List.length_map, room]; omega)
    by_cases he : i = l.length
    · have he' : ((i : Int) = (l.length : Int)) := by omega
      simp (maxSteps := 1000000) (disch := omega) only [h0, h5, h6, h7, len_s, hlt, eq_true he, hs, lit_s, freshT_eq, b1, add_n, loopQ_normal, qaaz, qabz, qacz, qadz, qaez, qajz, qakz, qalz, qamz, qanz, evOp, qaoz, qapz, qarz, qatz, qavz,
 ↓reduceIte, Nat.reduceEqDiff, List.map_cons, List.map_nil, Option.map_some, Option.map_none, qazz, qbdz, qbhz, qbqz, qbtz, beq_false, decide_true, Int.ofNat_le, Int.natCast_inj, Bool.false_eq_true, Int.reduceToNat, reduceCtorEq, Bool.not_true]
      refine ⟨l.length + 1 - (i + 1), by omega, ?_⟩
      rw [hI]
      refine ⟨i + 1, i + 1, v1, dn ++ [(l.take i).drop f], rfl, by omega, by omega, k1, by rw [List.map_append]; exact o1, fun h => by simp at h, by simp; omega, ?_, h0, h1, rfl, rfl, rfl⟩
      rw [if_neg (by omega)]
      refine ⟨?_, by simp⟩
      rw [hTT, he, List.drop_length]; simp [splitOn]
    · obtain ⟨x, hx⟩ : ∃ x, x = l.getD i 0 := ⟨_, rfl⟩
      have he2 : ¬ (i = l.length) := he
      by_cases hb : x = c
      · simp (maxSteps := 1000000) (disch := omega) only [h0, h1, h5, h6, h7, len_s, hlt, he2, idx_s, ← hx, eq_true hb, hs, lit_s, freshT_eq, b1, add_n, loopQ_normal, qaaz, qabz, qacz, qadz, qaez, qajz, qakz, qalz, qamz, qanz, evOp, qaoz, qapz, qarz, qatz, qavz,
 ↓reduceIte, Nat.reduceEqDiff, List.map_cons, List.map_nil, Option.map_some, Option.map_none, qazz, qbdz, qbhz, qbqz, qbtz, qbvz, beq_false, decide_true, decide_false,
 Int.toNat_natCast, Int.ofNat_le, Int.natCast_inj, Bool.false_eq_true, Int.reduceToNat, reduceCtorEq, Bool.not_false]
        refine ⟨l.length + 1 - (i + 1), by omega, ?_⟩
        rw [hI]
        refine ⟨i + 1, i + 1, v1, dn ++ [(l.take i).drop f], rfl, by omega, by omega, k1, by rw [List.map_append]; exact o1, fun h => by simp at h, by simp; omega, ?_, h0, h1, rfl, rfl, rfl⟩
        rw [if_pos (by omega)]
        refine ⟨?_, by omega⟩
        rw [hTT, split_step hfi (by omega) (by rw [← hx]; exact hb)]; simp
      · simp (maxSteps := 1000000) (disch := omega) only [h0, h1, h7, len_s, hlt, he2, idx_s, ← hx, hb, add_n, loopQ_normal, qaaz, qabz, qacz, qadz, qaez, qajz, qakz, qalz, qamz, qanz, evOp, qaoz, qapz, qarz, qatz, qavz,
 ↓reduceIte, Nat.reduceEqDiff, Option.map_some, qazz, qbdz, qbhz, qbqz, qbtz, qbvz, beq_false, decide_true, decide_false,
 Int.toNat_natCast, Int.ofNat_le, Int.natCast_inj, Bool.false_eq_true, Int.reduceToNat, reduceCtorEq, Bool.not_false]
        refine ⟨l.length + 1 - (i + 1), by omega, ?_⟩
        rw [hI]
        refine ⟨i + 1, f, v, dn, rfl, by omega, by omega, hk, ho, hne, by omega, ?_, h0, h1, h5, h6, rfl⟩
        rw [if_pos (by omega)]
        exact ⟨by rw [hTT, split_go hfi (by omega) (by rw [← hx]; exact hb)], hfl⟩
  · rw [if_neg hlt] at hTT
    obtain ⟨hTT, hdn⟩ := hTT
    simp (maxSteps := 1000000) (disch := omega) only [h0, h5, h7, len_s, hlt, qaaz, qabz, qacz, qagz, qaiz, qajz, qalz, evOp, qaoz, qarz, qatz, qavz,
 ↓reduceIte, Nat.reduceEqDiff, Option.map_some, qazz, qbbz, qbfz, qbhz, qbjz, qbqz, decide_false,
 Int.ofNat_le, Bool.false_eq_true, reduceCtorEq]
    rw [hQ0, qblz, hTT]
    refine ⟨v, by rcases ho with ⟨hv, _⟩ | ⟨j, hv, _⟩ <;> simp [resOf, rvAll, rv1, qavz, hv, notTup, packRes], ?_⟩
    rw [hk.leaveOwn1 ho (fun h => hne (by simpa using h))]
    cases dn with
    | nil => exact absurd rfl hdn
    | cons a r => rfl

theorem guardV_un {A : AP} {g : Nat} {b : Bool} {d : Option Nat} {op : AOp} {r : List AOper} {Q : Env → St → Prop} : guardV A .undef g b d op r e st Q = WO A r (updO e d .undef) st Q := rfl
theorem Letter_spec {c : UInt8} : call prog (.fn 220 []) [.b8 c] st = some (.bool (alnC c), st) := by
  refine call_of_W prog_220 ?_
  unfold F_posthornref07_Letter; dsimp only
  have fin : ∀ {E : Env} (b : Bool), E 2 = .bool b → b = alnC c → ∃ rv, resOf E { boxes := st.boxes, toks := st.toks, loops := st.loops, low := st.boxes.length } [.tmp 2] = some rv ∧ leave st { boxes := st.boxes, toks := st.toks, loops := st.loops, low := st.boxes.length } rv = (.bool (alnC c), st) :=
    fun b h hb => retB h Kept.start hb
  simp (maxSteps := 1000000) (disch := omega) only [guardV_un, qaaz, qabz, qaiz, qajz, qclz, qcmz, qcnz, qcoz, qcpz, qcqz, qcwz, forall_const, qalz, evOp, qaoz, qapz, qarz, qasz, qatz, qavz,
 ↓reduceIte, Nat.reduceEqDiff, List.append_nil, qawz, Option.map_some, qazz, qblz, qbyz, qcaz, decide_eq_true_eq, decide_eq_false_iff_not, Bool.false_eq_true, Bool.true_eq_false, true_and, and_true, reduceCtorEq]
  repeat' (first | refine And.intro ?_ ?_ | intro q)
  all_goals first | exact fin true rfl (by simp only [alnC, *, decide_true, decide_false, Bool.and_true, Bool.true_and, Bool.and_false, Bool.false_and, Bool.or_true, Bool.or_false]) | exact fin false rfl (by simp only [alnC, *, decide_true, decide_false, Bool.true_and, Bool.and_false, Bool.false_and, Bool.or_false]) | exact fin _ rfl (by simp only [alnC, *, decide_true, decide_false, Bool.true_and, Bool.and_false, Bool.false_and, Bool.or_false])

theorem has_one (c : UInt8) : hasB signs [c] = signs.contains c := by
  have := all8 (p := fun c => hasB signs [c] == signs.contains c) (by kernel_rfl) c
  simpa only [beq_iff_eq] using this
theorem take_one {l : Bs} {i : Nat} (h : i < l.length) : (l.take (i + 1)).drop i = [l.getD i 0] := by
  rw [List.take_add_one, List.drop_append_of_le_length (by simp; omega), List.drop_of_length_le (by simp; omega)]
  simp [List.getD, h]

theorem rAtom_spec {l : Bs} (hl : l.length ≤ 100000000) : call prog (.fn 219 []) [.str l] st = some (.bool (atomB l), st) := by
  refine call_of_W prog_219 ?_
  unfold F_posthornref07_Atom; dsimp only
  simp (maxSteps := 1000000) (disch := omega) only [qaaz, qabz, qadz, qajz, qalz, evOp, qapz, qarz, qatz, List.append_nil, qazz]
  obtain ⟨I, hI⟩ : ∃ I : Nat → Env → St → Prop, I = fun k e s' => ∃ (i : Nat), k = l.length - i ∧ i ≤ l.length ∧ Kept st s' ∧ (∀ j, j < i → atC (l.getD j 0) = true) ∧ e 0 = .str l ∧ e 3 = .int .i64 (i : Int) := ⟨_, rfl⟩
  refine W_loop I ?_ (n := l.length) (by
    rw [hI]
    exact ⟨0, rfl, by omega, Kept.start, fun j h => by omega, rfl, rfl⟩)
  intro k e s' hh
  rw [hI] at hh
  obtain ⟨i, rfl, hi, hk, hall, h0, h3⟩ := hh
  by_cases hlt : i < l.length
  · obtain ⟨c, hc⟩ : ∃ c, c = l.getD i 0 := ⟨_, rfl⟩
    have bad : atC c = false → ∀ E : Env, E 2 = .bool false → ∃ rv, resOf E s' [.tmp 2] = some rv ∧ leave st s' rv = (.bool (atomB l), st) := fun h E k2 =>
      retB k2 hk (by simp only [atomB, all_bad (p := atC) hlt (by rw [← hc]; exact h), Bool.false_and])
    have next : atC c = true → ∀ E : Env, E 0 = .str l → E 3 = .int .i64 ((i + 1 : Nat) : Int) → ∃ m, m < l.length - i ∧ I m E s' := fun h E k0 k3 =>
      ⟨l.length - (i + 1), by omega, by
        rw [hI]
        refine ⟨i + 1, rfl, by omega, hk, fun j hj => ?_, k0, k3⟩
        by_cases hji : j = i
        · subst hji; rw [← hc]; exact h
        · exact hall j (by omega)⟩
    have hs : slcPV 0 (.str l) (some (.int .i64 (i : Int))) (some (.int .i64 ((i + 1 : Nat) : Int))) none = some (.str [c]) := by
      rw [slc_s (by omega) (by omega) (by omega), Int.toNat_natCast, Int.toNat_natCast, take_one hlt, hc]
    have hH := fun S : St => Has_spec (st := S) (a := signs) (b := [c]) (by decide) (by simp)
    simp only [has_one] at hH
    simp only [signs] at hH
    cases ha : alnC c with
    | true =>
      have hL := fun S : St => Letter_spec (st := S) (c := c)
      rw [ha] at hL
      simp (maxSteps := 1000000) (disch := omega) only [h0, h3, hlt, len_s, idx_s, ← hc, hL, add_n, loopQ_normal, qaaz, qabz, qacz, qadz, qaez, qajz, qakz, qalz, qamz, qanz, evOp, qaoz, qapz, qaqz, qarz, qatz, qavz,
 ↓reduceIte, Nat.reduceEqDiff, List.map_cons, List.map_nil, Option.map_some, qazz, qbdz, qbhz, qbpz, qcfz, beq_true, decide_true, Int.toNat_natCast, Int.ofNat_lt, Bool.false_eq_true, Int.reduceToNat, reduceCtorEq, Bool.not_true]
      exact next (by simp only [atC, ha, Bool.true_or]) _ h0 rfl
    | false =>
      have hL := fun S : St => Letter_spec (st := S) (c := c)
      rw [ha] at hL
      cases hg : signs.contains c with
      | true =>
        simp only [signs] at hg
        rw [hg] at hH
        simp (maxSteps := 1000000) (disch := omega) only [h0, h3, hlt, len_s, idx_s, ← hc, hL, hs, hH, add_n, loopQ_normal, qaaz, qabz, qacz, qadz, qaez, qajz, qakz, qalz, qamz, qanz, evOp, qaoz, qapz, qaqz, qarz, qatz, qavz,
 ↓reduceIte, Nat.reduceEqDiff, List.map_cons, List.map_nil, Option.map_some, Option.map_none, qazz, qbdz, qbhz, qbpz, qcfz, beq_true, decide_true, Int.toNat_natCast, Int.ofNat_lt, Bool.false_eq_true, Int.reduceToNat, reduceCtorEq, Bool.not_true, Bool.not_false]
        exact next (by simp only [atC, ha, signs, hg, Bool.or_true]) _ h0 rfl
      | false =>
        simp only [signs] at hg
        rw [hg] at hH
        simp (maxSteps := 1000000) (disch := omega) only [h0, h3, hlt, len_s, idx_s, ← hc, hL, hs, hH, add_n, qaaz, qabz, qacz, qadz, qaez, qaiz, qajz, qakz, qalz, qamz, qanz, evOp, qaoz, qapz, qaqz, qarz, qatz, qavz,
 ↓reduceIte, Nat.reduceEqDiff, List.map_cons, List.map_nil, Option.map_some, Option.map_none, qazz, qbaz, qbez, qbhz, qbiz, qblz, qbpz, qcfz, beq_true, decide_true, Int.toNat_natCast, Int.ofNat_lt, Int.reduceToNat, reduceCtorEq, Bool.not_false]
        exact bad (by simp only [atC, ha, signs, hg, Bool.or_false]) _ rfl
  · obtain rfl : i = l.length := by omega
    simp (maxSteps := 1000000) (disch := omega) only [h0, h3, hlt, len_s, qaaz, qabz, qacz, qagz, qaiz, qajz, qalz, evOp, qaoz, qapz, qarz, qatz, qavz,
 ↓reduceIte, Nat.reduceEqDiff, Option.map_some, qazz, qbbz, qbfz, qbhz, qbjz, qblz, qbpz, qbrz, decide_false,
 Int.ofNat_lt, Bool.false_eq_true, reduceCtorEq]
    refine retB rfl hk ?_
    simp only [atomB, all_getD (p := atC) hall, Bool.true_and]
    cases l <;> simp
end Go.Ab
/-
  The document's addresses: domains, plain addresses.
-/
namespace Go.Ab
set_option maxRecDepth 20000
variable {st s : St} {e : Env}

theorem ratoms_spec {l : Bs} {c : UInt8} (hl : l.length ≤ 100000000) : call prog (.fn 217 []) [.str l, .b8 c] st = some (.bool (partsB c atomB l), st) := by
  refine call_of_W prog_217 ?_
  unfold F_posthornref07_atoms; dsimp only
  obtain ⟨xs, hxs⟩ : ∃ xs, xs = splitOn c [] l := ⟨_, rfl⟩
  have hsp := fun S : St => Parts_spec (st := S) (c := c) hl
  rw [← hxs] at hsp
  have hk1 : Kept st (St.tok1 ⟨st.boxes, st.toks, st.loops, st.boxes.length⟩) := Kept.start.tok1
  have hvs := newSl_vs (st := (⟨st.boxes, st.toks, st.loops, st.boxes.length⟩ : St)) (esz := 1) (xs := xs.map .str)
  obtain ⟨V, hV⟩ : ∃ V, V = newSl (⟨st.boxes, st.toks, st.loops, st.boxes.length⟩ : St) 1 (xs.map .str) := ⟨_, rfl⟩
  have hsp0 := hsp (⟨st.boxes, st.toks, st.loops, st.boxes.length⟩ : St)
  rw [← hV] at hvs hsp0
  have hlen : lenPV false V = some (.int .i64 (xs.length : Int)) := by rw [len_vs hvs, List.length_map]
  have hp : partsB c atomB l = xs.all atomB := by rw [hxs]; rfl
  have hxl : ∀ j, j < xs.length → (xs.getD j []).length ≤ 100000000 := fun j hj => by
    have hm : xs.getD j [] ∈ splitOn c [] l := by rw [← hxs]; simp [List.getD, hj]
    have := split_len l [] _ hm
    simp at this ⊢; omega
  have hnum : xs.length ≤ 100000001 := by
    have := split_num (sep := c) l []
    rw [← hxs] at this; omega
  rw [hp]
  simp (maxSteps := 1000000) (disch := omega) only [hsp0, qaaz, qabz, qadz, qajz, qalz, evOp, qaoz, qapz, qaqz, qarz, qatz, qavz,
 ↓reduceIte, Nat.reduceEqDiff, List.append_nil, List.map_cons, List.map_nil, qawz, qaxz, qazz, reduceCtorEq]
  obtain ⟨I, hI⟩ : ∃ I : Nat → Env → St → Prop, I = fun k e s' => ∃ (i : Nat), k = xs.length - i ∧ i ≤ xs.length ∧ Kept st s' ∧ (∀ j, j < i → atomB (xs.getD j []) = true) ∧ e 5 = V ∧ e 6 = .int .i64 (i : Int) := ⟨_, rfl⟩
  refine W_loop I ?_ (n := xs.length) (by
    rw [hI]
    exact ⟨0, rfl, by omega, hk1, fun j h => by omega, rfl, rfl⟩)
  intro k e s' hh
  rw [hI] at hh
  obtain ⟨i, rfl, hi, hk, hall, h5, h6⟩ := hh
  by_cases hlt : i < xs.length
  · obtain ⟨x, hx⟩ : ∃ x, x = xs.getD i [] := ⟨_, rfl⟩
    have hfx := fun S : St => rAtom_spec (st := S) (l := x) (by rw [hx]; exact hxl i hlt)
    cases hpx : atomB x with
    | false =>
      rw [hpx] at hfx
      simp (maxSteps := 1000000) (disch := omega) only [h5, h6, hlen, hlt, iaddr_t hvs, ← hx, qciz, hfx, qaaz, qabz, qacz, qadz, qaez, qaiz, qajz, qalz, evOp, qaoz, qapz, qaqz, qarz, qatz, qavz,
 ↓reduceIte, Nat.reduceEqDiff, List.map_cons, List.map_nil, Option.map_some, qazz, qbaz, qbez, qbhz, qbiz, qblz, qbpz, qcfz, qciz, decide_true, Int.toNat_natCast, Int.ofNat_lt, Bool.not_false]
      exact retB rfl hk (all_bad' hlt (by rw [← hx]; exact hpx)).symm
    | true =>
      rw [hpx] at hfx
      simp (maxSteps := 1000000) (disch := omega) only [h5, h6, hlen, hlt, iaddr_t hvs, ← hx, qciz, hfx, add_n, qaaz, qabz, qacz, qadz, qaez, qajz, qalz, evOp, qaoz, qapz, qaqz, qarz, qatz, qavz,
 ↓reduceIte, Nat.reduceEqDiff, List.map_cons, List.map_nil, Option.map_some, qazz, qbdz, qbhz, qbpz, qcfz, qciz, decide_true, Int.toNat_natCast, Int.ofNat_lt, Bool.false_eq_true, Int.reduceToNat, Bool.not_true]
      refine loopQ_intro (m := xs.length - (i + 1)) (by omega) ?_
      rw [hI]
      refine ⟨i + 1, rfl, by omega, hk, fun j hj => ?_, h5, rfl⟩
      by_cases hji : j = i
      · subst hji; rw [← hx]; exact hpx
      · exact hall j (by omega)
  · obtain rfl : i = xs.length := by omega
    simp (maxSteps := 1000000) (disch := omega) only [h5, h6, hlen, hlt, qaaz, qabz, qacz, qagz, qaiz, qajz, qalz, evOp, qaoz, qapz, qarz, qatz, qavz,
 ↓reduceIte, Nat.reduceEqDiff, Option.map_some, qazz, qbbz, qbfz, qbhz, qbjz, qblz, qbpz, decide_false,
 Int.ofNat_lt, Bool.false_eq_true]
    exact retB rfl hk (all_getD' hall).symm

set_option maxHeartbeats 2000000 in
theorem rDomain_spec {l : Bs} (hl : l.length ≤ 100000000) : call prog (.fn 218 []) [.str l] st = some (.bool (decide (l.length ≤ 253) && partsB 46 labB l), st) := by
  refine call_of_W prog_218 ?_
  unfold F_posthornref07_Domain; dsimp only
  obtain ⟨xs, hxs⟩ : ∃ xs, xs = splitOn 46 [] l := ⟨_, rfl⟩
  have hsp := fun S : St => Parts_spec (st := S) (c := 46) hl
  rw [← hxs] at hsp
  have hk1 : Kept st (St.tok1 ⟨st.boxes, st.toks, st.loops, st.boxes.length⟩) := Kept.start.tok1
  have hvs := newSl_vs (st := (⟨st.boxes, st.toks, st.loops, st.boxes.length⟩ : St)) (esz := 1) (xs := xs.map .str)
  obtain ⟨V, hV⟩ : ∃ V, V = newSl (⟨st.boxes, st.toks, st.loops, st.boxes.length⟩ : St) 1 (xs.map .str) := ⟨_, rfl⟩
  have hsp0 := hsp (⟨st.boxes, st.toks, st.loops, st.boxes.length⟩ : St)
  rw [← hV] at hvs hsp0
  have hlen : lenPV false V = some (.int .i64 (xs.length : Int)) := by rw [len_vs hvs, List.length_map]
  have hp : partsB 46 labB l = xs.all labB := by rw [hxs]; rfl
  have hxl : ∀ j, j < xs.length → (xs.getD j []).length ≤ 100000000 := fun j hj => by
    have hm : xs.getD j [] ∈ splitOn 46 [] l := by rw [← hxs]; simp [List.getD, hj]
    have := split_len l [] _ hm
    simp at this ⊢; omega
  have hnum : xs.length ≤ 100000001 := by
    have := split_num (sep := 46) l []
    rw [← hxs] at this; omega
  rw [hp]
  simp (maxSteps := 1000000) (disch := omega) only [hsp0, qaaz, qabz, qadz, qajz, qalz, evOp, qaoz, qapz, qaqz, qarz, qatz, qavz,
 ↓reduceIte, List.append_nil, List.map_cons, List.map_nil, qawz, qazz, reduceCtorEq]
  obtain ⟨I, hI⟩ : ∃ I : Nat → Env → St → Prop, I = fun k e s' => ∃ (i : Nat), k = xs.length - i ∧ i ≤ xs.length ∧ Kept st s' ∧ (∀ j, j < i → labB (xs.getD j []) = true) ∧ e 0 = .str l ∧ e 3 = V ∧ e 4 = .int .i64 (i : Int) := ⟨_, rfl⟩
  refine W_loop I ?_ (n := xs.length) (by
    rw [hI]
    exact ⟨0, rfl, by omega, hk1, fun j h => by omega, rfl, rfl, rfl⟩)
  intro k e s' hh
  rw [hI] at hh
  obtain ⟨i, rfl, hi, hk, hall, h0, h3, h4⟩ := hh
  by_cases hlt : i < xs.length
  · obtain ⟨x, hx⟩ : ∃ x, x = xs.getD i [] := ⟨_, rfl⟩
    have hxl' : x.length ≤ 100000000 := by rw [hx]; exact hxl i hlt
    have bad : labB x = false → (decide (l.length ≤ 253) && xs.all labB) = false := fun h => by rw [all_bad' hlt (by rw [← hx]; exact h), Bool.and_false]
    have next : labB x = true → ∀ (E : Env) (S : St), Kept st S → E 0 = .str l → E 3 = V → E 4 = .int .i64 ((i + 1 : Nat) : Int) → ∃ m, m < xs.length - i ∧ I m E S := fun h E S q1 q2 q3 q4 =>
      ⟨xs.length - (i + 1), by omega, by
        rw [hI]
        refine ⟨i + 1, rfl, by omega, q1, fun j hj => ?_, q2, q3, q4⟩
        by_cases hji : j = i
        · subst hji; rw [← hx]; exact h
        · exact hall j (by omega)⟩
    clear hI hall
    by_cases n0 : x = []
    · have e0 : (x.length : Int) = 0 := by rw [n0]; rfl
      simp (maxSteps := 1000000) (disch := omega) only [h3, h4, hlen, hlt, iaddr_t hvs, ← hx, qciz, len_s, eq_true e0, qaaz, qabz, qacz, qadz, qaez, qaiz, qajz, qakz, qalz, qamz, qanz, evOp, qaoz, qapz, qarz, qatz, qavz,
 ↓reduceIte, Nat.reduceEqDiff, Option.map_some, qazz, qbaz, qbez, qbhz, qbiz, qblz, qbpz, qbtz, qciz, beq_false, decide_true, Int.toNat_natCast, Int.ofNat_lt, Bool.false_eq_true, Bool.not_true]
      exact retB rfl hk (bad (by simp [labB, n0])).symm
    have hpos := List.length_pos_iff.2 n0
    have e0 : ¬ (x.length : Int) = 0 := by omega
    by_cases n63 : 63 < x.length
    · have e63 : (63 : Int) < (x.length : Int) := by omega
      simp (maxSteps := 1000000) (disch := omega) only [h3, h4, hlen, hlt, iaddr_t hvs, ← hx, qciz, len_s, e0, e63, qaaz, qabz, qacz, qadz, qaez, qaiz, qajz, qakz, qalz, qamz, qanz, evOp, qaoz, qapz, qarz, qatz, qavz,
 ↓reduceIte, Nat.reduceEqDiff, Option.map_some, qazz, qbaz, qbez, qbhz, qbiz, qblz, qbpz, qbrz, qbtz, qciz, beq_false, decide_true, decide_false,
 Int.toNat_natCast, Int.ofNat_lt, Bool.false_eq_true, Bool.not_true, Bool.not_false]
      exact retB rfl hk (bad (by simp [labB, show ¬ x.length ≤ 63 by omega])).symm
    have e63 : ¬ (63 : Int) < (x.length : Int) := by omega
    obtain ⟨a, ha⟩ : ∃ a, a = x.getD 0 0 := ⟨_, rfl⟩
    have i0 : idxSPV (.str x) (.int .i64 0) = some (.b8 a) := by rw [idx_s (by omega) (by simpa using hpos), ha]; rfl
    by_cases f0 : a = 45
    · simp (maxSteps := 1000000) (disch := omega) only [h3, h4, hlen, hlt, iaddr_t hvs, ← hx, qciz, len_s, e0, e63, i0, eq_true f0, qaaz, qabz, qacz, qadz, qaez, qaiz, qajz, qakz, qalz, qamz, qanz, evOp, qaoz, qapz, qarz, qatz, qavz,
 ↓reduceIte, Nat.reduceEqDiff, Option.map_some, qazz, qbaz, qbez, qbhz, qbiz, qblz, qbpz, qbrz, qbtz, qbvz, qciz, beq_false, decide_true, decide_false,
 Int.toNat_natCast, Int.ofNat_lt, Bool.false_eq_true, Bool.not_true, Bool.not_false]
      exact retB rfl hk (bad (by simp only [labB, ← ha, f0, decide_true, Bool.and_false, Bool.false_and, Bool.not_true])).symm
    obtain ⟨z, hz⟩ : ∃ z, z = x.getD (x.length - 1) 0 := ⟨_, rfl⟩
    have i1 : idxSPV (.str x) (.int .i64 ((x.length - 1 : Nat) : Int)) = some (.b8 z) := by rw [idx_s (by omega) (by rw [Int.toNat_natCast]; omega), hz]; rfl
    have hsub : binPV .sub .no (.int .i64 (x.length : Int)) (.int .i64 1) = some (.int .i64 ((x.length - 1 : Nat) : Int)) := by
      rw [sub_n (by omega) (by simp; omega) (by omega)]; rfl
    by_cases f1 : z = 45
    · simp (maxSteps := 1000000) (disch := omega) only [h3, h4, hlen, hlt, iaddr_t hvs, ← hx, qciz, len_s, e0, e63, i0, f0, hsub, i1, eq_true f1, qaaz, qabz, qacz, qadz, qaez, qaiz, qajz, qakz, qalz, qamz, qanz, evOp, qaoz, qapz, qarz, qatz, qavz,
 ↓reduceIte, Nat.reduceEqDiff, Option.map_some, qazz, qbaz, qbez, qbhz, qbiz, qblz, qbpz, qbrz, qbtz, qbvz, qciz, beq_false, decide_true, decide_false,
 Int.toNat_natCast, Int.ofNat_lt, Bool.false_eq_true, Bool.not_false]
      exact retB rfl hk (bad (by simp only [labB, ← hz, f1, decide_true, Bool.and_false, Bool.not_true])).symm
    have he : x.isEmpty = false := by cases x with | nil => exact absurd rfl n0 | cons a r => rfl
    have hlab : labB x = x.all labC := by
      have : x.length ≤ 63 := by omega
      simp only [labB, he, this, ← ha, ← hz, f0, f1, decide_true, decide_false, Bool.and_true, Bool.not_false]
    simp (maxSteps := 1000000) (disch := omega) only [h3, h4, hlen, hlt, iaddr_t hvs, ← hx, qciz, len_s, e0, e63, i0, f0, hsub, i1, f1, qaaz, qabz, qacz, qadz, qaez, qajz, qakz, qalz, qamz, qanz, evOp, qaoz, qapz, qarz, qatz, qavz,
 ↓reduceIte, Nat.reduceEqDiff, Option.map_some, qazz, qbhz, qbpz, qbrz, qbtz, qbvz, qciz, beq_false, decide_true, decide_false,
 Int.toNat_natCast, Int.ofNat_lt, Bool.false_eq_true, Bool.not_false]
    refine W_mono (Q := fun y E S => (y = .ret ∧ x.all labC = false ∧ E 2 = .bool false ∧ Kept st S) ∨ (y = .exit 2 ∧ x.all labC = true ∧ Kept st S ∧ E 0 = .str l ∧ E 3 = V ∧ E 4 = .int .i64 (i : Int))) ?_ ?_
    · obtain ⟨J, hJ⟩ : ∃ J : Ex → Env → St → Prop, J = fun y E S => (y = .ret ∧ x.all labC = false ∧ E 2 = .bool false ∧ Kept st S) ∨ (y = .exit 2 ∧ x.all labC = true ∧ Kept st S ∧ E 0 = .str l ∧ E 3 = V ∧ E 4 = .int .i64 (i : Int)) := ⟨_, rfl⟩
      rw [← hJ]
      obtain ⟨I2, hI2⟩ : ∃ I2 : Nat → Env → St → Prop, I2 = fun k E S => ∃ (q : Nat), k = x.length - q ∧ q ≤ x.length ∧ Kept st S ∧ (∀ j, j < q → labC (x.getD j 0) = true) ∧ E 0 = .str l ∧ E 3 = V ∧ E 4 = .int .i64 (i : Int) ∧ E 5 = .str x ∧ E 6 = .int .i64 (q : Int) := ⟨_, rfl⟩
      refine W_loop I2 ?_ (n := x.length) (by
        rw [hI2]
        exact ⟨0, rfl, by omega, hk, fun j h => by omega, h0, h3, h4, rfl, rfl⟩)
      intro k E S hh
      rw [hI2] at hh
      obtain ⟨q, rfl, hq, hk2, hal, g0, g3, g4, g5, g6⟩ := hh
      by_cases hql : q < x.length
      · obtain ⟨c, hc⟩ : ∃ c, c = x.getD q 0 := ⟨_, rfl⟩
        have hL := fun S : St => Letter_spec (st := S) (c := c)
        have nx : labC c = true → ∀ E : Env, E 0 = .str l → E 3 = V → E 4 = .int .i64 (i : Int) → E 5 = .str x → E 6 = .int .i64 ((q + 1 : Nat) : Int) → ∃ m, m < x.length - q ∧ I2 m E S := fun h E q1 q2 q3 q4 q5 =>
          ⟨x.length - (q + 1), by omega, by
            rw [hI2]
            refine ⟨q + 1, rfl, by omega, hk2, fun j hj => ?_, q1, q2, q3, q4, q5⟩
            by_cases hji : j = q
            · subst hji; rw [← hc]; exact h
            · exact hal j (by omega)⟩
        cases hac : alnC c with
        | true =>
          rw [hac] at hL
          simp (maxSteps := 1000000) (disch := omega) only [g5, g6, len_s, hql, idx_s, ← hc, hL, add_n, loopQ_normal, qaaz, qabz, qacz, qadz, qaez, qajz, qakz, qalz, qamz, qanz, evOp, qaoz, qapz, qaqz, qarz, qatz, qavz,
 ↓reduceIte, Nat.reduceEqDiff, List.map_cons, List.map_nil, Option.map_some, qazz, qbdz, qbhz, qbpz, qcfz, beq_true, decide_true, Int.toNat_natCast, Int.ofNat_lt, Bool.false_eq_true, Int.reduceToNat, Bool.not_true]
          exact nx (by simp only [labC, hac, Bool.true_or]) _ g0 g3 g4 g5 rfl
        | false =>
          rw [hac] at hL
          by_cases hcd : c = 45
          · simp (maxSteps := 1000000) (disch := omega) only [g5, g6, len_s, hql, idx_s, ← hc, hL, eq_true hcd, add_n, loopQ_normal, qaaz, qabz, qacz, qadz, qaez, qajz, qakz, qalz, qamz, qanz, evOp, qaoz, qapz, qaqz, qarz, qatz, qavz,
 ↓reduceIte, Nat.reduceEqDiff, List.map_cons, List.map_nil, Option.map_some, qazz, qbdz, qbhz, qbpz, qbwz, qcfz, beq_true, decide_true, decide_false,
 Int.toNat_natCast, Int.ofNat_lt, Bool.false_eq_true, Int.reduceToNat, Bool.not_false, ne_eq, not_true_eq_false]
            exact nx (by simp only [labC, hcd, decide_true, Bool.or_true]) _ g0 g3 g4 g5 rfl
          · simp (maxSteps := 1000000) (disch := omega) only [g5, g6, len_s, hql, idx_s, ← hc, hL, hcd, qaaz, qabz, qacz, qadz, qaez, qaiz, qajz, qakz, qalz, qamz, qanz, evOp, qaoz, qapz, qaqz, qarz, qatz, qavz,
 ↓reduceIte, Nat.reduceEqDiff, List.map_cons, List.map_nil, Option.map_some, qazz, qbaz, qbez, qbhz, qbiz, qbpz, qbwz, qcfz, beq_true, decide_true, Int.toNat_natCast, Int.ofNat_lt, Bool.not_false, ne_eq, not_false_eq_true]
            rw [hJ]
            exact .inl ⟨rfl, all_bad (p := labC) hql (by rw [← hc]; simp only [labC, hac, hcd, decide_false, Bool.or_false]), rfl, hk2⟩
      · obtain rfl : q = x.length := by omega
        simp (maxSteps := 1000000) (disch := omega) only [g5, g6, len_s, hql, qaaz, qabz, qacz, qagz, qajz, qalz, evOp, qaoz, qarz, qatz, qavz,
 ↓reduceIte, Nat.reduceEqDiff, Option.map_some, qazz, qbbz, qbhz, qbjz, qbpz, decide_false,
 Int.ofNat_lt, Bool.false_eq_true]
        rw [hJ]
        exact .inr ⟨rfl, all_getD (p := labC) hal, hk2, g0, g3, g4⟩
    · rintro y E S (⟨rfl, hb, g2, hk2⟩ | ⟨rfl, hb, hk2, g0, g3, g4⟩)
      · simp (maxSteps := 1000000) (disch := omega) only [qbaz, qbez, qbiz, qblz]
        exact retB g2 hk2 (bad (by rw [hlab]; exact hb)).symm
      · simp (maxSteps := 1000000) (disch := omega) only [g4, add_n, loopQ_normal, qabz, qajz, qalz, evOp, qaoz, qapz, qarz, qatz, qavz,
 ↓reduceIte, Option.map_some, qazz, qbdz, qbfz, Int.reduceToNat]
        exact next (by rw [hlab]; exact hb) _ _ hk2 g0 g3 rfl
  · obtain rfl : i = xs.length := by omega
    simp (maxSteps := 1000000) (disch := omega) only [h0, h3, h4, hlen, hlt, len_s, qaaz, qabz, qacz, qagz, qaiz, qajz, qalz, evOp, qaoz, qapz, qarz, qatz, qavz,
 ↓reduceIte, Nat.reduceEqDiff, Option.map_some, qazz, qbbz, qbfz, qbhz, qbjz, qblz, qbpz, qbqz, decide_false,
 Int.ofNat_lt, Bool.false_eq_true, reduceCtorEq]
    have e253 : ((l.length : Int) ≤ 253) = (l.length ≤ 253) := by apply propext; omega
    exact retB rfl hk (by rw [all_getD' hall, Bool.and_true]; simp only [e253])
end Go.Ab
/-
  The calendar: plain.
-/
namespace Go.Ab
set_option maxRecDepth 20000

def lpY (y : Nat) : Bool := (y % 4 == 0 && y % 100 != 0) || y % 400 == 0
def befY (y : Nat) : Nat := 365 * (y - 1970) + (y - 1) / 4 + (y - 1) / 400 - ((y - 1) / 100 + 477)
def mdY (y m : Nat) : Nat := if m = 2 then (if lpY y then 29 else 28) else if m = 4 ∨ m = 6 ∨ m = 9 ∨ m = 11 then 30 else 31
def cumY (y : Nat) : Nat → Nat
  | 0 => 0
  | m + 1 => cumY y m + if m = 0 then 0 else mdY y m

structure Ci (n y m d : Nat) : Prop where
  y1 : 1970 ≤ y
  y2 : y ≤ 9999
  m1 : 1 ≤ m
  m2 : m ≤ 12
  d1 : 1 ≤ d
  d2 : d ≤ mdY y m
  eq : n + 1 = befY y + cumY y m + d

end Go.Ab
/-
  Dates: two digits, names, the calendar's walk (the program's).
-/
namespace Go.Ab
set_option maxRecDepth 20000
variable {st s : St} {e : Env}

end Go.Ab
/-
  A day's year, month and day: both walks.
-/
namespace Go.Ab
set_option maxRecDepth 20000
variable {st s : St} {e : Env}

end Go.Ab
/-
  Dates are written, both ways; the law DatePrints.
-/
namespace Go.Ab
set_option maxRecDepth 20000
variable {st s : St} {e : Env}

theorem Time_spec {t : Int} : call prog (.fn 209 []) [.int .i64 t] st = some (.bool (decide (0 ≤ t ∧ t ≤ 253402300799)), st) := by
  refine call_of_W prog_209 ?_
  unfold F_posthornref12_Time; dsimp only
  by_cases h1 : 0 ≤ t
  · by_cases h2 : t < 253402300800
    · simp (maxSteps := 1000000) (disch := omega) only [h1, h2, qaaz, qabz, qaiz, qajz, qakz, qalz, qamz, qanz, evOp, qaoz, qapz, qarz, qatz, qavz,
 ↓reduceIte, Nat.reduceEqDiff, List.append_nil, qawz, Option.map_some, qazz, qblz, qbpz, qbsz, beq_true, decide_true, true_and, reduceCtorEq]
      exact retB rfl Kept.start (by have : t ≤ 253402300799 := by omega
                                    simp [this])
    · simp (maxSteps := 1000000) (disch := omega) only [h1, h2, qaaz, qabz, qaiz, qajz, qakz, qalz, qamz, qanz, evOp, qaoz, qapz, qarz, qatz, qavz,
 ↓reduceIte, Nat.reduceEqDiff, List.append_nil, qawz, Option.map_some, qazz, qblz, qbpz, qbsz, beq_true, decide_true, decide_false,
 true_and, reduceCtorEq]
      exact retB rfl Kept.start (by have : ¬ t ≤ 253402300799 := by omega
                                    simp [this])
  · simp (maxSteps := 1000000) (disch := omega) only [h1, qaaz, qabz, qaiz, qajz, qakz, qalz, qamz, qanz, evOp, qaoz, qapz, qarz, qatz, qavz,
 ↓reduceIte, Nat.reduceEqDiff, List.append_nil, qawz, Option.map_some, qazz, qblz, qbsz, beq_true, decide_false,
 Bool.false_eq_true, reduceCtorEq]
    exact retB rfl Kept.start (by simp [])

end Go.Ab
/-
  The document's plain addresses and ids.
-/
namespace Go.Ab
set_option maxRecDepth 20000
variable {st s : St} {e : Env}

theorem stripT {a b c : Bs} : strip (.agg [.str a, .str b, .str c]) = some (.agg [.str a, .str b, .str c]) := rfl
theorem lcT0 {a : PV} {r : List PV} : loadcPV false 1 (.cp ((a :: r).drop 0)) = some a := rfl
theorem lcT1 {a b : PV} {r : List PV} : loadcPV false 1 (.cp ((a :: b :: r).drop 1)) = some b := rfl
theorem lcT2 {a b c : PV} {r : List PV} : loadcPV false 1 (.cp ((a :: b :: c :: r).drop 2)) = some c := rfl
theorem faT {cells : List PV} {off : Nat} : faddrPV off (.cp cells) = some (.cp (cells.drop off)) := rfl

theorem rRight_spec {a : Adr} (h : okA a) : call prog (.fn 216 []) [aV a] st = some (.bool (rightA a), st) := by
  refine call_of_W prog_216 ?_
  unfold F_posthornref07_Right; dsimp only
  obtain ⟨n, l, d⟩ := a
  have hn := h.n; have hl := h.l; have hd := h.d
  simp only at hn hl hd
  have hA := fun S : St => ratoms_spec (st := S) (c := 46) hl
  have hD := fun S : St => rDomain_spec (st := S) hd
  have e64 : ((l.length : Int) ≤ 64) = (l.length ≤ 64) := by apply propext; omega
  have e128 : ((n.length : Int) ≤ 128) = (n.length ≤ 128) := by apply propext; omega
  simp (maxSteps := 1000000) (disch := omega) only [aV, stripT, cells_agg, Option.map_some, qaaz, qabz, qadz, qajz, qalz, evOp, qaoz, qapz, qarz, qatz, List.append_nil, qawz, Option.map_some, qazz]
  obtain ⟨I, hI⟩ : ∃ I : Nat → Env → St → Prop, I = fun k e s' => ∃ (i : Nat), k = n.length - i ∧ i ≤ n.length ∧ Kept st s' ∧ (∀ j, j < i → prC (n.getD j 0) = true) ∧ e 1 = .cp [.str n, .str l, .str d] ∧ e 3 = .int .i64 (i : Int) := ⟨_, rfl⟩
  refine W_loop I ?_ (n := n.length) (by
    rw [hI]
    exact ⟨0, rfl, by omega, Kept.start, fun j h => by omega, rfl, rfl⟩)
  intro k e s' hh
  rw [hI] at hh
  obtain ⟨i, rfl, hi, hk, hall, h1, h3⟩ := hh
  by_cases hlt : i < n.length
  · obtain ⟨c, hc⟩ : ∃ c, c = n.getD i 0 := ⟨_, rfl⟩
    have bad : prC c = false → ∀ E : Env, E 2 = .bool false → ∃ rv, resOf E s' [.tmp 2] = some rv ∧ leave st s' rv = (.bool (rightA (n, l, d)), st) := fun h E k2 =>
      retB k2 hk (by simp only [rightA, nmA, all_bad (p := prC) hlt (by rw [← hc]; exact h), Bool.false_and, Bool.and_false])
    have next : prC c = true → ∀ E : Env, E 1 = .cp [.str n, .str l, .str d] → E 3 = .int .i64 ((i + 1 : Nat) : Int) → ∃ m, m < n.length - i ∧ I m E s' := fun h E k0 k3 =>
      ⟨n.length - (i + 1), by omega, by
        rw [hI]
        refine ⟨i + 1, rfl, by omega, hk, fun j hj => ?_, k0, k3⟩
        by_cases hji : j = i
        · subst hji; rw [← hc]; exact h
        · exact hall j (by omega)⟩
    clear hI hall
    by_cases c1 : c < 32
    · simp (maxSteps := 1000000) (disch := omega) only [h1, h3, faT, lcT0, len_s, hlt, idx_s, ← hc, c1, qaaz, qabz, qacz, qadz, qaez, qaiz, qajz, qakz, qalz, qamz, qanz, evOp, qaoz, qapz, qarz, qatz, qavz,
 ↓reduceIte, Nat.reduceEqDiff, Option.map_some, qazz, qbaz, qbez, qbhz, qbiz, qblz, qbpz, qbxz, beq_false, decide_true, Int.toNat_natCast, Int.ofNat_lt, Bool.false_eq_true, Bool.not_true]
      exact bad (by simp only [prC, c1, decide_true, Bool.false_and, Bool.not_true]) _ rfl
    · by_cases c2 : 126 < c
      · simp (maxSteps := 1000000) (disch := omega) only [h1, h3, faT, lcT0, len_s, hlt, idx_s, ← hc, c1, c2, qaaz, qabz, qacz, qadz, qaez, qaiz, qajz, qakz, qalz, qamz, qanz, evOp, qaoz, qapz, qarz, qatz, qavz,
 ↓reduceIte, Nat.reduceEqDiff, Option.map_some, qazz, qbaz, qbez, qbhz, qbiz, qblz, qbpz, qbxz, qbzz, beq_false, decide_true, decide_false,
 Int.toNat_natCast, Int.ofNat_lt, Bool.false_eq_true, Bool.not_false]
        exact bad (by simp only [prC, c1, c2, decide_true, decide_false, Bool.and_false, Bool.not_true, Bool.not_false]) _ rfl
      · simp (maxSteps := 1000000) (disch := omega) only [h1, h3, faT, lcT0, len_s, hlt, idx_s, ← hc, c1, c2, add_n, loopQ_normal, qaaz, qabz, qacz, qadz, qaez, qajz, qakz, qalz, qamz, qanz, evOp, qaoz, qapz, qarz, qatz, qavz,
 ↓reduceIte, Nat.reduceEqDiff, Option.map_some, qazz, qbdz, qbhz, qbpz, qbxz, qbzz, beq_false, decide_true, decide_false,
 Int.toNat_natCast, Int.ofNat_lt, Bool.false_eq_true, Int.reduceToNat, Bool.not_false]
        exact next (by simp only [prC, c1, c2, decide_false, Bool.and_true, Bool.not_false]) _ h1 rfl
  · obtain rfl : i = n.length := by omega
    have hpr := all_getD (p := prC) hall
    by_cases c1 : n.length ≤ 128
    · by_cases c2 : l.length ≤ 64
      · cases c3 : partsB 46 atomB l with
        | true =>
          rw [c3] at hA
          simp (maxSteps := 1000000) (disch := omega) only [h1, h3, faT, lcT0, lcT1, lcT2, len_s, hlt, e64, e128, c1, c2, hA, hD, qaaz, qabz, qacz, qagz, qaiz, qajz, qakz, qalz, qamz, qanz, evOp, qaoz, qapz, qaqz, qarz, qatz, qavz,
 ↓reduceIte, Nat.reduceEqDiff, List.map_cons, List.map_nil, Option.map_some, qazz, qbbz, qbfz, qbhz, qbjz, qblz, qbpz, qbqz, beq_true, decide_true, decide_false,
 Int.ofNat_lt, Bool.false_eq_true]
          exact retB rfl hk (by simp only [rightA, nmA, hpr, c1, c2, c3, decide_true, Bool.and_true, Bool.true_and])
        | false =>
          rw [c3] at hA
          simp (maxSteps := 1000000) (disch := omega) only [h1, h3, faT, lcT0, lcT1, len_s, hlt, e64, e128, c1, c2, hA, qaaz, qabz, qacz, qagz, qaiz, qajz, qakz, qalz, qamz, qanz, evOp, qaoz, qapz, qaqz, qarz, qatz, qavz,
 ↓reduceIte, Nat.reduceEqDiff, List.map_cons, List.map_nil, Option.map_some, qazz, qbbz, qbfz, qbhz, qbjz, qblz, qbpz, qbqz, beq_true, decide_true, decide_false,
 Int.ofNat_lt, Bool.false_eq_true]
          exact retB rfl hk (by simp only [rightA, nmA, hpr, c1, c2, c3, decide_true, Bool.and_true, Bool.and_false, Bool.false_and])
      · simp (maxSteps := 1000000) (disch := omega) only [h1, h3, faT, lcT0, lcT1, len_s, hlt, e64, e128, c1, c2, qaaz, qabz, qacz, qagz, qaiz, qajz, qakz, qalz, qamz, qanz, evOp, qaoz, qapz, qarz, qatz, qavz,
 ↓reduceIte, Nat.reduceEqDiff, Option.map_some, qazz, qbbz, qbfz, qbhz, qbjz, qblz, qbpz, qbqz, beq_true, decide_true, decide_false,
 Int.ofNat_lt, Bool.false_eq_true]
        exact retB rfl hk (by simp only [rightA, nmA, hpr, c1, c2, decide_true, decide_false, Bool.and_true, Bool.false_and])
    · simp (maxSteps := 1000000) (disch := omega) only [h1, h3, faT, lcT0, len_s, hlt, e128, c1, qaaz, qabz, qacz, qagz, qaiz, qajz, qakz, qalz, qamz, qanz, evOp, qaoz, qapz, qarz, qatz, qavz,
 ↓reduceIte, Nat.reduceEqDiff, Option.map_some, qazz, qbbz, qbfz, qbhz, qbjz, qblz, qbpz, qbqz, beq_true, decide_false,
 Int.ofNat_lt, Bool.false_eq_true]
      exact retB rfl hk (by simp only [rightA, nmA, hpr, c1, decide_false, Bool.and_false])

theorem lab_no {l : Bs} (h : 64 ∈ l) : partsB 46 labB l = false := by
  cases hp : partsB 46 labB l with
  | false => rfl
  | true =>
    rcases parts_chars (q := fun c => labC c = true) (fun x hx c hc => (lab_ne hx).2 c hc) hp 64 h with h1 | h1
    · exact absurd h1 (by decide)
    · exact absurd h1 (by decide)
theorem split_ne {sep : UInt8} : ∀ (l acc : Bs), splitOn sep acc l ≠ []
  | [], acc => by simp [splitOn]
  | c :: r, acc => by
    rw [splitOn]
    split
    · simp
    · exact split_ne r _
theorem split_two {r acc : Bs} : (splitOn 64 acc r).length = 1 ↔ 64 ∉ r := by
  rcases chr_split 64 r with ⟨h1, _⟩ | ⟨n, t, rfl, h2⟩
  · rw [split_none _ _ (fun c hc e => h1 (by rw [← e]; exact hc))]; simp [h1]
  · rw [split_at _ _ _ h2]
    constructor
    · intro h
      have := List.length_pos_iff.2 (split_ne (sep := 64) t [])
      rw [List.length_cons] at h; omega
    · intro h; exact absurd (by simp) h
theorem plain_parts (s : Bs) : ((splitOn 64 [] s).length ≠ 2 ∧ plainA s = (noA, 60)) ∨ ∃ l d, splitOn 64 [] s = [l, d] ∧ l.length ≤ s.length ∧ d.length ≤ s.length ∧ plainA s = if rightA ([], l, d) = true then (([], l, d), 0) else (noA, 60) := by
  rcases chr_split 64 s with ⟨h1, h2⟩ | ⟨n, t, rfl, h2⟩
  · left
    rw [split_none _ _ (fun c hc e => h1 (by rw [← e]; exact hc))]
    refine ⟨by simp, ?_⟩
    have hc : cutA s = ([], s, []) := by unfold cutA; rw [h2, if_neg (by decide)]
    unfold plainA
    rw [hc, if_neg]
    simp [rightA, partsB, splitOn, labB]
  · have hix := index_chr (k := 64) n t h2
    have hc : cutA (n ++ 64 :: t) = ([], n, t) := by
      unfold cutA
      rw [hix, if_pos (by omega), Int.toNat_natCast]
      simp [List.drop_append]
    have hp : plainA (n ++ 64 :: t) = if rightA ([], n, t) = true then (([], n, t), 0) else (noA, 60) := by unfold plainA; rw [hc]
    rw [split_at _ _ _ h2, List.nil_append]
    by_cases ht : 64 ∈ t
    · left
      refine ⟨?_, ?_⟩
      · have := mt (split_two (r := t) (acc := [])).1 (by simpa using ht)
        simp; omega
      · rw [hp, if_neg]
        simp [rightA, lab_no ht]
    · right
      rw [split_none t [] (fun c hc e => ht (by rw [← e]; exact hc))]
      exact ⟨n, t, rfl, by simp, by simp; omega, hp⟩

theorem rPlain_spec {s : Bs} (h : s.length ≤ 100000000) : call prog (.fn 213 []) [.str s] st = some (.tup [aV (plainA s).1, .int .i64 (plainA s).2], st) := by
  refine call_of_W prog_213 ?_
  unfold F_posthornref07_Plain; dsimp only
  have hsp := fun S : St => Parts_spec (st := S) (c := 64) h
  have hk1 : Kept st (St.tok1 ⟨st.boxes ++ [cA [] [] []], st.toks, st.loops, st.boxes.length⟩) := Kept.box1.tok1
  have hvs := newSl_vs (st := (⟨st.boxes ++ [cA [] [] []], st.toks, st.loops, st.boxes.length⟩ : St)) (esz := 1) (xs := (splitOn 64 [] s).map .str)
  obtain ⟨V, hV⟩ : ∃ V, V = newSl (⟨st.boxes ++ [cA [] [] []], st.toks, st.loops, st.boxes.length⟩ : St) 1 ((splitOn 64 [] s).map .str) := ⟨_, rfl⟩
  have hsp0 := hsp (⟨st.boxes ++ [cA [] [] []], st.toks, st.loops, st.boxes.length⟩ : St)
  rw [← hV] at hvs hsp0
  have hlen : lenPV false V = some (.int .i64 ((splitOn 64 [] s).length : Int)) := by rw [len_vs hvs, List.length_map]
  have hb0 : buildCells [.str [], .str [], .str []] [] = some (cA [] [] []) := rfl
  have hst : ∀ (n l d : Bs) (B : List (List PV)) T L lo, storePV ⟨B ++ [cA [] [] []], T, L, lo⟩ 3 (.ptr B.length 0) (.agg (cA n l d)) = some ⟨B ++ [cA n l d], T, L, lo⟩ := fun n l d B T L lo => st_aa
  have hlen1 : (st.boxes ++ [cA [] [] []]).length = st.boxes.length + 1 := by simp
  have fin1 : ∀ (E : Env) (x y z : Bs) (c : Int), E 2 = .ptr st.boxes.length 0 → E 3 = .int .i64 c → plainA s = ((x, y, z), c) →
      ∃ rv, resOf E ⟨st.boxes ++ [cA x y z], st.toks ++ [true], st.loops, st.boxes.length⟩ [.cell 2 true 3, .tmp 3] = some rv ∧ leave st ⟨st.boxes ++ [cA x y z], st.toks ++ [true], st.loops, st.boxes.length⟩ rv = (.tup [aV (plainA s).1, .int .i64 (plainA s).2], st) := by
    intro E x y z c k2 k3 hp
    have hk : Kept st (St.tok1 ⟨st.boxes ++ [cA x y z], st.toks, st.loops, st.boxes.length⟩) := (Kept.box1 (st := st) (z := cA x y z)).tok1
    refine ⟨.tup [.agg (cA x y z), .int .i64 c], ?_, ?_⟩
    · simp [resOf, rvAll, rv1, k2, k3, loadPV, readCells, notTup, packRes]
    · rw [hp]; exact hk.leave rfl (fun _ _ => rfl)
  have fin2 : ∀ (E : Env) (x y z : Bs) (w : List PV) (c : Int), E 2 = .ptr st.boxes.length 0 → E 3 = .int .i64 c → plainA s = ((x, y, z), c) →
      ∃ rv, resOf E ⟨st.boxes ++ [cA x y z] ++ [w], st.toks ++ [true], st.loops, st.boxes.length⟩ [.cell 2 true 3, .tmp 3] = some rv ∧ leave st ⟨st.boxes ++ [cA x y z] ++ [w], st.toks ++ [true], st.loops, st.boxes.length⟩ rv = (.tup [aV (plainA s).1, .int .i64 (plainA s).2], st) := by
    intro E x y z w c k2 k3 hp
    have hk : Kept st (St.tok1 ⟨st.boxes ++ [cA x y z] ++ [w], st.toks, st.loops, st.boxes.length⟩) := ((Kept.box1 (st := st) (z := cA x y z)).alloc).tok1
    refine ⟨.tup [.agg (cA x y z), .int .i64 c], ?_, ?_⟩
    · simp [resOf, rvAll, rv1, k2, k3, loadPV, readCells, notTup, packRes]
    · rw [hp]; exact hk.leave rfl (fun _ _ => rfl)
  rcases plain_parts s with ⟨p1, p2⟩ | ⟨l, d, p1, p3, p4, p2⟩
  · have e2 : ¬ ((splitOn 64 [] s).length : Int) = 2 := by omega
    simp (maxSteps := 1000000) (disch := omega) only [allocPV, hsp0, hlen, e2, hb0, St.tok1, hst, qaaz, qabz, qacz, qaiz, qajz, qalz, evOp, qaoz, qapz, qaqz, qarz, qatz, qauz, qavz,
 ↓reduceIte, Nat.reduceEqDiff, List.append_nil, List.map_cons, List.map_nil, qawz, Option.map_some, qazz, qbaz, qbhz, qblz, qbuz, decide_true, reduceCtorEq, ne_eq, not_false_eq_true]
    exact fin1 _ [] [] [] 60 rfl rfl p2
  · have hvs2 : V.vs 1 = some ([l, d].map .str) := by rw [hvs, p1]
    have e2 : ((splitOn 64 [] s).length : Int) = 2 := by rw [p1]; rfl
    have z0 : iaddrPV 1 V (.int .i64 0) = some (.cp [.str l]) := iaddr_t hvs2 (by decide) (by simp)
    have z1 : iaddrPV 1 V (.int .i64 1) = some (.cp [.str d]) := iaddr_t hvs2 (by decide) (by simp)
    have c0 : ∀ v : PV, loadcPV false 1 (.cp [v]) = some v := fun _ => rfl
    have hbuild : buildCells [.str [], .str [], .str []] [(1, 1, .str l), (2, 1, .str d)] = some (cA [] l d) := rfl
    have hR := fun S : St => rRight_spec (st := S) (a := ([], l, d)) ⟨by simp, by simp only; omega, by simp only; omega⟩
    simp only [aV] at hR
    have hs2 : ∀ T L lo, storePV ⟨st.boxes ++ [cA [] [] []] ++ [cA [] [] []], T, L, lo⟩ 3 (.ptr (st.boxes.length + 1) 0) (.agg (cA [] l d)) = some ⟨st.boxes ++ [cA [] [] []] ++ [cA [] l d], T, L, lo⟩ := fun T L lo => by
      have := st_aa (B := st.boxes ++ [cA [] [] []]) (T := T) (L := L) (lo := lo) (a := []) (b := []) (c := []) (a' := []) (b' := l) (c' := d)
      rw [hlen1] at this; exact this
    have hl2 : ∀ x T L lo, loadPV ⟨st.boxes ++ [x] ++ [cA [] l d], T, L, lo⟩ true 3 (.ptr (st.boxes.length + 1) 0) = some (.agg (cA [] l d)) := fun x T L lo => by
      have := ld_aa (B := st.boxes ++ [x]) (T := T) (L := L) (lo := lo) (a := []) (b := l) (c := d)
      simpa using this
    have hs0 : ∀ (x y z : Bs) (w : List PV) T L lo, storePV ⟨st.boxes ++ [cA [] [] []] ++ [w], T, L, lo⟩ 3 (.ptr st.boxes.length 0) (.agg (cA x y z)) = some ⟨st.boxes ++ [cA x y z] ++ [w], T, L, lo⟩ := fun x y z w T L lo => by
      simp [storePV, PV.cells, PV.inB, PV.inB.inBAll, setCells, hasTok, tokOf, leafOk]
    cases hr : rightA ([], l, d) with
    | true =>
      rw [hr] at hR
      rw [if_pos hr] at p2
      simp (maxSteps := 1000000) (disch := omega) only [allocPV, hsp0, hlen, eq_true e2, z0, z1, c0, hbuild, hlen1, hs2, hl2, hR, hs0, St.tok1, qaaz, qabz, qacz, qaez, qaiz, qajz, qalz, evOp, qaoz, qapz, qaqz, qarz, qatz, qauz, qavz,
 ↓reduceIte, Nat.reduceEqDiff, List.append_nil, List.map_cons, List.map_nil, qawz, Option.map_some, qazz, qbhz, qblz, qbuz, qcfz, decide_false,
 Bool.false_eq_true, reduceCtorEq, Bool.not_true, ne_eq, not_true_eq_false]
      exact fin2 _ [] l d _ 0 rfl rfl p2
    | false =>
      rw [hr] at hR
      rw [if_neg (by rw [hr]; simp)] at p2
      simp (maxSteps := 1000000) (disch := omega) only [allocPV, hsp0, hlen, eq_true e2, z0, z1, c0, hbuild, hb0, hlen1, hs2, hl2, hR, hs0, St.tok1, qaaz, qabz, qacz, qaez, qaiz, qajz, qalz, evOp, qaoz, qapz, qaqz, qarz, qatz, qauz, qavz,
 ↓reduceIte, Nat.reduceEqDiff, List.append_nil, List.map_cons, List.map_nil, qawz, Option.map_some, qazz, qbaz, qbhz, qblz, qbuz, qcfz, decide_false,
 Bool.false_eq_true, reduceCtorEq, Bool.not_false, ne_eq, not_true_eq_false]
      exact fin2 _ [] [] [] _ 60 rfl rfl p2
end Go.Ab
/-
  Methods, signs of a message and notes that may be: both walked.
-/
namespace Go.Ab
set_option maxRecDepth 20000
variable {st s : St} {e : Env}

theorem uid_C (c : UInt8) : uiC c = (!decide (c ≤ 32) && !decide (127 ≤ c) && !hasB [92, 59, 44] [c]) := by
  have := all8 (p := fun c => uiC c == (!decide (c ≤ 32) && !decide (127 ≤ c) && !hasB [92, 59, 44] [c])) (by kernel_rfl) c
  simpa only [beq_iff_eq] using this

theorem isMethod_spec {l : Bs} (hl : l.length ≤ 9223372036854775807) : call prog (.fn 201 []) [.str l] st = some (.bool (methB l), st) := by
  refine call_of_W prog_201 ?_
  unfold F_event_isMethod; dsimp only
  simp (maxSteps := 1000000) (disch := omega) only [len_s, qaaz, qabz, qadz, qajz, qalz, evOp, qaoz, qapz, qarz, qatz, qavz,
 ↓reduceIte, List.append_nil, qawz, Option.map_some, qazz, reduceCtorEq]
  obtain ⟨I, hI⟩ : ∃ I : Nat → Env → St → Prop, I = fun k e s' => ∃ (i : Nat), k = l.length - i ∧ i ≤ l.length ∧ Kept st s' ∧ (∀ j, j < i → mtC (l.getD j 0) = true) ∧ e 0 = .str l ∧ e 5 = .int .i64 (l.length : Int) ∧ e 6 = .int .i64 (i : Int) := ⟨_, rfl⟩
  refine W_loop I ?_ (n := l.length) (by
    rw [hI]
    exact ⟨0, rfl, by omega, Kept.start, fun j h => by omega, rfl, rfl, rfl⟩)
  intro k e s' hh
  rw [hI] at hh
  obtain ⟨i, rfl, hi, hk, hall, h0, h5, h6⟩ := hh
  by_cases hlt : i < l.length
  · obtain ⟨c, hc⟩ : ∃ c, c = l.getD i 0 := ⟨_, rfl⟩
    have bad : mtC c = false → ∀ E : Env, E 2 = .bool false → ∃ rv, resOf E s' [.tmp 2] = some rv ∧ leave st s' rv = (.bool (methB l), st) := fun h E k2 =>
      retB k2 hk (by simp only [methB, all_bad (p := mtC) hlt (by rw [← hc]; exact h), Bool.false_and])
    have next : mtC c = true → ∀ E : Env, E 0 = .str l → E 5 = .int .i64 (l.length : Int) → E 6 = .int .i64 ((i + 1 : Nat) : Int) → ∃ m, m < l.length - i ∧ I m E s' := fun h E k0 k5 k6 =>
      ⟨l.length - (i + 1), by omega, by
        rw [hI]
        refine ⟨i + 1, rfl, by omega, hk, fun j hj => ?_, k0, k5, k6⟩
        by_cases hji : j = i
        · subst hji; rw [← hc]; exact h
        · exact hall j (by omega)⟩
    simp (maxSteps := 1000000) (disch := omega) only [h0, h5, h6, hlt, idx_s, ← hc, add_n, loopQ_normal, qaaz, qabz, qacz, qadz, qaez, qagz, qaiz, qajz, qclz, qcmz, qcnz, qcoz, qcpz, qcqz, qcrz, qcwz, Decidable.not_not, forall_const, qalz, evOp, qaoz, qapz, qarz, qatz, qavz,
 ↓reduceIte, Nat.reduceEqDiff, Option.map_some, qazz, qbaz, qbbz, qbdz, qbez, qbfz, qbiz, qbjz, qblz, qbpz, qbxz, qbzz, qccz, decide_eq_true_eq, decide_eq_false_iff_not, decide_true, Int.toNat_natCast, Int.ofNat_lt, Bool.false_eq_true, Bool.true_eq_false, Int.reduceToNat, true_and, and_true, reduceCtorEq, ne_eq]
    clear hc hall hI
    repeat' (first | refine And.intro ?_ ?_ | intro q)
    all_goals first | contradiction | exact bad (by simp only [mtC, *, decide_true, decide_false, Bool.and_true, Bool.and_false, Bool.false_and, Bool.not_true, Bool.not_false] <;> decide) _ rfl | exact next (by simp only [mtC, *, decide_false, Bool.and_true, Bool.not_false] <;> decide) _ h0 h5 rfl | (exfalso; subst_vars; first | (simp_all; done) | (revert q; decide))
  · obtain rfl : i = l.length := by omega
    have ha := all_getD (p := mtC) hall
    by_cases g1 : l = []
    · simp (maxSteps := 1000000) (disch := omega) only [h0, h5, h6, hlt, len_s, eq_true g1, qaaz, qabz, qacz, qadz, qaez, qagz, qaiz, qajz, qclz, qcmz, qcnz, qcqz, qcrz, qcwz, forall_const, qalz, evOp, qaoz, qapz, qarz, qatz, qavz,
 ↓reduceIte, Nat.reduceEqDiff, Option.map_some, qazz, qbbz, qbfz, qbjz, qblz, qbpz, qbqz, qccz, decide_false,
 Int.ofNat_lt, Bool.false_eq_true, Bool.true_eq_false, true_and, and_true, reduceCtorEq, ne_eq, not_true_eq_false]
      exact retB rfl hk (by simp [methB, g1])
    · have hp := List.length_pos_iff.2 g1
      have e1 : (1 : Int) ≤ (l.length : Int) := by omega
      have d1 : 1 ≤ l.length := by omega
      by_cases g2 : l.length ≤ 32
      · have e2 : (l.length : Int) ≤ 32 := by omega
        simp (maxSteps := 1000000) (disch := omega) only [h0, h5, h6, hlt, len_s, g1, e2, qaaz, qabz, qacz, qadz, qaez, qagz, qaiz, qajz, qclz, qcmz, qcnz, qcqz, qcrz, qcwz, forall_const, qalz, evOp, qaoz, qapz, qarz, qatz, qavz,
 ↓reduceIte, Nat.reduceEqDiff, Option.map_some, qazz, qbbz, qbfz, qbjz, qblz, qbpz, qbqz, qccz, decide_true, decide_false,
 Int.ofNat_lt, Bool.false_eq_true, Bool.true_eq_false, true_and, and_true, reduceCtorEq, ne_eq, not_false_eq_true]
        exact retB rfl hk (by simp only [methB, ha, d1, g2, decide_true, Bool.and_true])
      · have e2 : ¬ (l.length : Int) ≤ 32 := by omega
        simp (maxSteps := 1000000) (disch := omega) only [h0, h5, h6, hlt, len_s, g1, e2, qaaz, qabz, qacz, qadz, qaez, qagz, qaiz, qajz, qclz, qcmz, qcnz, qcqz, qcrz, qcwz, forall_const, qalz, evOp, qaoz, qapz, qarz, qatz, qavz,
 ↓reduceIte, Nat.reduceEqDiff, Option.map_some, qazz, qbbz, qbfz, qbjz, qblz, qbpz, qbqz, qccz, decide_true, decide_false,
 Int.ofNat_lt, Bool.false_eq_true, Bool.true_eq_false, true_and, and_true, reduceCtorEq, ne_eq, not_false_eq_true]
        exact retB rfl hk (by simp only [methB, g2, decide_false, Bool.and_false])

theorem isUID_spec {l : Bs} (hl : l.length ≤ 100000000) : call prog (.fn 202 []) [.str l] st = some (.bool (uidB l), st) := by
  refine call_of_W prog_202 ?_
  unfold F_event_isUID; dsimp only
  simp (maxSteps := 1000000) (disch := omega) only [len_s, qaaz, qabz, qadz, qajz, qalz, evOp, qaoz, qapz, qarz, qatz, qavz,
 ↓reduceIte, List.append_nil, qawz, Option.map_some, qazz, reduceCtorEq]
  obtain ⟨I, hI⟩ : ∃ I : Nat → Env → St → Prop, I = fun k e s' => ∃ (i : Nat), k = l.length - i ∧ i ≤ l.length ∧ Kept st s' ∧ (∀ j, j < i → uiC (l.getD j 0) = true) ∧ e 0 = .str l ∧ e 5 = .int .i64 (l.length : Int) ∧ e 6 = .int .i64 (i : Int) := ⟨_, rfl⟩
  refine W_loop I ?_ (n := l.length) (by
    rw [hI]
    exact ⟨0, rfl, by omega, Kept.start, fun j h => by omega, rfl, rfl, rfl⟩)
  intro k e s' hh
  rw [hI] at hh
  obtain ⟨i, rfl, hi, hk, hall, h0, h5, h6⟩ := hh
  by_cases hlt : i < l.length
  · obtain ⟨c, hc⟩ : ∃ c, c = l.getD i 0 := ⟨_, rfl⟩
    have bad : uiC c = false → ∀ E : Env, E 2 = .bool false → ∃ rv, resOf E s' [.tmp 2] = some rv ∧ leave st s' rv = (.bool (uidB l), st) := fun h E k2 =>
      retB k2 hk (by simp only [uidB, all_bad (p := uiC) hlt (by rw [← hc]; exact h), Bool.false_and])
    have next : uiC c = true → ∀ E : Env, E 0 = .str l → E 5 = .int .i64 (l.length : Int) → E 6 = .int .i64 ((i + 1 : Nat) : Int) → ∃ m, m < l.length - i ∧ I m E s' := fun h E k0 k5 k6 =>
      ⟨l.length - (i + 1), by omega, by
        rw [hI]
        refine ⟨i + 1, rfl, by omega, hk, fun j hj => ?_, k0, k5, k6⟩
        by_cases hji : j = i
        · subst hji; rw [← hc]; exact h
        · exact hall j (by omega)⟩

    by_cases q1 : c < 33
    · simp (maxSteps := 1000000) (disch := omega) only [h0, h5, h6, hlt, idx_s, ← hc, q1, qaaz, qabz, qacz, qadz, qaez, qaiz, qajz, qakz, qalz, qamz, qanz, evOp, qaoz, qapz, qarz, qatz, qavz,
 ↓reduceIte, Nat.reduceEqDiff, Option.map_some, qazz, qbaz, qbez, qbhz, qbiz, qblz, qbpz, qbxz, beq_false, decide_true, Int.toNat_natCast, Int.ofNat_lt, Bool.false_eq_true, reduceCtorEq, Bool.not_true]
      exact bad (by simp only [uiC, q1, decide_true, Bool.false_and, Bool.not_true]) _ rfl
    by_cases q2 : 126 < c
    · simp (maxSteps := 1000000) (disch := omega) only [h0, h5, h6, hlt, idx_s, ← hc, q1, q2, qaaz, qabz, qacz, qadz, qaez, qaiz, qajz, qakz, qalz, qamz, qanz, evOp, qaoz, qapz, qarz, qatz, qavz,
 ↓reduceIte, Nat.reduceEqDiff, Option.map_some, qazz, qbaz, qbez, qbhz, qbiz, qblz, qbpz, qbxz, qbzz, beq_false, decide_true, decide_false,
 Int.toNat_natCast, Int.ofNat_lt, Bool.false_eq_true, reduceCtorEq, Bool.not_true, Bool.not_false]
      exact bad (by simp only [uiC, q1, q2, decide_true, decide_false, Bool.and_false, Bool.false_and, Bool.not_true, Bool.not_false]) _ rfl
    by_cases q3 : c = 92
    · simp (maxSteps := 1000000) (disch := omega) only [h0, h5, h6, hlt, idx_s, ← hc, q1, q2, eq_true q3, qaaz, qabz, qacz, qadz, qaez, qaiz, qajz, qakz, qalz, qamz, qanz, evOp, qaoz, qapz, qarz, qatz, qavz,
 ↓reduceIte, Nat.reduceEqDiff, Option.map_some, qazz, qbaz, qbez, qbhz, qbiz, qblz, qbpz, qbvz, qbxz, qbzz, beq_false, decide_true, decide_false,
 Int.toNat_natCast, Int.ofNat_lt, Bool.false_eq_true, reduceCtorEq, Bool.not_true, Bool.not_false]
      exact bad (by simp only [uiC, q3, decide_true, Bool.and_false, Bool.false_and, Bool.not_true]) _ rfl
    by_cases q4 : c = 59
    · simp (maxSteps := 1000000) (disch := omega) only [h0, h5, h6, hlt, idx_s, ← hc, q1, q2, q3, eq_true q4, qaaz, qabz, qacz, qadz, qaez, qaiz, qajz, qakz, qalz, qamz, qanz, evOp, qaoz, qapz, qarz, qatz, qavz,
 ↓reduceIte, Nat.reduceEqDiff, Option.map_some, qazz, qbaz, qbez, qbhz, qbiz, qblz, qbpz, qbvz, qbxz, qbzz, beq_false, decide_true, decide_false,
 Int.toNat_natCast, Int.ofNat_lt, Bool.false_eq_true, reduceCtorEq, Bool.not_true, Bool.not_false]
      exact bad (by simp only [uiC, q4, decide_true, Bool.and_false, Bool.false_and, Bool.not_true]) _ rfl
    by_cases q5 : c = 44
    · simp (maxSteps := 1000000) (disch := omega) only [h0, h5, h6, hlt, idx_s, ← hc, q1, q2, q3, q4, eq_true q5, qaaz, qabz, qacz, qadz, qaez, qaiz, qajz, qakz, qalz, qamz, qanz, evOp, qaoz, qapz, qarz, qatz, qavz,
 ↓reduceIte, Nat.reduceEqDiff, Option.map_some, qazz, qbaz, qbez, qbhz, qbiz, qblz, qbpz, qbvz, qbxz, qbzz, beq_false, decide_true, decide_false,
 Int.toNat_natCast, Int.ofNat_lt, Bool.false_eq_true, reduceCtorEq, Bool.not_false]
      exact bad (by simp only [uiC, q5, decide_true, Bool.and_false, Bool.not_true]) _ rfl
    simp (maxSteps := 1000000) (disch := omega) only [h0, h5, h6, hlt, idx_s, ← hc, q1, q2, q3, q4, q5, add_n, loopQ_normal, qaaz, qabz, qacz, qadz, qaez, qajz, qakz, qalz, qamz, qanz, evOp, qaoz, qapz, qarz, qatz, qavz,
 ↓reduceIte, Nat.reduceEqDiff, Option.map_some, qazz, qbdz, qbhz, qbpz, qbvz, qbxz, qbzz, beq_false, decide_true, decide_false,
 Int.toNat_natCast, Int.ofNat_lt, Bool.false_eq_true, Int.reduceToNat, reduceCtorEq, Bool.not_false]
    exact next (by simp only [uiC, q1, q2, q3, q4, q5, decide_false, Bool.and_true, Bool.not_false]) _ h0 h5 rfl
  · obtain rfl : i = l.length := by omega
    have ha := all_getD (p := uiC) hall
    by_cases g1 : l = []
    · simp (maxSteps := 1000000) (disch := omega) only [h0, h5, h6, hlt, len_s, eq_true g1, qaaz, qabz, qacz, qadz, qaez, qagz, qaiz, qajz, qclz, qcmz, qcnz, qcqz, qcrz, qcwz, forall_const, qalz, evOp, qaoz, qapz, qarz, qatz, qavz,
 ↓reduceIte, Nat.reduceEqDiff, Option.map_some, qazz, qbbz, qbfz, qbjz, qblz, qbpz, qbqz, qccz, decide_false,
 Int.ofNat_lt, Bool.false_eq_true, Bool.true_eq_false, true_and, and_true, reduceCtorEq, ne_eq, not_true_eq_false]
      exact retB rfl hk (by simp [uidB, g1])
    · have hp := List.length_pos_iff.2 g1
      have e1 : (1 : Int) ≤ (l.length : Int) := by omega
      have d1 : 1 ≤ l.length := by omega
      by_cases g2 : l.length ≤ 200
      · have e2 : (l.length : Int) ≤ 200 := by omega
        simp (maxSteps := 1000000) (disch := omega) only [h0, h5, h6, hlt, len_s, g1, e2, qaaz, qabz, qacz, qadz, qaez, qagz, qaiz, qajz, qclz, qcmz, qcnz, qcqz, qcrz, qcwz, forall_const, qalz, evOp, qaoz, qapz, qarz, qatz, qavz,
 ↓reduceIte, Nat.reduceEqDiff, Option.map_some, qazz, qbbz, qbfz, qbjz, qblz, qbpz, qbqz, qccz, decide_true, decide_false,
 Int.ofNat_lt, Bool.false_eq_true, Bool.true_eq_false, true_and, and_true, reduceCtorEq, ne_eq, not_false_eq_true]
        exact retB rfl hk (by simp only [uidB, ha, d1, g2, decide_true, Bool.and_true])
      · have e2 : ¬ (l.length : Int) ≤ 200 := by omega
        simp (maxSteps := 1000000) (disch := omega) only [h0, h5, h6, hlt, len_s, g1, e2, qaaz, qabz, qacz, qadz, qaez, qagz, qaiz, qajz, qclz, qcmz, qcnz, qcqz, qcrz, qcwz, forall_const, qalz, evOp, qaoz, qapz, qarz, qatz, qavz,
 ↓reduceIte, Nat.reduceEqDiff, Option.map_some, qazz, qbbz, qbfz, qbjz, qblz, qbpz, qbqz, qccz, decide_true, decide_false,
 Int.ofNat_lt, Bool.false_eq_true, Bool.true_eq_false, true_and, and_true, reduceCtorEq, ne_eq, not_false_eq_true]
        exact retB rfl hk (by simp only [uidB, g2, decide_false, Bool.and_false])

theorem isNote_spec {l : Bs} (hl : l.length ≤ 100000000) : call prog (.fn 205 []) [.str l] st = some (.bool (noteB l), st) := by
  refine call_of_W prog_205 ?_
  unfold F_event_isNote; dsimp only
  simp (maxSteps := 1000000) (disch := omega) only [len_s, qaaz, qabz, qadz, qajz, qalz, evOp, qaoz, qapz, qarz, qatz, qavz,
 ↓reduceIte, List.append_nil, qawz, Option.map_some, qazz, reduceCtorEq]
  obtain ⟨I, hI⟩ : ∃ I : Nat → Env → St → Prop, I = fun k e s' => ∃ (i : Nat), k = l.length - i ∧ i ≤ l.length ∧ Kept st s' ∧ (∀ j, j < i → noC (l.getD j 0) = true) ∧ e 0 = .str l ∧ e 5 = .int .i64 (l.length : Int) ∧ e 6 = .int .i64 (i : Int) := ⟨_, rfl⟩
  refine W_loop I ?_ (n := l.length) (by
    rw [hI]
    exact ⟨0, rfl, by omega, Kept.start, fun j h => by omega, rfl, rfl, rfl⟩)
  intro k e s' hh
  rw [hI] at hh
  obtain ⟨i, rfl, hi, hk, hall, h0, h5, h6⟩ := hh
  by_cases hlt : i < l.length
  · obtain ⟨c, hc⟩ : ∃ c, c = l.getD i 0 := ⟨_, rfl⟩
    have bad : noC c = false → ∀ E : Env, E 2 = .bool false → ∃ rv, resOf E s' [.tmp 2] = some rv ∧ leave st s' rv = (.bool (noteB l), st) := fun h E k2 =>
      retB k2 hk (by simp only [noteB, all_bad (p := noC) hlt (by rw [← hc]; exact h), Bool.false_and])
    have next : noC c = true → ∀ E : Env, E 0 = .str l → E 5 = .int .i64 (l.length : Int) → E 6 = .int .i64 ((i + 1 : Nat) : Int) → ∃ m, m < l.length - i ∧ I m E s' := fun h E k0 k5 k6 =>
      ⟨l.length - (i + 1), by omega, by
        rw [hI]
        refine ⟨i + 1, rfl, by omega, hk, fun j hj => ?_, k0, k5, k6⟩
        by_cases hji : j = i
        · subst hji; rw [← hc]; exact h
        · exact hall j (by omega)⟩

    by_cases q7 : c = 127
    · have q1 : ¬ c < 32 := by rw [q7]; decide
      simp (maxSteps := 1000000) (disch := omega) only [h0, h5, h6, hlt, idx_s, ← hc, q1, eq_true q7, qaaz, qabz, qacz, qadz, qaez, qaiz, qajz, qakz, qalz, qamz, qanz, evOp, qaoz, qapz, qarz, qatz, qavz,
 ↓reduceIte, Nat.reduceEqDiff, Option.map_some, qazz, qbaz, qbez, qbhz, qbiz, qblz, qbpz, qbvz, qbxz, beq_true, beq_false, decide_true, decide_false,
 Int.toNat_natCast, Int.ofNat_lt, Bool.false_eq_true, reduceCtorEq, Bool.not_false]
      exact bad (by simp only [noC, q1, eq_true q7, decide_true, decide_false, Bool.and_false, Bool.false_and, Bool.not_true, Bool.not_false]) _ rfl
    by_cases q1 : c < 32
    · by_cases q9 : c = 9
      · simp (maxSteps := 1000000) (disch := omega) only [h0, h5, h6, hlt, idx_s, ← hc, q1, q7, eq_true q9, add_n, loopQ_normal, qaaz, qabz, qacz, qadz, qaez, qajz, qakz, qalz, qamz, qanz, evOp, qaoz, qapz, qarz, qatz, qavz,
 ↓reduceIte, Nat.reduceEqDiff, Option.map_some, qazz, qbdz, qbhz, qbpz, qbvz, qbwz, qbxz, beq_true, beq_false, decide_true, decide_false,
 Int.toNat_natCast, Int.ofNat_lt, Bool.false_eq_true, Int.reduceToNat, reduceCtorEq, Bool.not_false, ne_eq, not_true_eq_false]
        exact next (by simp only [noC, q1, q7, eq_true q9, decide_true, decide_false, Bool.and_true, Bool.and_false, Bool.false_and, Bool.not_true, Bool.not_false]) _ h0 h5 rfl
      · by_cases q10 : c = 10
        · simp (maxSteps := 1000000) (disch := omega) only [h0, h5, h6, hlt, idx_s, ← hc, q1, q7, q9, eq_true q10, add_n, loopQ_normal, qaaz, qabz, qacz, qadz, qaez, qajz, qakz, qalz, qamz, qanz, evOp, qaoz, qapz, qarz, qatz, qavz,
 ↓reduceIte, Nat.reduceEqDiff, Option.map_some, qazz, qbdz, qbhz, qbpz, qbvz, qbwz, qbxz, beq_true, beq_false, decide_true, decide_false,
 Int.toNat_natCast, Int.ofNat_lt, Bool.false_eq_true, Int.reduceToNat, reduceCtorEq, Bool.not_false, ne_eq, not_true_eq_false, not_false_eq_true]
          exact next (by simp only [noC, q1, q7, q9, eq_true q10, decide_true, decide_false, Bool.and_true, Bool.and_false, Bool.not_true, Bool.not_false]) _ h0 h5 rfl
        · simp (maxSteps := 1000000) (disch := omega) only [h0, h5, h6, hlt, idx_s, ← hc, q1, q9, q10, qaaz, qabz, qacz, qadz, qaez, qaiz, qajz, qakz, qalz, qamz, qanz, evOp, qaoz, qapz, qarz, qatz, qavz,
 ↓reduceIte, Nat.reduceEqDiff, Option.map_some, qazz, qbaz, qbez, qbhz, qbiz, qblz, qbpz, qbwz, qbxz, beq_true, beq_false, decide_true, Int.toNat_natCast, Int.ofNat_lt, Bool.false_eq_true, reduceCtorEq, Bool.not_true, ne_eq, not_false_eq_true]
          exact bad (by simp only [noC, q1, q7, q9, q10, decide_true, decide_false, Bool.and_true, Bool.not_true, Bool.not_false]) _ rfl
    · simp (maxSteps := 1000000) (disch := omega) only [h0, h5, h6, hlt, idx_s, ← hc, q1, q7, add_n, loopQ_normal, qaaz, qabz, qacz, qadz, qaez, qajz, qakz, qalz, qamz, qanz, evOp, qaoz, qapz, qarz, qatz, qavz,
 ↓reduceIte, Nat.reduceEqDiff, Option.map_some, qazz, qbdz, qbhz, qbpz, qbvz, qbxz, beq_true, beq_false, decide_true, decide_false,
 Int.toNat_natCast, Int.ofNat_lt, Bool.false_eq_true, Int.reduceToNat, reduceCtorEq, Bool.not_false]
      exact next (by simp only [noC, q1, q7, decide_false, Bool.and_true, Bool.false_and, Bool.not_false]) _ h0 h5 rfl
  · obtain rfl : i = l.length := by omega
    have ha := all_getD (p := noC) hall
    by_cases g2 : l.length ≤ 1000
    · have e2 : (l.length : Int) ≤ 1000 := by omega
      have hv := uValid_spec (st := s'.tok1) (x := .bys (.own s'.toks.length) l) (l := l) rfl hl
      simp (maxSteps := 1000000) (disch := omega) only [h0, h5, h6, hlt, len_s, e2, freshT_eq, hv, qaaz, qabz, qacz, qadz, qaez, qagz, qaiz, qajz, qclz, qcmz, qcnz, qcqz, qcrz, qcwz, forall_const, qalz, evOp, qaoz, qapz, qaqz, qarz, qasz, qatz, qavz,
 ↓reduceIte, Nat.reduceEqDiff, List.map_cons, List.map_nil, Option.map_some, qazz, qbbz, qbfz, qbjz, qblz, qbpz, qbqz, decide_true, decide_false,
 Int.ofNat_lt, Bool.false_eq_true, Bool.true_eq_false, true_and, and_true, reduceCtorEq]
      exact retB rfl hk.tok1 (by simp only [noteB, ha, g2, decide_true, Bool.and_true, Bool.true_and])
    · have e2 : ¬ (l.length : Int) ≤ 1000 := by omega
      simp (maxSteps := 1000000) (disch := omega) only [h0, h5, h6, hlt, len_s, e2, qaaz, qabz, qacz, qadz, qaez, qagz, qaiz, qajz, qclz, qcmz, qcnz, qcqz, qcrz, qcwz, forall_const, qalz, evOp, qaoz, qapz, qaqz, qarz, qasz, qatz, qavz,
 ↓reduceIte, Nat.reduceEqDiff, List.map_cons, List.map_nil, Option.map_some, qazz, qbbz, qbfz, qbjz, qblz, qbpz, qbqz, decide_false,
 Int.ofNat_lt, Bool.false_eq_true, Bool.true_eq_false, true_and, and_true, reduceCtorEq]
      exact retB rfl hk (by simp only [noteB, g2, decide_false, Bool.and_false, Bool.false_and])

theorem rmethod_spec {l : Bs} (hl : l.length ≤ 9223372036854775807) : call prog (.fn 206 []) [.str l] st = some (.bool (methB l), st) := by
  refine call_of_W prog_206 ?_
  unfold F_posthornref13_method; dsimp only
  simp (maxSteps := 1000000) (disch := omega) only [qaaz, qabz, qadz, qajz, qalz, evOp, qapz, qarz, qatz, List.append_nil, qazz]
  obtain ⟨I, hI⟩ : ∃ I : Nat → Env → St → Prop, I = fun k e s' => ∃ (i : Nat), k = l.length - i ∧ i ≤ l.length ∧ Kept st s' ∧ (∀ j, j < i → mtC (l.getD j 0) = true) ∧ e 0 = .str l ∧ e 3 = .int .i64 (i : Int) := ⟨_, rfl⟩
  refine W_loop I ?_ (n := l.length) (by
    rw [hI]
    exact ⟨0, rfl, by omega, Kept.start, fun j h => by omega, rfl, rfl⟩)
  intro k e s' hh
  rw [hI] at hh
  obtain ⟨i, rfl, hi, hk, hall, h0, h3⟩ := hh
  by_cases hlt : i < l.length
  · obtain ⟨c, hc⟩ : ∃ c, c = l.getD i 0 := ⟨_, rfl⟩
    have bad : mtC c = false → ∀ E : Env, E 2 = .bool false → ∃ rv, resOf E s' [.tmp 2] = some rv ∧ leave st s' rv = (.bool (methB l), st) := fun h E k2 =>
      retB k2 hk (by simp only [methB, all_bad (p := mtC) hlt (by rw [← hc]; exact h), Bool.false_and])
    have next : mtC c = true → ∀ E : Env, E 0 = .str l → E 3 = .int .i64 ((i + 1 : Nat) : Int) → ∃ m, m < l.length - i ∧ I m E s' := fun h E k0 k3 =>
      ⟨l.length - (i + 1), by omega, by
        rw [hI]
        refine ⟨i + 1, rfl, by omega, hk, fun j hj => ?_, k0, k3⟩
        by_cases hji : j = i
        · subst hji; rw [← hc]; exact h
        · exact hall j (by omega)⟩
    simp (maxSteps := 1000000) (disch := omega) only [h0, h3, len_s, hlt, idx_s, ← hc, add_n, loopQ_normal, qaaz, qabz, qacz, qadz, qaez, qagz, qaiz, qajz, qclz, qcmz, qcnz, qcoz, qcpz, qcqz, qcrz, qcwz, forall_const, qalz, evOp, qaoz, qapz, qarz, qatz, qavz,
 ↓reduceIte, Nat.reduceEqDiff, Option.map_some, qazz, qbaz, qbbz, qbdz, qbez, qbfz, qbiz, qbjz, qblz, qbpz, qbqz, qbsz, qbxz, qbzz, decide_eq_true_eq, decide_eq_false_iff_not, decide_true, Int.toNat_natCast, Int.ofNat_lt, Bool.false_eq_true, Bool.true_eq_false, Int.reduceToNat, true_and, and_true, reduceCtorEq]
    clear hc hall hI
    repeat' (first | refine And.intro ?_ ?_ | intro q)
    all_goals first | contradiction | exact bad (by simp only [mtC, *, decide_true, decide_false, Bool.and_true, Bool.and_false, Bool.false_and, Bool.not_true, Bool.not_false] <;> decide) _ rfl | exact next (by simp only [mtC, *, decide_false, Bool.and_true, Bool.not_false] <;> decide) _ h0 rfl | (exfalso; subst_vars; first | (revert q; decide) | (simp_all; done))
  · obtain rfl : i = l.length := by omega
    have ha := all_getD (p := mtC) hall
    by_cases g1 : 1 ≤ l.length
    · have e1 : (1 : Int) ≤ (l.length : Int) := by omega
      by_cases g2 : l.length ≤ 32
      · have e2 : (l.length : Int) ≤ 32 := by omega
        simp (maxSteps := 1000000) (disch := omega) only [h0, h3, hlt, len_s, e1, e2, qaaz, qabz, qacz, qadz, qaez, qagz, qaiz, qajz, qclz, qcmz, qcnz, qcqz, qcrz, qcwz, forall_const, qalz, evOp, qaoz, qapz, qarz, qatz, qavz,
 ↓reduceIte, Nat.reduceEqDiff, Option.map_some, qazz, qbbz, qbfz, qbjz, qblz, qbpz, qbqz, qbsz, decide_true, decide_false,
 Int.ofNat_lt, Bool.false_eq_true, Bool.true_eq_false, true_and, and_true, reduceCtorEq]
        exact retB rfl hk (by simp only [methB, ha, g1, g2, decide_true, Bool.and_true])
      · have e2 : ¬ (l.length : Int) ≤ 32 := by omega
        simp (maxSteps := 1000000) (disch := omega) only [h0, h3, hlt, len_s, e1, e2, qaaz, qabz, qacz, qadz, qaez, qagz, qaiz, qajz, qclz, qcmz, qcnz, qcqz, qcrz, qcwz, forall_const, qalz, evOp, qaoz, qapz, qarz, qatz, qavz,
 ↓reduceIte, Nat.reduceEqDiff, Option.map_some, qazz, qbbz, qbfz, qbjz, qblz, qbpz, qbqz, qbsz, decide_true, decide_false,
 Int.ofNat_lt, Bool.false_eq_true, Bool.true_eq_false, true_and, and_true, reduceCtorEq]
        exact retB rfl hk (by simp only [methB, g2, decide_false, Bool.and_false])
    · have e1 : ¬ (1 : Int) ≤ (l.length : Int) := by omega
      simp (maxSteps := 1000000) (disch := omega) only [h0, h3, hlt, len_s, e1, qaaz, qabz, qacz, qadz, qaez, qagz, qaiz, qajz, qclz, qcmz, qcnz, qcqz, qcrz, qcwz, forall_const, qalz, evOp, qaoz, qapz, qarz, qatz, qavz,
 ↓reduceIte, Nat.reduceEqDiff, Option.map_some, qazz, qbbz, qbfz, qbjz, qblz, qbpz, qbqz, qbsz, decide_false,
 Int.ofNat_lt, Bool.false_eq_true, Bool.true_eq_false, true_and, and_true, reduceCtorEq]
      exact retB rfl hk (by simp only [methB, g1, decide_false, Bool.and_false, Bool.false_and])

theorem ruid_spec {l : Bs} (hl : l.length ≤ 100000000) : call prog (.fn 207 []) [.str l] st = some (.bool (uidB l), st) := by
  refine call_of_W prog_207 ?_
  unfold F_posthornref13_uid; dsimp only
  simp (maxSteps := 1000000) (disch := omega) only [qaaz, qabz, qadz, qajz, qalz, evOp, qapz, qarz, qatz, List.append_nil, qazz]
  obtain ⟨I, hI⟩ : ∃ I : Nat → Env → St → Prop, I = fun k e s' => ∃ (i : Nat), k = l.length - i ∧ i ≤ l.length ∧ Kept st s' ∧ (∀ j, j < i → uiC (l.getD j 0) = true) ∧ e 0 = .str l ∧ e 3 = .int .i64 (i : Int) := ⟨_, rfl⟩
  refine W_loop I ?_ (n := l.length) (by
    rw [hI]
    exact ⟨0, rfl, by omega, Kept.start, fun j h => by omega, rfl, rfl⟩)
  intro k e s' hh
  rw [hI] at hh
  obtain ⟨i, rfl, hi, hk, hall, h0, h3⟩ := hh
  by_cases hlt : i < l.length
  · obtain ⟨c, hc⟩ : ∃ c, c = l.getD i 0 := ⟨_, rfl⟩
    have bad : uiC c = false → ∀ E : Env, E 2 = .bool false → ∃ rv, resOf E s' [.tmp 2] = some rv ∧ leave st s' rv = (.bool (uidB l), st) := fun h E k2 =>
      retB k2 hk (by simp only [uidB, all_bad (p := uiC) hlt (by rw [← hc]; exact h), Bool.false_and])
    have next : uiC c = true → ∀ E : Env, E 0 = .str l → E 3 = .int .i64 ((i + 1 : Nat) : Int) → ∃ m, m < l.length - i ∧ I m E s' := fun h E k0 k3 =>
      ⟨l.length - (i + 1), by omega, by
        rw [hI]
        refine ⟨i + 1, rfl, by omega, hk, fun j hj => ?_, k0, k3⟩
        by_cases hji : j = i
        · subst hji; rw [← hc]; exact h
        · exact hall j (by omega)⟩
    have hs : slcPV 0 (.str l) (some (.int .i64 (i : Int))) (some (.int .i64 ((i + 1 : Nat) : Int))) none = some (.str [c]) := by
      rw [slc_s (by omega) (by omega) (by omega), Int.toNat_natCast, Int.toNat_natCast, take_one hlt, hc]
    have hH := fun S : St => Has_spec (st := S) (a := [92, 59, 44]) (b := [c]) (by decide) (by simp)
    have hu := uid_C c
    by_cases q1 : c ≤ 32
    · simp (maxSteps := 1000000) (disch := omega) only [h0, h3, len_s, hlt, idx_s, ← hc, q1, qaaz, qabz, qacz, qadz, qaez, qaiz, qajz, qakz, qalz, qamz, qanz, evOp, qaoz, qapz, qarz, qatz, qavz,
 ↓reduceIte, Nat.reduceEqDiff, Option.map_some, qazz, qbaz, qbez, qbhz, qbiz, qblz, qbpz, qbyz, beq_false, decide_true, Int.toNat_natCast, Int.ofNat_lt, Bool.false_eq_true, reduceCtorEq, Bool.not_true]
      exact bad (by rw [hu]; simp only [q1, decide_true, Bool.false_and, Bool.not_true]) _ rfl
    · by_cases q2 : 127 ≤ c
      · simp (maxSteps := 1000000) (disch := omega) only [h0, h3, len_s, hlt, idx_s, ← hc, q1, q2, qaaz, qabz, qacz, qadz, qaez, qaiz, qajz, qakz, qalz, qamz, qanz, evOp, qaoz, qapz, qarz, qatz, qavz,
 ↓reduceIte, Nat.reduceEqDiff, Option.map_some, qazz, qbaz, qbez, qbhz, qbiz, qblz, qbpz, qbyz, qcaz, beq_false, decide_true, decide_false,
 Int.toNat_natCast, Int.ofNat_lt, Bool.false_eq_true, reduceCtorEq, Bool.not_true, Bool.not_false]
        exact bad (by rw [hu]; simp only [q1, q2, decide_true, decide_false, Bool.and_false, Bool.false_and, Bool.not_true, Bool.not_false]) _ rfl
      · cases q3 : hasB [92, 59, 44] [c] with
        | true =>
          rw [q3] at hH
          simp (maxSteps := 1000000) (disch := omega) only [h0, h3, len_s, hlt, idx_s, ← hc, q1, q2, add_n, hs, hH, qaaz, qabz, qacz, qadz, qaez, qaiz, qajz, qakz, qalz, qamz, qanz, evOp, qaoz, qapz, qaqz, qarz, qatz, qavz,
 ↓reduceIte, Nat.reduceEqDiff, List.map_cons, List.map_nil, Option.map_some, Option.map_none, qazz, qbaz, qbez, qbhz, qbiz, qblz, qbpz, qbyz, qcaz, beq_false, decide_true, decide_false,
 Int.toNat_natCast, Int.ofNat_lt, Bool.false_eq_true, Int.reduceToNat, reduceCtorEq, Bool.not_false]
          exact bad (by rw [hu]; simp only [q1, q2, q3, decide_false, Bool.and_true, Bool.and_false, Bool.not_true, Bool.not_false]) _ rfl
        | false =>
          rw [q3] at hH
          simp (maxSteps := 1000000) (disch := omega) only [h0, h3, len_s, hlt, idx_s, ← hc, q1, q2, add_n, hs, hH, loopQ_normal, qaaz, qabz, qacz, qadz, qaez, qajz, qakz, qalz, qamz, qanz, evOp, qaoz, qapz, qaqz, qarz, qatz, qavz,
 ↓reduceIte, Nat.reduceEqDiff, List.map_cons, List.map_nil, Option.map_some, Option.map_none, qazz, qbdz, qbhz, qbpz, qbyz, qcaz, beq_false, decide_true, decide_false,
 Int.toNat_natCast, Int.ofNat_lt, Bool.false_eq_true, Int.reduceToNat, reduceCtorEq, Bool.not_false]
          exact next (by rw [hu]; simp only [q1, q2, q3, decide_false, Bool.and_true, Bool.not_false]) _ h0 rfl
  · obtain rfl : i = l.length := by omega
    have ha := all_getD (p := uiC) hall
    by_cases g1 : 1 ≤ l.length
    · have e1 : (1 : Int) ≤ (l.length : Int) := by omega
      by_cases g2 : l.length ≤ 200
      · have e2 : (l.length : Int) ≤ 200 := by omega
        simp (maxSteps := 1000000) (disch := omega) only [h0, h3, hlt, len_s, e1, e2, qaaz, qabz, qacz, qadz, qaez, qagz, qaiz, qajz, qclz, qcmz, qcnz, qcqz, qcrz, qcwz, forall_const, qalz, evOp, qaoz, qapz, qarz, qatz, qavz,
 ↓reduceIte, Nat.reduceEqDiff, Option.map_some, qazz, qbbz, qbfz, qbjz, qblz, qbpz, qbqz, qbsz, decide_true, decide_false,
 Int.ofNat_lt, Bool.false_eq_true, Bool.true_eq_false, true_and, and_true, reduceCtorEq]
        exact retB rfl hk (by simp only [uidB, ha, g1, g2, decide_true, Bool.and_true])
      · have e2 : ¬ (l.length : Int) ≤ 200 := by omega
        simp (maxSteps := 1000000) (disch := omega) only [h0, h3, hlt, len_s, e1, e2, qaaz, qabz, qacz, qadz, qaez, qagz, qaiz, qajz, qclz, qcmz, qcnz, qcqz, qcrz, qcwz, forall_const, qalz, evOp, qaoz, qapz, qarz, qatz, qavz,
 ↓reduceIte, Nat.reduceEqDiff, Option.map_some, qazz, qbbz, qbfz, qbjz, qblz, qbpz, qbqz, qbsz, decide_true, decide_false,
 Int.ofNat_lt, Bool.false_eq_true, Bool.true_eq_false, true_and, and_true, reduceCtorEq]
        exact retB rfl hk (by simp only [uidB, g2, decide_false, Bool.and_false])
    · have e1 : ¬ (1 : Int) ≤ (l.length : Int) := by omega
      simp (maxSteps := 1000000) (disch := omega) only [h0, h3, hlt, len_s, e1, qaaz, qabz, qacz, qadz, qaez, qagz, qaiz, qajz, qclz, qcmz, qcnz, qcqz, qcrz, qcwz, forall_const, qalz, evOp, qaoz, qapz, qarz, qatz, qavz,
 ↓reduceIte, Nat.reduceEqDiff, Option.map_some, qazz, qbbz, qbfz, qbjz, qblz, qbpz, qbqz, qbsz, decide_false,
 Int.ofNat_lt, Bool.false_eq_true, Bool.true_eq_false, true_and, and_true, reduceCtorEq]
      exact retB rfl hk (by simp only [uidB, g1, decide_false, Bool.and_false, Bool.false_and])

theorem rnote_spec {l : Bs} (hl : l.length ≤ 100000000) : call prog (.fn 208 []) [.str l] st = some (.bool (noteB l), st) := by
  refine call_of_W prog_208 ?_
  unfold F_posthornref13_note; dsimp only
  simp (maxSteps := 1000000) (disch := omega) only [qaaz, qabz, qadz, qajz, qalz, evOp, qapz, qarz, qatz, List.append_nil, qazz]
  obtain ⟨I, hI⟩ : ∃ I : Nat → Env → St → Prop, I = fun k e s' => ∃ (i : Nat), k = l.length - i ∧ i ≤ l.length ∧ Kept st s' ∧ (∀ j, j < i → noC (l.getD j 0) = true) ∧ e 0 = .str l ∧ e 3 = .int .i64 (i : Int) := ⟨_, rfl⟩
  refine W_loop I ?_ (n := l.length) (by
    rw [hI]
    exact ⟨0, rfl, by omega, Kept.start, fun j h => by omega, rfl, rfl⟩)
  intro k e s' hh
  rw [hI] at hh
  obtain ⟨i, rfl, hi, hk, hall, h0, h3⟩ := hh
  by_cases hlt : i < l.length
  · obtain ⟨c, hc⟩ : ∃ c, c = l.getD i 0 := ⟨_, rfl⟩
    have bad : noC c = false → ∀ E : Env, E 2 = .bool false → ∃ rv, resOf E s' [.tmp 2] = some rv ∧ leave st s' rv = (.bool (noteB l), st) := fun h E k2 =>
      retB k2 hk (by simp only [noteB, all_bad (p := noC) hlt (by rw [← hc]; exact h), Bool.false_and])
    have next : noC c = true → ∀ E : Env, E 0 = .str l → E 3 = .int .i64 ((i + 1 : Nat) : Int) → ∃ m, m < l.length - i ∧ I m E s' := fun h E k0 k3 =>
      ⟨l.length - (i + 1), by omega, by
        rw [hI]
        refine ⟨i + 1, rfl, by omega, hk, fun j hj => ?_, k0, k3⟩
        by_cases hji : j = i
        · subst hji; rw [← hc]; exact h
        · exact hall j (by omega)⟩

    by_cases q7 : c = 127
    · have q1 : ¬ c < 32 := by rw [q7]; decide
      simp (maxSteps := 1000000) (disch := omega) only [h0, h3, hlt, len_s, idx_s, ← hc, eq_true q7, qaaz, qabz, qacz, qadz, qaez, qaiz, qajz, qakz, qalz, qamz, qanz, evOp, qaoz, qapz, qarz, qatz, qavz,
 ↓reduceIte, Nat.reduceEqDiff, Option.map_some, qazz, qbaz, qbez, qbhz, qbiz, qblz, qbpz, qbvz, beq_false, decide_true, Int.toNat_natCast, Int.ofNat_lt, Bool.false_eq_true, reduceCtorEq, Bool.not_true]
      exact bad (by simp only [noC, q1, eq_true q7, decide_true, decide_false, Bool.and_false, Bool.false_and, Bool.not_true, Bool.not_false]) _ rfl
    by_cases q1 : c < 32
    · by_cases q9 : c = 9
      · simp (maxSteps := 1000000) (disch := omega) only [h0, h3, hlt, len_s, idx_s, ← hc, q1, q7, eq_true q9, add_n, loopQ_normal, qaaz, qabz, qacz, qadz, qaez, qajz, qakz, qalz, qamz, qanz, evOp, qaoz, qapz, qarz, qatz, qavz,
 ↓reduceIte, Nat.reduceEqDiff, Option.map_some, qazz, qbdz, qbhz, qbpz, qbvz, qbwz, qbxz, beq_true, beq_false, decide_true, decide_false,
 Int.toNat_natCast, Int.ofNat_lt, Bool.false_eq_true, Int.reduceToNat, reduceCtorEq, Bool.not_false, ne_eq, not_true_eq_false]
        exact next (by simp only [noC, q1, q7, eq_true q9, decide_true, decide_false, Bool.and_true, Bool.and_false, Bool.false_and, Bool.not_true, Bool.not_false]) _ h0 rfl
      · by_cases q10 : c = 10
        · simp (maxSteps := 1000000) (disch := omega) only [h0, h3, hlt, len_s, idx_s, ← hc, q1, q7, q9, eq_true q10, add_n, loopQ_normal, qaaz, qabz, qacz, qadz, qaez, qajz, qakz, qalz, qamz, qanz, evOp, qaoz, qapz, qarz, qatz, qavz,
 ↓reduceIte, Nat.reduceEqDiff, Option.map_some, qazz, qbdz, qbhz, qbpz, qbvz, qbwz, qbxz, beq_true, beq_false, decide_true, decide_false,
 Int.toNat_natCast, Int.ofNat_lt, Bool.false_eq_true, Int.reduceToNat, reduceCtorEq, Bool.not_false, ne_eq, not_true_eq_false, not_false_eq_true]
          exact next (by simp only [noC, q1, q7, q9, eq_true q10, decide_true, decide_false, Bool.and_true, Bool.and_false, Bool.not_true, Bool.not_false]) _ h0 rfl
        · simp (maxSteps := 1000000) (disch := omega) only [h0, h3, hlt, len_s, idx_s, ← hc, q1, q7, q9, q10, qaaz, qabz, qacz, qadz, qaez, qaiz, qajz, qakz, qalz, qamz, qanz, evOp, qaoz, qapz, qarz, qatz, qavz,
 ↓reduceIte, Nat.reduceEqDiff, Option.map_some, qazz, qbaz, qbez, qbhz, qbiz, qblz, qbpz, qbvz, qbwz, qbxz, beq_true, beq_false, decide_true, decide_false,
 Int.toNat_natCast, Int.ofNat_lt, Bool.false_eq_true, reduceCtorEq, Bool.not_false, ne_eq, not_false_eq_true]
          exact bad (by simp only [noC, q1, q7, q9, q10, decide_true, decide_false, Bool.and_true, Bool.not_true, Bool.not_false]) _ rfl
    · simp (maxSteps := 1000000) (disch := omega) only [h0, h3, hlt, len_s, idx_s, ← hc, q1, q7, add_n, loopQ_normal, qaaz, qabz, qacz, qadz, qaez, qajz, qakz, qalz, qamz, qanz, evOp, qaoz, qapz, qarz, qatz, qavz,
 ↓reduceIte, Nat.reduceEqDiff, Option.map_some, qazz, qbdz, qbhz, qbpz, qbvz, qbxz, beq_true, beq_false, decide_true, decide_false,
 Int.toNat_natCast, Int.ofNat_lt, Bool.false_eq_true, Int.reduceToNat, reduceCtorEq, Bool.not_false]
      exact next (by simp only [noC, q1, q7, decide_false, Bool.and_true, Bool.false_and, Bool.not_false]) _ h0 rfl
  · obtain rfl : i = l.length := by omega
    have ha := all_getD (p := noC) hall
    by_cases g2 : l.length ≤ 1000
    · have e2 : (l.length : Int) ≤ 1000 := by omega
      have hv := rValid_spec (st := s'.tok1) (x := .bys (.own s'.toks.length) l) (l := l) rfl hl
      simp (maxSteps := 1000000) (disch := omega) only [h0, h3, hlt, len_s, e2, freshT_eq, hv, qaaz, qabz, qacz, qadz, qaez, qagz, qaiz, qajz, qclz, qcmz, qcnz, qcqz, qcrz, qcwz, forall_const, qalz, evOp, qaoz, qapz, qaqz, qarz, qasz, qatz, qavz,
 ↓reduceIte, Nat.reduceEqDiff, List.map_cons, List.map_nil, Option.map_some, qazz, qbbz, qbfz, qbjz, qblz, qbpz, qbqz, decide_true, decide_false,
 Int.ofNat_lt, Bool.false_eq_true, Bool.true_eq_false, true_and, and_true, reduceCtorEq]
      exact retB rfl hk.tok1 (by simp only [noteB, ha, g2, decide_true, Bool.and_true, Bool.true_and])
    · have e2 : ¬ (l.length : Int) ≤ 1000 := by omega
      simp (maxSteps := 1000000) (disch := omega) only [h0, h3, hlt, len_s, e2, qaaz, qabz, qacz, qadz, qaez, qagz, qaiz, qajz, qclz, qcmz, qcnz, qcqz, qcrz, qcwz, forall_const, qalz, evOp, qaoz, qapz, qaqz, qarz, qasz, qatz, qavz,
 ↓reduceIte, Nat.reduceEqDiff, List.map_cons, List.map_nil, Option.map_some, qazz, qbbz, qbfz, qbjz, qblz, qbpz, qbqz, decide_false,
 Int.ofNat_lt, Bool.false_eq_true, Bool.true_eq_false, true_and, and_true, reduceCtorEq]
      exact retB rfl hk (by simp only [noteB, g2, decide_false, Bool.and_false, Bool.false_and])

theorem optional_spec {t : Int} : call prog (.fn 200 []) [.int .i64 t] st = some (.bool (optB t), st) := by
  refine call_of_W prog_200 ?_
  unfold F_event_optional; dsimp only
  have h := fun S : St => Right_w (st := S) (t := t)
  by_cases q : t = -1
  · simp (maxSteps := 1000000) (disch := omega) only [eq_true q, qaaz, qabz, qaiz, qajz, qakz, qalz, qamz, qanz, evOp, qaoz, qapz, qarz, qatz, qavz,
 ↓reduceIte, Nat.reduceEqDiff, List.append_nil, qawz, Option.map_some, qazz, qblz, qbtz, beq_false, decide_true, Bool.false_eq_true, reduceCtorEq, Bool.not_true]
    exact retB rfl Kept.start (by simp only [optB, q, decide_true, Bool.true_or])
  · simp (maxSteps := 1000000) (disch := omega) only [q, h, qaaz, qabz, qaiz, qajz, qakz, qalz, qamz, qanz, evOp, qaoz, qapz, qaqz, qarz, qatz, qavz,
 ↓reduceIte, Nat.reduceEqDiff, List.append_nil, List.map_cons, List.map_nil, qawz, Option.map_some, qazz, qblz, qbtz, beq_false, decide_false,
 Bool.false_eq_true, reduceCtorEq, Bool.not_false]
    exact retB rfl Kept.start (by simp only [optB, timeB, q, decide_false, Bool.false_or])
theorem roptional_spec {t : Int} : call prog (.fn 210 []) [.int .i64 t] st = some (.bool (optB t), st) := by
  refine call_of_W prog_210 ?_
  unfold F_posthornref13_optional; dsimp only
  have h := fun S : St => Time_spec (st := S) (t := t)
  by_cases q : t = -1
  · simp (maxSteps := 1000000) (disch := omega) only [eq_true q, qaaz, qabz, qaiz, qajz, qakz, qalz, qamz, qanz, evOp, qaoz, qapz, qarz, qatz, qavz,
 ↓reduceIte, Nat.reduceEqDiff, List.append_nil, qawz, Option.map_some, qazz, qblz, qbtz, beq_false, decide_true, Bool.false_eq_true, reduceCtorEq, Bool.not_true]
    exact retB rfl Kept.start (by simp only [optB, q, decide_true, Bool.true_or])
  · simp (maxSteps := 1000000) (disch := omega) only [q, h, qaaz, qabz, qaiz, qajz, qakz, qalz, qamz, qanz, evOp, qaoz, qapz, qaqz, qarz, qatz, qavz,
 ↓reduceIte, Nat.reduceEqDiff, List.append_nil, List.map_cons, List.map_nil, qawz, Option.map_some, qazz, qblz, qbtz, beq_false, decide_false,
 Bool.false_eq_true, reduceCtorEq, Bool.not_false]
    exact retB rfl Kept.start (by simp only [optB, timeB, q, decide_false, Bool.false_or])

theorem isAnswer_spec {l : Bs} : call prog (.fn 214 []) [.str l] st = some (.bool (answerB l), st) := by
  refine call_of_W prog_214 ?_
  unfold F_event_isAnswer; dsimp only
  simp (maxSteps := 1000000) (disch := omega) only [qaaz, qabz, qacz, qadz, qaez, qaiz, qajz, qcrz, qalz, evOp, qaoz, qapz, qarz, qatz, qavz,
 ↓reduceIte, Nat.reduceEqDiff, List.append_nil, qawz, Option.map_some, qazz, qbaz, qbdz, qbez, qblz, qcbz, decide_eq_true_eq, decide_eq_false_iff_not, reduceCtorEq]
  repeat' (first | refine And.intro ?_ ?_ | intro q)
  all_goals first | contradiction | exact retB rfl Kept.start (by simp only [answerB, *, decide_true, decide_false, Bool.or_true, Bool.true_or, Bool.or_false] <;> decide)
theorem rAnswer_spec {l : Bs} : call prog (.fn 212 []) [.str l] st = some (.bool (answerB l), st) := by
  refine call_of_W prog_212 ?_
  unfold F_posthornref13_Answer; dsimp only
  simp (maxSteps := 1000000) (disch := omega) only [qaaz, qabz, qaiz, qajz, qclz, qcmz, qcoz, qcpz, qcwz, forall_const, qalz, evOp, qaoz, qapz, qarz, qatz, qavz,
 ↓reduceIte, Nat.reduceEqDiff, List.append_nil, qawz, Option.map_some, qazz, qblz, qcbz, decide_eq_true_eq, decide_eq_false_iff_not, Bool.false_eq_true, Bool.true_eq_false, true_and, and_true, reduceCtorEq]
  repeat' (first | refine And.intro ?_ ?_ | intro q)
  all_goals first | contradiction | exact retB rfl Kept.start (by simp only [answerB, *, decide_true, decide_false, Bool.or_true, Bool.true_or, Bool.or_false, Bool.false_or] <;> decide)

end Go.Ab
/-
  How long an address is; its normal form, walked.
-/
namespace Go.Ab
variable {st s : St} {e : Env}
variable {B : List (List PV)} {T : List Bool} {L : List LoopS} {lo : Nat} {a b c : Bs}

set_option maxHeartbeats 1000000 in
theorem Normal_spec {a : Adr} (h : okA a) : call prog (.fn 113 []) [aV a] st = some (.str (normalA a), st) := by
  refine call_of_W prog_113 ?_
  unfold F_addr_Normal; dsimp only
  obtain ⟨n, l, d⟩ := a
  have hn := h.n; have hl := h.l; have hd := h.d
  simp only at hn hl hd
  have hR := fun S : St => Right_spec (st := S) h
  simp only [aV] at hR
  cases hr : rightA (n, l, d) with
  | false =>
    rw [hr] at hR
    simp (maxSteps := 1000000) (disch := omega) only [aV, inB_a, all_a, allocPV, cells_agg, ld_aa, hR, qaaz, qabz, qacz, qaez, qaiz, qajz, qcrz, qcwz, forall_const, and_self, qalz, evOp, qaoz, qapz, qaqz, qarz, qatz, qavz,
 ↓reduceIte, Nat.reduceEqDiff, List.append_nil, List.map_cons, List.map_nil, qawz, Option.map_some, qazz, qbaz, qblz, qcfz, Bool.true_eq_false, and_true, Bool.not_false]
    exact retS rfl Kept.box1 (by simp [normalA, hr])
  | true =>
    rw [hr] at hR
    obtain ⟨s, hs⟩ : ∃ s, s = l ++ [64] ++ d := ⟨_, rfl⟩
    have hsl : s.length = l.length + 1 + d.length := by rw [hs]; simp <;> omega
    have ha1 : ∀ ek, binPV .add ek (.str l) (.str [64]) = some (.str (l ++ [64])) := fun ek => adds (by simp; omega)
    have ha2 : ∀ ek, binPV .add ek (.str (l ++ [64])) (.str d) = some (.str s) := fun ek => by rw [hs]; exact adds (by simp; omega)
    have hbl : (st.boxes ++ [cA n l d]).length = st.boxes.length + 1 := by simp
    have hbb : ({ boxes := st.boxes ++ [cA n l d] ++ [s.map PV.b8], toks := st.toks, loops := st.loops, low := st.boxes.length } : St) = bst2 st (cA n l d) s := rfl
    simp (maxSteps := 1000000) (disch := omega) only [aV, inB_a, all_a, allocPV, cells_agg, ld_aa, hR, faP, Nat.zero_add, ld_a1, ld_a2, ha1, ha2, hbl, hbb, len_ms, qaaz, qabz, qacz, qadz, qaez, qaiz, qajz, qcrz, qcwz, forall_const, and_self, qalz, evOp, qaoz, qapz, qaqz, qarz, qatz, qavz,
 ↓reduceIte, Nat.reduceEqDiff, List.append_nil, List.map_cons, List.map_nil, qawz, Option.map_some, qazz, qbaz, qblz, qcfz, Bool.false_eq_true, true_and, Bool.not_true]
    obtain ⟨I, hI⟩ : ∃ I : Nat → Env → St → Prop, I = fun n' e s' => ∃ (i : Nat) (m : Bs), n' = s.length - i ∧ i ≤ s.length ∧ m = lowOf (s.take i) ++ s.drop i ∧ s' = bst2 st (cA n l d) m ∧ e 3 = .ms (st.boxes.length + 1) 0 s.length ∧ e 16 = .ms (st.boxes.length + 1) 0 s.length ∧ e 17 = .int .i64 (s.length : Int) ∧ e 18 = .int .i64 (i : Int) := ⟨_, rfl⟩
    refine W_loop I ?_ (n := s.length) (by
      rw [hI]
      exact ⟨0, s, rfl, by omega, by simp [lowOf], rfl, rfl, rfl, rfl, rfl⟩)
    intro n' e s' hh
    rw [hI] at hh
    obtain ⟨i, m, rfl, hi, hm, rfl, h3, h16, h17, h18⟩ := hh
    have hml : m.length = s.length := by rw [hm]; simp [lowOf]; omega
    by_cases hlt : i < s.length
    · obtain ⟨c, hc⟩ : ∃ c, c = s.getD i 0 := ⟨_, rfl⟩
      have hlc : m.getD i 0 = c := by
        rw [hm, hc]
        simp only [List.getD]
        rw [List.getElem?_append_right (by simp [lowOf]; omega)]
        simp [lowOf, Nat.min_eq_left hi]
      have hnext : ∀ (E : Env) (m' : Bs), m' = m.set i (lowC c) → E 3 = .ms (st.boxes.length + 1) 0 s.length → E 16 = .ms (st.boxes.length + 1) 0 s.length → E 17 = .int .i64 (s.length : Int) → E 18 = .int .i64 ((i + 1 : Nat) : Int) → ∃ k, k < s.length - i ∧ I k E (bst2 st (cA n l d) m') := by
        intro E m' k0 k1 k2 k3 k4
        refine ⟨s.length - (i + 1), by omega, ?_⟩
        rw [hI]
        refine ⟨i + 1, m', rfl, by omega, ?_, rfl, k1, k2, k3, k4⟩
        rw [k0, hm, take_getD hlt, ← hc, drop_getD hlt]
        have hn : (lowOf (s.take i)).length = i := by simp [lowOf]; omega
        rw [List.set_append_right _ _ (by omega), hn]
        simp [lowOf]
      have hsm : m.set i c = m := by
        rw [← hlc, List.getD, List.getElem?_eq_getElem (by omega)]; simp
      simp (maxSteps := 1000000) (disch := omega) only [h3, h16, h17, h18, hlt, iaddr_ms, load_bst2 (st := st) (l := m) (i := i) (by omega), hlc, add_8, store_bst2 (st := st) (l := m) (i := i) (by omega), add_n, loopQ_normal, qaaz, qabz, qacz, qadz, qaez, qagz, qajz, qclz, qcmz, qcnz, qcqz, qcrz, qcwz, forall_const, qalz, evOp, qaoz, qapz, qarz, qatz, qauz, qavz,
 ↓reduceIte, Nat.reduceEqDiff, Option.map_some, qazz, qbbz, qbdz, qbfz, qbjz, qbpz, qbyz, qcaz, decide_eq_true_eq, decide_eq_false_iff_not, decide_true, Int.toNat_natCast, Int.ofNat_lt, Bool.false_eq_true, Bool.true_eq_false, Int.reduceToNat, true_and, and_true]
      clear hI hm hlc hc
      refine ⟨fun q1 => ⟨fun q2 => ?_, fun q2 => ?_⟩, fun q1 => ?_⟩
      · exact hnext _ (m.set i (c + 32)) (by rw [lowC, if_pos ⟨q1, q2⟩]) h3 h16 h17 rfl
      · exact hnext _ m (by rw [lowC, if_neg (fun h => q2 h.2), hsm]) h3 h16 h17 rfl
      · exact hnext _ m (by rw [lowC, if_neg (fun h => q1 h.1), hsm]) h3 h16 h17 rfl
    · obtain rfl : i = s.length := by omega
      have hml2 : s.length = m.length := hml.symm
      simp (maxSteps := 1000000) (disch := omega) only [h3, h16, h17, h18, hlt, b2s_bst2 (st := st) (l := m) hml2, qaaz, qabz, qacz, qadz, qaez, qagz, qaiz, qajz, qcrz, qcwz, forall_const, qalz, evOp, qaoz, qarz, qatz, qavz,
 ↓reduceIte, Nat.reduceEqDiff, Option.map_some, qazz, qbbz, qbfz, qbjz, qblz, qbpz, decide_false,
 Int.ofNat_lt, Bool.false_eq_true, true_and]
      refine retS rfl Kept.bst2 ?_
      rw [hm, List.take_length, List.drop_length, List.append_nil, hs]
      simp [normalA, hr, atA]

end Go.Ab
/-
  Persons, roles, needs and marks, walked.
-/
namespace Go.Ab
set_option maxRecDepth 20000
variable {st s : St} {e : Env}

theorem plain_at0 {s : Bs} (h : (plainA s).2 = 0) : (plainA s).1.1 = [] ∧ atA (plainA s).1 = s ∧ rightA (plainA s).1 = true := by
  unfold plainA at h ⊢
  by_cases hr : rightA (cutA s) = true
  · rw [if_pos hr] at h ⊢
    refine ⟨by unfold cutA; split <;> rfl, ?_, hr⟩
    rcases chr_split 64 s with ⟨-, h2⟩ | ⟨n, r, rfl, hn⟩
    · exfalso
      have hc : cutA s = ([], s, []) := by unfold cutA; rw [h2]; rfl
      rw [hc] at hr
      simp only [rightA] at hr
      have : partsB 46 labB [] = false := by decide
      rw [this] at hr
      simp at hr
    · have hi := index_chr (k := 64) n r hn
      have hc : cutA (n ++ 64 :: r) = ([], n, r) := by
        unfold cutA
        rw [hi]
        have e1 : (0 : Int) ≤ (n.length : Int) := by omega
        rw [if_pos e1]
        simp
      rw [hc]; rfl
  · rw [if_neg hr] at h; simp at h
theorem plain_ok {s : Bs} (h : s.length ≤ 1000000) : okA (plainA s).1 := by
  rcases plain_good (s := s) with ⟨h1, h2, h3⟩ | h1
  · obtain ⟨a, b, -⟩ := plain_at0 h1
    have hl : (atA (plainA s).1).length = s.length := by rw [b]
    simp only [atA, List.length_append, List.length_cons] at hl
    exact ⟨by rw [a]; simp, by omega, by omega⟩
  · rw [h1]; exact ⟨by simp [noA], by simp [noA], by simp [noA]⟩
theorem normal_low {s : Bs} (h : (plainA s).2 = 0) : normalA (plainA s).1 = lowOf s := by
  obtain ⟨-, a, b⟩ := plain_at0 h
  unfold normalA
  rw [if_pos b, a]

theorem isPerson_spec {l : Bs} (hl : l.length ≤ 1000000) : call prog (.fn 203 []) [.str l] st = some (.bool (personB l), st) := by
  refine call_of_W prog_203 ?_
  unfold F_event_isPerson; dsimp only
  have hP := fun S : St => aPlain_spec (st := S) (s := l) (by omega)
  have hN := fun S : St => Normal_spec (st := S) (plain_ok hl)
  obtain ⟨p, hp⟩ : ∃ p, p = plainA l := ⟨_, rfl⟩
  have hnl : p.2 = 0 → normalA p.1 = lowOf l := fun h => by rw [hp] at h ⊢; exact normal_low h
  have hb : personB l = (decide (p.2 = 0) && decide (lowOf l = l)) := by rw [hp]; rfl
  rw [← hp] at hP hN
  clear hp
  obtain ⟨⟨n, a, d⟩, c⟩ := p
  simp only [aV] at hP hN hnl hb
  by_cases h0 : c = 0
  · rw [hnl h0] at hN
    by_cases h1 : lowOf l = l
    · simp (maxSteps := 1000000) (disch := omega) only [hP, allocPV, st_aa, ld_aa, eq_true h0, hN, eq_true h1, qaaz, qabz, qaiz, qajz, qakz, qalz, qamz, qanz, evOp, qaoz, qapz, qaqz, qarz, qatz, qauz, qavz,
 ↓reduceIte, Nat.reduceEqDiff, List.append_nil, List.map_cons, List.map_nil, qawz, Option.map_some, qazz, qblz, qbtz, qcbz, beq_true, decide_true, qcjz, List.getElem?_cons_zero, List.getElem?_cons_succ, reduceCtorEq]
      exact retB rfl Kept.box1 (by rw [hb]; simp [h0, h1])
    · simp (maxSteps := 1000000) (disch := omega) only [hP, allocPV, st_aa, ld_aa, eq_true h0, hN, h1, qaaz, qabz, qaiz, qajz, qakz, qalz, qamz, qanz, evOp, qaoz, qapz, qaqz, qarz, qatz, qauz, qavz,
 ↓reduceIte, Nat.reduceEqDiff, List.append_nil, List.map_cons, List.map_nil, qawz, Option.map_some, qazz, qblz, qbtz, qcbz, beq_true, decide_true, decide_false,
 qcjz, List.getElem?_cons_zero, List.getElem?_cons_succ, reduceCtorEq]
      exact retB rfl Kept.box1 (by rw [hb]; simp [h0, h1])
  · simp (maxSteps := 1000000) (disch := omega) only [hP, allocPV, st_aa, h0, qaaz, qabz, qaiz, qajz, qakz, qalz, qamz, qanz, evOp, qaoz, qapz, qaqz, qarz, qatz, qauz, qavz,
 ↓reduceIte, Nat.reduceEqDiff, List.append_nil, List.map_cons, List.map_nil, qawz, Option.map_some, qazz, qblz, qbtz, beq_true, decide_false,
 Bool.false_eq_true, qcjz, List.getElem?_cons_zero, List.getElem?_cons_succ, reduceCtorEq]
    exact retB rfl Kept.box1 (by rw [hb]; simp [h0])

theorem rIsPerson_spec {l : Bs} (hl : l.length ≤ 1000000) : call prog (.fn 211 []) [.str l] st = some (.bool (personB l), st) := by
  refine call_of_W prog_211 ?_
  unfold F_posthornref13_IsPerson; dsimp only
  have hP := fun S : St => rPlain_spec (st := S) (s := l) (by omega)
  have hN := fun S : St => rLower_spec (st := S) (l := l) (by omega)
  obtain ⟨p, hp⟩ : ∃ p, p = plainA l := ⟨_, rfl⟩
  have hnl : p.2 = 0 → p.1.1 = [] := fun h => by rw [hp] at h ⊢; exact (plain_at0 h).1
  have hb : personB l = (decide (p.2 = 0) && decide (lowOf l = l)) := by rw [hp]; rfl
  rw [← hp] at hP
  clear hp
  obtain ⟨⟨n, a, d⟩, c⟩ := p
  simp only [aV] at hP hnl hb
  by_cases h0 : c = 0
  · have hn := hnl h0
    by_cases h1 : lowOf l = l
    · simp (maxSteps := 1000000) (disch := omega) only [hP, allocPV, st_aa, faP, Nat.zero_add, ld_a0, eq_true h0, hN, eq_true h1, eq_true hn, qaaz, qabz, qaiz, qajz, qakz, qalz, qamz, qanz, evOp, qaoz, qapz, qaqz, qarz, qatz, qauz, qavz,
 ↓reduceIte, Nat.reduceEqDiff, List.append_nil, List.map_cons, List.map_nil, qawz, Option.map_some, qazz, qblz, qbtz, qcbz, beq_true, decide_true, qcjz, List.getElem?_cons_zero, List.getElem?_cons_succ, reduceCtorEq]
      exact retB rfl Kept.box1 (by rw [hb]; simp [h0, h1])
    · simp (maxSteps := 1000000) (disch := omega) only [hP, allocPV, st_aa, eq_true h0, hN, h1, qaaz, qabz, qaiz, qajz, qakz, qalz, qamz, qanz, evOp, qaoz, qapz, qaqz, qarz, qatz, qauz, qavz,
 ↓reduceIte, Nat.reduceEqDiff, List.append_nil, List.map_cons, List.map_nil, qawz, Option.map_some, qazz, qblz, qbtz, qcbz, beq_true, decide_true, decide_false,
 Bool.false_eq_true, qcjz, List.getElem?_cons_zero, List.getElem?_cons_succ, reduceCtorEq]
      exact retB rfl Kept.box1 (by rw [hb]; simp [h0, h1])
  · simp (maxSteps := 1000000) (disch := omega) only [hP, allocPV, st_aa, h0, qaaz, qabz, qaiz, qajz, qakz, qalz, qamz, qanz, evOp, qaoz, qapz, qaqz, qarz, qatz, qauz, qavz,
 ↓reduceIte, Nat.reduceEqDiff, List.append_nil, List.map_cons, List.map_nil, qawz, Option.map_some, qazz, qblz, qbtz, beq_true, decide_false,
 Bool.false_eq_true, qcjz, List.getElem?_cons_zero, List.getElem?_cons_succ, reduceCtorEq]
    exact retB rfl Kept.box1 (by rw [hb]; simp [h0])

theorem roleOf_spec {l : Bs} : call prog (.fn 180 []) [.str l] st = some (.int .i64 (roleOf l), st) := by
  refine call_of_W prog_180 ?_
  unfold F_rules_Role; dsimp only
  simp (maxSteps := 1000000) (disch := omega) only [qaaz, qabz, qacz, qadz, qaez, qagz, qaiz, qajz, qcrz, qalz, evOp, qaoz, qapz, qarz, qatz, qavz,
 ↓reduceIte, Nat.reduceEqDiff, List.append_nil, qawz, Option.map_some, qazz, qbaz, qbbz, qbdz, qbez, qbfz, qblz, qcbz, decide_eq_true_eq, decide_eq_false_iff_not, reduceCtorEq]
  repeat' (first | refine And.intro ?_ ?_ | intro q)
  all_goals first | contradiction | exact retI rfl Kept.start (by simp only [roleOf, roleO, roleA, *, decide_true, decide_false, Bool.or_true, Bool.true_or, Bool.or_false, if_true, if_false, Bool.false_eq_true] <;> decide)
theorem rRole_spec {l : Bs} : call prog (.fn 177 []) [.str l] st = some (.int .i64 (roleOf l), st) := by
  refine call_of_W prog_177 ?_
  unfold F_posthornref14_Role; dsimp only
  simp (maxSteps := 1000000) (disch := omega) only [qaaz, qabz, qacz, qaez, qaiz, qajz, qclz, qcmz, qcoz, qcpz, qcrz, qcwz, forall_const, qalz, evOp, qaoz, qapz, qarz, qatz, qavz,
 ↓reduceIte, Nat.reduceEqDiff, List.append_nil, qawz, Option.map_some, qazz, qbaz, qblz, qcbz, decide_eq_true_eq, decide_eq_false_iff_not, Bool.false_eq_true, Bool.true_eq_false, true_and, and_true, reduceCtorEq]
  repeat' (first | refine And.intro ?_ ?_ | intro q)
  all_goals first | contradiction | exact retI rfl Kept.start (by simp only [roleOf, roleO, roleA, *, decide_true, decide_false, Bool.or_true, Bool.true_or, Bool.or_false, if_true, if_false, Bool.false_eq_true] <;> decide)

def ndV (n : Nd) : List PV := [.int .i64 n.lo, .int .i64 n.hi, .bool n.re, .bool n.st, .bool n.ti]
theorem st_nd {B : List (List PV)} {T : List Bool} {L : List LoopS} {lo : Nat} {a b : Int} {c d f : Bool} {w0 w1 w2 w3 w4 : PV} : storePV ⟨B ++ [[w0, w1, w2, w3, w4]], T, L, lo⟩ 5 (.ptr B.length 0) (.agg [.int .i64 a, .int .i64 b, .bool c, .bool d, .bool f]) = some ⟨B ++ [[.int .i64 a, .int .i64 b, .bool c, .bool d, .bool f]], T, L, lo⟩ := by
  simp [storePV, PV.cells, PV.inB, PV.inB.inBAll, setCells, hasTok, tokOf, leafOk]
theorem ld_nd {B : List (List PV)} {T : List Bool} {L : List LoopS} {lo : Nat} {a b c d f : PV} : loadPV ⟨B ++ [[a, b, c, d, f]], T, L, lo⟩ true 5 (.ptr B.length 0) = some (.agg [a, b, c, d, f]) := by simp [loadPV, readCells]
theorem ld_nd0 {B : List (List PV)} {T : List Bool} {L : List LoopS} {lo : Nat} {a b c d f : PV} : loadPV ⟨B ++ [[a, b, c, d, f]], T, L, lo⟩ false 1 (.ptr B.length 0) = some a := by simp [loadPV, readCells]
theorem ld_nd1 {B : List (List PV)} {T : List Bool} {L : List LoopS} {lo : Nat} {a b c d f : PV} : loadPV ⟨B ++ [[a, b, c, d, f]], T, L, lo⟩ false 1 (.ptr B.length 1) = some b := by simp [loadPV, readCells]
theorem ld_nd2 {B : List (List PV)} {T : List Bool} {L : List LoopS} {lo : Nat} {a b c d f : PV} : loadPV ⟨B ++ [[a, b, c, d, f]], T, L, lo⟩ false 1 (.ptr B.length 2) = some c := by simp [loadPV, readCells]
theorem ld_nd3 {B : List (List PV)} {T : List Bool} {L : List LoopS} {lo : Nat} {a b c d f : PV} : loadPV ⟨B ++ [[a, b, c, d, f]], T, L, lo⟩ false 1 (.ptr B.length 3) = some d := by simp [loadPV, readCells]
theorem ld_nd4 {B : List (List PV)} {T : List Bool} {L : List LoopS} {lo : Nat} {a b c d f : PV} : loadPV ⟨B ++ [[a, b, c, d, f]], T, L, lo⟩ false 1 (.ptr B.length 4) = some f := by simp [loadPV, readCells]
theorem retNd {B : List (List PV)} {T : List Bool} {L : List LoopS} {lo t : Nat} {n m : Nd} (hk : Kept st ⟨B ++ [ndV n], T, L, lo⟩) (ht : e t = .ptr B.length 0) (h : n = m) : ∃ rv, resOf e ⟨B ++ [ndV n], T, L, lo⟩ [.cell t true 5] = some rv ∧ leave st ⟨B ++ [ndV n], T, L, lo⟩ rv = (.agg (ndV m), st) := by
  subst h
  refine ⟨.agg (ndV n), ?_, hk.leave rfl (fun _ _ => rfl)⟩
  simp only [resOf, rvAll, rv1, ht, ndV, ld_nd]
  rfl
theorem needs_spec {l : Bs} : call prog (.fn 193 []) [.str l] st = some (.agg (ndV (needOf l)), st) := by
  refine call_of_W prog_193 ?_
  unfold F_rules_needs; dsimp only
  have b1 : buildCells [.int .i64 0, .int .i64 0, .bool false, .bool false, .bool false] [(3, 1, .bool true)] = some [.int .i64 0, .int .i64 0, .bool false, .bool true, .bool false] := rfl
  have b2 : buildCells [.int .i64 0, .int .i64 0, .bool false, .bool false, .bool false] [(0, 1, .int .i64 1), (1, 1, .int .i64 32), (3, 1, .bool true)] = some [.int .i64 1, .int .i64 32, .bool false, .bool true, .bool false] := rfl
  have b3 : buildCells [.int .i64 0, .int .i64 0, .bool false, .bool false, .bool false] [(0, 1, .int .i64 1), (1, 1, .int .i64 32), (2, 1, .bool true), (3, 1, .bool true)] = some [.int .i64 1, .int .i64 32, .bool true, .bool true, .bool false] := rfl
  have b4 : buildCells [.int .i64 0, .int .i64 0, .bool false, .bool false, .bool false] [(1, 1, .int .i64 32)] = some [.int .i64 0, .int .i64 32, .bool false, .bool false, .bool false] := rfl
  have b5 : buildCells [.int .i64 0, .int .i64 0, .bool false, .bool false, .bool false] [(0, 1, .int .i64 1), (1, 1, .int .i64 1), (4, 1, .bool true)] = some [.int .i64 1, .int .i64 1, .bool false, .bool false, .bool true] := rfl
  have b6 : buildCells [.int .i64 0, .int .i64 0, .bool false, .bool false, .bool false] [(0, 1, .int .i64 1), (1, 1, .int .i64 1), (3, 1, .bool true)] = some [.int .i64 1, .int .i64 1, .bool false, .bool true, .bool false] := rfl
  have b7 : buildCells [.int .i64 0, .int .i64 0, .bool false, .bool false, .bool false] [(0, 1, .int .i64 1), (1, 1, .int .i64 1)] = some [.int .i64 1, .int .i64 1, .bool false, .bool false, .bool false] := rfl
  by_cases q1 : l = sPUB
  · simp (disch := rfl) only [allocPV, eq_true q1, b1, st_nd, qaaz, qabz, qacz, qadz, qaiz, qajz, qalz, evOp, qaoz, qapz, qarz, qatz, qauz, qavz,
 ↓reduceIte, Nat.reduceEqDiff, List.append_nil, List.map_cons, List.map_nil, qawz, Option.map_some, qazz, qbaz, qbez, qbhz, qblz, qcbz, decide_true, reduceCtorEq]
    exact retNd (n := ⟨0, 0, false, true, false⟩) (m := needOf l) Kept.box1 rfl (by rw [q1]; rfl)
  by_cases q2 : l = sREQ
  · simp (disch := rfl) only [allocPV, q1, eq_true q2, b2, st_nd, qaaz, qabz, qacz, qadz, qaiz, qajz, qalz, evOp, qaoz, qapz, qarz, qatz, qauz, qavz,
 ↓reduceIte, Nat.reduceEqDiff, List.append_nil, List.map_cons, List.map_nil, qawz, Option.map_some, qazz, qbaz, qbez, qbhz, qblz, qcbz, decide_true, decide_false,
 Bool.false_eq_true, reduceCtorEq]
    exact retNd (n := ⟨1, 32, false, true, false⟩) (m := needOf l) Kept.box1 rfl (by rw [q2]; rfl)
  by_cases q3 : l = sADD
  · simp (disch := rfl) only [allocPV, q1, q2, eq_true q3, b3, st_nd, qaaz, qabz, qacz, qadz, qaiz, qajz, qalz, evOp, qaoz, qapz, qarz, qatz, qauz, qavz,
 ↓reduceIte, Nat.reduceEqDiff, List.append_nil, List.map_cons, List.map_nil, qawz, Option.map_some, qazz, qbaz, qbez, qbhz, qblz, qcbz, decide_true, decide_false,
 Bool.false_eq_true, reduceCtorEq]
    exact retNd (n := ⟨1, 32, true, true, false⟩) (m := needOf l) Kept.box1 rfl (by rw [q3]; rfl)
  by_cases q4 : l = sCAN
  · simp (disch := rfl) only [allocPV, q1, q2, q3, eq_true q4, b4, st_nd, qaaz, qabz, qacz, qadz, qaiz, qajz, qalz, evOp, qaoz, qapz, qarz, qatz, qauz, qavz,
 ↓reduceIte, Nat.reduceEqDiff, List.append_nil, List.map_cons, List.map_nil, qawz, Option.map_some, qazz, qbaz, qbez, qbhz, qblz, qcbz, decide_true, decide_false,
 Bool.false_eq_true, reduceCtorEq]
    exact retNd (n := ⟨0, 32, false, false, false⟩) (m := needOf l) Kept.box1 rfl (by rw [q4]; rfl)
  by_cases q5 : l = sREF
  · simp (disch := rfl) only [allocPV, q1, q2, q3, q4, eq_true q5, b5, st_nd, qaaz, qabz, qacz, qadz, qaiz, qajz, qalz, evOp, qaoz, qapz, qarz, qatz, qauz, qavz,
 ↓reduceIte, Nat.reduceEqDiff, List.append_nil, List.map_cons, List.map_nil, qawz, Option.map_some, qazz, qbaz, qbez, qbhz, qblz, qcbz, decide_true, decide_false,
 Bool.false_eq_true, reduceCtorEq]
    exact retNd (n := ⟨1, 1, false, false, true⟩) (m := needOf l) Kept.box1 rfl (by rw [q5]; rfl)
  by_cases q6 : l = sCOU
  · simp (disch := rfl) only [allocPV, q1, q2, q3, q4, q5, eq_true q6, b6, st_nd, qaaz, qabz, qacz, qadz, qaiz, qajz, qalz, evOp, qaoz, qapz, qarz, qatz, qauz, qavz,
 ↓reduceIte, Nat.reduceEqDiff, List.append_nil, List.map_cons, List.map_nil, qawz, Option.map_some, qazz, qbaz, qbez, qbhz, qblz, qcbz, decide_true, decide_false,
 Bool.false_eq_true, reduceCtorEq]
    exact retNd (n := ⟨1, 1, false, true, false⟩) (m := needOf l) Kept.box1 rfl (by rw [q6]; rfl)
  simp (disch := rfl) only [allocPV, q1, q2, q3, q4, q5, q6, b7, st_nd, qaaz, qabz, qacz, qadz, qaez, qaiz, qajz, qalz, evOp, qaoz, qapz, qarz, qatz, qauz, qavz,
 ↓reduceIte, Nat.reduceEqDiff, List.append_nil, List.map_cons, List.map_nil, qawz, Option.map_some, qazz, qbdz, qbhz, qblz, qcbz, decide_false,
 Bool.false_eq_true, reduceCtorEq]
  exact retNd (n := ⟨1, 1, false, false, false⟩) (m := needOf l) Kept.box1 rfl (by simp [needOf, q1, q2, q3, q4, q5, q6])

abbrev mkV (a b : Int) : PV := .agg [.int .i64 a, .int .i64 b]
theorem eql_mk {a b c d : Int} : binPV .eql (.struct [.i, .i]) (mkV a b) (mkV c d) = some (.bool (decide (a = c) && decide (b = d))) := by
  have g1 : (a == c) = decide (a = c) := rfl
  have g2 : (b == d) = decide (b = d) := rfl
  by_cases h1 : a = c <;> by_cases h2 : b = d <;> simp [binPV, eqPV, eqCells, eqLeaf, g1, g2, h1, h2]
theorem strip_mk {a b : Int} : strip (.agg [.int .i64 a, .int .i64 b]) = some (.agg [.int .i64 a, .int .i64 b]) := rfl
theorem lc_mk {a b : PV} : loadcPV true 2 (.cp [a, b]) = some (.agg [a, b]) := rfl
theorem lc_mk0 {a b : PV} : loadcPV false 1 (.cp [a, b]) = some a := rfl
theorem lc_mk1 {b : PV} : loadcPV false 1 (.cp [b]) = some b := rfl
theorem fa_mk0 {a b : PV} : faddrPV 0 (.cp [a, b]) = some (.cp [a, b]) := rfl
theorem fa_mk1 {a b : PV} : faddrPV 1 (.cp [a, b]) = some (.cp [b]) := rfl
theorem Newer_spec {a b c d : Int} : call prog (.fn 182 []) [mkV a b, mkV c d] st = some (.bool (newerB a b c d), st) := by
  refine call_of_W prog_182 ?_
  unfold F_rules_Newer; dsimp only
  have h := eql_mk (a := a) (b := b) (c := c) (d := d)
  simp only [mkV] at h ⊢
  by_cases q0 : a = c ∧ b = d
  · have hq : (decide (a = c) && decide (b = d)) = true := by simp [q0]
    rw [hq] at h
    simp (maxSteps := 1000000) (disch := omega) only [strip_mk, cells_agg, lc_mk, h, qaaz, qabz, qacz, qaiz, qajz, qalz, evOp, qaoz, qapz, qarz, qatz, qavz,
 ↓reduceIte, Nat.reduceEqDiff, List.append_nil, qawz, qaxz, Option.map_some, qazz, qbaz, qbhz, qblz]
    exact retB rfl Kept.start (by obtain ⟨rfl, rfl⟩ := q0; simp [newerB])
  · have hq : (decide (a = c) && decide (b = d)) = false := by simpa using q0
    rw [hq] at h
    by_cases q1 : c < a
    · simp (maxSteps := 1000000) (disch := omega) only [strip_mk, cells_agg, lc_mk, h, fa_mk0, lc_mk0, q1, qaaz, qabz, qacz, qaez, qaiz, qajz, qakz, qalz, qamz, qanz, evOp, qaoz, qapz, qarz, qatz, qavz,
 ↓reduceIte, Nat.reduceEqDiff, List.append_nil, qawz, qaxz, Option.map_some, qazz, qbhz, qblz, qbrz, beq_false, decide_true, Bool.false_eq_true, Bool.not_true]
      exact retB rfl Kept.start (by simp [newerB, q1])
    · by_cases q2 : a = c
      · simp (maxSteps := 1000000) (disch := omega) only [strip_mk, cells_agg, lc_mk, h, fa_mk0, fa_mk1, lc_mk0, lc_mk1, q1, eq_true q2, qaaz, qabz, qacz, qaez, qaiz, qajz, qakz, qalz, qamz, qanz, evOp, qaoz, qapz, qarz, qatz, qavz,
 ↓reduceIte, Nat.reduceEqDiff, List.append_nil, qawz, qaxz, Option.map_some, qazz, qbhz, qblz, qbrz, qbtz, beq_true, beq_false, decide_true, decide_false,
 Bool.false_eq_true, Bool.not_false]
        exact retB rfl Kept.start (by simp [newerB, q2])
      · simp (maxSteps := 1000000) (disch := omega) only [strip_mk, cells_agg, lc_mk, h, fa_mk0, lc_mk0, q1, q2, qaaz, qabz, qacz, qaez, qaiz, qajz, qakz, qalz, qamz, qanz, evOp, qaoz, qapz, qarz, qatz, qavz,
 ↓reduceIte, Nat.reduceEqDiff, List.append_nil, qawz, qaxz, Option.map_some, qazz, qbhz, qblz, qbrz, qbtz, beq_true, beq_false, decide_false,
 Bool.false_eq_true, Bool.not_false]
        exact retB rfl Kept.start (by simp [newerB, q1, q2])
theorem rNewer_spec {a b c d : Int} : call prog (.fn 190 []) [.int .i64 a, .int .i64 b, .int .i64 c, .int .i64 d] st = some (.bool (newerB a b c d), st) := by
  refine call_of_W prog_190 ?_
  unfold F_posthornref14_Newer; dsimp only
  by_cases q1 : a = c
  · simp (maxSteps := 1000000) (disch := omega) only [eq_true q1, qaaz, qabz, qacz, qaez, qaiz, qajz, qalz, evOp, qaoz, qapz, qarz, qatz, qavz,
 ↓reduceIte, Nat.reduceEqDiff, List.append_nil, qawz, qaxz, Option.map_some, qazz, qbhz, qblz, qbrz, qbuz, decide_false,
 Bool.false_eq_true, reduceCtorEq, ne_eq, not_true_eq_false]
    exact retB rfl Kept.start (by simp [newerB, q1])
  · simp (maxSteps := 1000000) (disch := omega) only [q1, qaaz, qabz, qacz, qaiz, qajz, qalz, evOp, qaoz, qapz, qarz, qatz, qavz,
 ↓reduceIte, Nat.reduceEqDiff, List.append_nil, qawz, qaxz, Option.map_some, qazz, qbaz, qbhz, qblz, qbrz, qbuz, decide_true, reduceCtorEq, ne_eq, not_false_eq_true]
    exact retB rfl Kept.start (by simp [newerB, q1])
end Go.Ab
/-
  Where a text can be cut, by the document.
-/
namespace Go.Ab
variable {st s : St} {e : Env}

theorem drop_get {l : List UInt8} {i j : Nat} : (l.drop i).getD j 0 = l.getD (i + j) 0 := by simp [List.getD]

end Go.Ab
/-
  Names and texts of a calendar's lines.
-/
namespace Go.Ab
variable {st s : St} {e : Env}

end Go.Ab
/-
  Lines that may be.
-/
namespace Go.Ab
variable {st s : St} {e : Env}

structure Ln where
  n : List UInt8
  pv : PV
  ps : List Fld
  v : List UInt8
def lV (L : Ln) : PV := .agg [.str L.n, L.pv, .str L.v]
structure Ln.ok (L : Ln) : Prop where
  vs : L.pv.vs 2 = some (L.ps.map fV)
  ib : ∀ n, L.pv.inB n = true
  lf : leafOk L.pv = true
  tk : tokOf L.pv = none
  l1 : L.n.length ≤ 300
  l2 : L.v.length ≤ 5000
  l3 : L.ps.length ≤ 30
  l4 : ∀ p ∈ L.ps, p.1.length + p.2.length ≤ 500

structure Ln.okR (L : Ln) : Prop where
  vs : L.pv.vs 2 = some (L.ps.map fV)
  ib : ∀ n, L.pv.inB n = true
  lf : leafOk L.pv = true
  l1 : L.n.length ≤ 1000000
  l2 : L.v.length ≤ 1000000
  l3 : L.ps.length ≤ 1000000
  l4 : ∀ p ∈ L.ps, p.1.length + p.2.length ≤ 1000000
theorem Ln.ok.r {L : Ln} (h : L.ok) : L.okR := ⟨h.vs, h.ib, h.lf, by have := h.l1; omega, by have := h.l2; omega, by have := h.l3; omega, fun p hp => by have := h.l4 p hp; omega⟩

def At (s : St) (b : Nat) (cs : List PV) : Prop := s.boxes[b]? = some cs
theorem At.alloc {b : Nat} {cs z : List PV} {T : List Bool} {Lp : List LoopS} {lo : Nat} (h : At s b cs) : At ⟨s.boxes ++ [z], T, Lp, lo⟩ b cs := by
  unfold At at *
  have := (List.getElem?_eq_some_iff.1 h).1
  show (s.boxes ++ [z])[b]? = _
  rw [List.getElem?_append_left this]; exact h
theorem At.last {z : List PV} {T : List Bool} {Lp : List LoopS} {lo : Nat} : At ⟨s.boxes ++ [z], T, Lp, lo⟩ s.boxes.length z := by
  unfold At; simp
theorem At.load {b k : Nat} {cs : List PV} {v : PV} {r : List PV} (h : At s b cs) (hk : cs.drop k = v :: r) : loadPV s false 1 (.ptr b k) = some v := by
  unfold At at h
  simp [loadPV, h, hk, readCells]
end Go.Ab
/-
  Lines that may be, by the document.
-/
namespace Go.Ab
variable {st s : St} {e : Env}

end Go.Ab
/-
  A line as a text.
-/
namespace Go.Ab
variable {st s : St} {e : Env}

end Go.Ab
/-
  A line as a text, by the document.
-/
namespace Go.Ab
variable {st s : St} {e : Env}

end Go.Ab
/-
  Lines are written, folded.
-/
namespace Go.Ab
variable {st s : St} {e : Env}

theorem Mine.alloc' {v : PV} {l : List UInt8} {B : List (List PV)} {Lp : List LoopS} {lo : Nat} (h : Mine st s v l) : Mine st ⟨B, s.toks, Lp, lo⟩ v l := ⟨h.1.move fun _ _ => rfl, h.2⟩
end Go.Ab
/-
  Lines are written, folded: the program's function.
-/
namespace Go.Ab
variable {st s : St} {e : Env}

end Go.Ab
/-
  Lines are written, folded: the document's function.
-/
namespace Go.Ab
variable {st s : St} {e : Env}

end Go.Ab
/-
  How big lines are; the law SheetWrites.
-/
namespace Go.Ab
variable {st s : St} {e : Env}

structure Ln.raw (L : Ln) : Prop where
  vs : L.pv.vs 2 = some (L.ps.map fV)
  ib : ∀ n, L.pv.inB n = true
  lf : leafOk L.pv = true
  tk : tokOf L.pv = none
  l1 : L.n.length ≤ 4000000000000000000
  l2 : L.v.length ≤ 4000000000000000000
  l3 : L.ps.length ≤ 9223372036854775807
  l4 : ∀ p ∈ L.ps, p.1.length ≤ 4000000000000000000 ∧ p.2.length ≤ 4000000000000000000
end Go.Ab
/-
  The law SheetWrites.
-/
namespace Go.Ab
variable {st s : St} {e : Env}

end Go.Ab
/-
  An argument of lines, opened.
-/
namespace Go.Ab

def strs2 (P : Program) (t : TypeId) : Bool := match fieldsT P t with
  | some fs => fs.toList.map (fun f => isStrT P f.type) == [true, true]
  | none => false
theorem HasTy.two {P : Program} {t : TypeId} {q : PV} (h : HasTy P t q) (hs0 : strs2 P t = true) : ∃ f : Fld, q = fV f ∧ f.1.length ≤ reachBytes ∧ f.2.length ≤ reachBytes := by
  unfold strs2 fieldsT at hs0
  obtain ⟨fs, ht⟩ : ∃ fs, P.underlying t = some (.struct fs) := by
    cases ht : P.underlying t with
    | none => simp [ht] at hs0
    | some d => cases d <;> first | exact ⟨_, rfl⟩ | (simp [ht] at hs0; done)
  simp only [ht, beq_iff_eq] at hs0
  obtain ⟨fl⟩ := fs
  have hlen : fl.length = 2 := by simpa using congrArg List.length hs0
  match fl, hlen, hs0 with
  | [f0, f1], _, hs0 =>
    simp only [List.map_cons, List.map_nil, List.cons.injEq, and_true] at hs0
    have hs := And.intro (isStrT_eq hs0.1) (isStrT_eq hs0.2)
    cases h with
    | agg xs ht' hl hx =>
      rw [ht] at ht'; cases ht'
      match xs, hl with
      | [x0, x1], _ =>
        obtain ⟨a, rfl, ha⟩ := HasTy.strR (hx 0 f0 x0 rfl rfl) hs.1
        obtain ⟨b, rfl, hb⟩ := HasTy.strR (hx 1 f1 x1 rfl rfl) hs.2
        exact ⟨(a, b), rfl, ha, hb⟩
    | bool _ ht' => rw [ht] at ht'; cases ht'
    | int _ ht' => rw [ht] at ht'; cases ht'
    | u8 _ ht' => rw [ht] at ht'; cases ht'
    | str _ ht' => rw [ht] at ht'; cases ht'
    | nils ht' => rw [ht] at ht'; cases ht'
    | bys _ ht' => rw [ht] at ht'; cases ht'
    | sl _ ht' => rw [ht] at ht'; cases ht'
theorem HasTy.twos {P : Program} {t e : TypeId} {q : PV} (h : HasTy P t q) (ht : P.underlying t = some (.slice e)) (hc : P.cellsOf e = 2) (hs : strs2 P e = true) :
    ∃ l : List Fld, q.vs 2 = some (l.map fV) ∧ (∀ f ∈ l, f.1.length ≤ reachBytes ∧ f.2.length ≤ reachBytes) ∧ l.length ≤ maxLen ∧ (∀ n, q.inB n = true) ∧ leafOk q = true ∧ tokOf q = none ∧ q.cells = [q] := by
  cases h with
  | nils ht' => exact ⟨[], rfl, fun f h => (by cases h), by simp, fun n => rfl, rfl, rfl, rfl⟩
  | bys _ ht' he' => rw [ht] at ht'; cases ht'; simp [strs2, fieldsT, he'] at hs
  | sl xs ht' he' hl hx =>
    rw [ht] at ht'; cases ht'
    have : ∀ xs : List PV, (∀ x ∈ xs, HasTy P e x) → ∃ l : List Fld, xs = l.map fV ∧ ∀ f ∈ l, f.1.length ≤ reachBytes ∧ f.2.length ≤ reachBytes := by
      intro xs
      induction xs with
      | nil => intro _; exact ⟨[], rfl, fun f h => (by cases h)⟩
      | cons x r ih =>
        intro hx
        obtain ⟨f, rfl, hf⟩ := HasTy.two (hx x (by simp)) hs
        obtain ⟨l, rfl, hl⟩ := ih (fun y hy => hx y (by simp [hy]))
        refine ⟨f :: l, rfl, fun g hg => ?_⟩
        rcases List.mem_cons.1 hg with rfl | hg
        · exact hf
        · exact hl g hg
    obtain ⟨l, rfl, hl2⟩ := this xs hx
    exact ⟨l, by simp [PV.vs, hc], hl2, by simpa using hl, fun n => rfl, rfl, rfl, rfl⟩
  | bool _ ht' => rw [ht] at ht'; cases ht'
  | int _ ht' => rw [ht] at ht'; cases ht'
  | u8 _ ht' => rw [ht] at ht'; cases ht'
  | str _ ht' => rw [ht] at ht'; cases ht'
  | agg _ ht' => rw [ht] at ht'; cases ht'

def lineT (P : Program) (t ep : TypeId) : Bool := match fieldsT P t with
  | some fs => match fs.toList with
    | [f0, f1, f2] => isStrT P f0.type && (sliceElem P f1.type == some ep) && isStrT P f2.type && strs2 P ep && (P.cellsOf ep == 2)
    | _ => false
  | none => false
theorem HasTy.line {P : Program} {t ep : TypeId} {q : PV} (h : HasTy P t q) (hs0 : lineT P t ep = true) : ∃ L : Ln, q = lV L ∧ L.raw := by
  unfold lineT fieldsT at hs0
  obtain ⟨fs, ht⟩ : ∃ fs, P.underlying t = some (.struct fs) := by
    cases ht : P.underlying t with
    | none => simp [ht] at hs0
    | some d => cases d <;> first | exact ⟨_, rfl⟩ | (simp [ht] at hs0; done)
  simp only [ht] at hs0
  obtain ⟨fl⟩ := fs
  match fl, hs0 with
  | [f0, f1, f2], hs0 =>
    simp only [Bool.and_eq_true, beq_iff_eq] at hs0
    obtain ⟨⟨⟨⟨s0, s1⟩, s2⟩, s3⟩, s4⟩ := hs0
    have hu1 : P.underlying f1.type = some (.slice ep) := by
      unfold sliceElem at s1
      split at s1
      · rename_i e he; rw [he]; cases s1; rfl
      · cases s1
    cases h with
    | agg xs ht' hl hx =>
      rw [ht] at ht'; cases ht'
      match xs, hl with
      | [x0, x1, x2], _ =>
        obtain ⟨a, rfl, ha⟩ := HasTy.strR (hx 0 f0 x0 rfl rfl) (isStrT_eq s0)
        obtain ⟨l, l1, l2, l3, l4, l5, l6, l7⟩ := HasTy.twos (hx 1 f1 x1 rfl rfl) hu1 s4 s3
        obtain ⟨b, rfl, hb⟩ := HasTy.strR (hx 2 f2 x2 rfl rfl) (isStrT_eq s2)
        have hR : reachBytes ≤ 4000000000000000000 := by decide
        refine ⟨⟨a, x1, l, b⟩, ?_, ⟨l1, l4, l5, l6, Nat.le_trans ha hR, Nat.le_trans hb hR, Nat.le_trans l3 (by decide), fun p hp => ⟨Nat.le_trans (l2 p hp).1 hR, Nat.le_trans (l2 p hp).2 hR⟩⟩⟩
        simp only [lV, flat, List.flatMap_cons, List.flatMap_nil, l7]
        rfl
    | bool _ ht' => rw [ht] at ht'; cases ht'
    | int _ ht' => rw [ht] at ht'; cases ht'
    | u8 _ ht' => rw [ht] at ht'; cases ht'
    | str _ ht' => rw [ht] at ht'; cases ht'
    | nils ht' => rw [ht] at ht'; cases ht'
    | bys _ ht' => rw [ht] at ht'; cases ht'
    | sl _ ht' => rw [ht] at ht'; cases ht'
theorem HasTy.lines {P : Program} {t e ep : TypeId} {q : PV} (h : HasTy P t q) (ht : P.underlying t = some (.slice e)) (hc : P.cellsOf e = 3) (hs : lineT P e ep = true) :
    ∃ l : List Ln, q.vs 3 = some (l.map lV) ∧ (∀ L ∈ l, L.raw) ∧ l.length ≤ 9223372036854775807 := by
  cases h with
  | nils ht' => exact ⟨[], rfl, fun f h => (by cases h), by simp⟩
  | bys _ ht' he' => rw [ht] at ht'; cases ht'; simp [lineT, fieldsT, he'] at hs
  | sl xs ht' he' hl hx =>
    rw [ht] at ht'; cases ht'
    have : ∀ xs : List PV, (∀ x ∈ xs, HasTy P e x) → ∃ l : List Ln, xs = l.map lV ∧ ∀ L ∈ l, L.raw := by
      intro xs
      induction xs with
      | nil => intro _; exact ⟨[], rfl, fun f h => (by cases h)⟩
      | cons x r ih =>
        intro hx
        obtain ⟨f, rfl, hf⟩ := HasTy.line (hx x (by simp)) hs
        obtain ⟨l, rfl, hl⟩ := ih (fun y hy => hx y (by simp [hy]))
        refine ⟨f :: l, rfl, fun g hg => ?_⟩
        rcases List.mem_cons.1 hg with rfl | hg
        · exact hf
        · exact hl g hg
    obtain ⟨l, rfl, hl2⟩ := this xs hx
    exact ⟨l, by simp [PV.vs, hc], hl2, Nat.le_trans (by simpa using hl) (by decide)⟩
  | bool _ ht' => rw [ht] at ht'; cases ht'
  | int _ ht' => rw [ht] at ht'; cases ht'
  | u8 _ ht' => rw [ht] at ht'; cases ht'
  | str _ ht' => rw [ht] at ht'; cases ht'
  | agg _ ht' => rw [ht] at ht'; cases ht'
end Go.Ab
/-
  Lines' folds are undone: bytes are replaced.
-/
namespace Go.Ab
set_option maxRecDepth 20000
variable {st s : St} {e : Env}

end Go.Ab
/-
  Lines' folds are undone, walked.
-/
namespace Go.Ab
set_option maxRecDepth 20000
variable {st s : St} {e : Env}

end Go.Ab
/-
  A line is read: the parts of it.
-/
namespace Go.Ab
set_option maxRecDepth 20000
variable {st s : St} {e : Env}

end Go.Ab
