/-
  The point at a text's front: the program's function.
-/
import Derived.Test.YtanlheneakdngaaDoorA3
import Derived.KernelRfl
set_option linter.unusedVariables false
set_option linter.unusedSimpArgs false
namespace Go.Ab
variable {A : AP} {st s : St} {e : Env}

def scopeQ (A : AP) (b rest : ACode) (Q : Ex → Env → St → Prop) : Ex → Env → St → Prop
  | .goto l, e, s => if l = 0 then W A (.scopeAt b rest) e s Q else False
  | x, e, s => Q x e s
theorem W_scope1 {b rest : ACode} {Q : Ex → Env → St → Prop} (hl : findLabelA b 0 = some rest) (h : W A b e st (scopeQ A b rest Q)) : W A (.scope b) e st Q := by
  rw [W_scope]
  refine W_scopeAt (W_mono h ?_)
  intro x e s hq
  cases x with
  | goto l =>
    simp only [scopeQ] at hq
    split at hq
    · rename_i h0; subst h0
      simp only [hl]; exact hq
    · cases hq
  | normal => exact hq
  | ret => exact hq
  | exit i => exact hq

theorem mid_getD {l : List UInt8} {n k : Nat} (h : k + 1 < n) : ((l.take n).drop 1).getD k 0 = l.getD (k + 1) 0 := by
  simp only [List.getD, List.getElem?_drop, List.getElem?_take]
  rw [if_pos (by omega), Nat.add_comm]

set_option maxHeartbeats 1000000 in
theorem uNext_spec {x : PV} {l : List UInt8} (hx : x.by = some l) (hl : l.length ≤ 100000000) : call prog (.fn 77 []) [x] st = some (nextV l, st) := by
  refine call_of_W prog_77 ?_
  unfold F_utf_Next; dsimp only
  refine W_cut (fun E S => Kept st S ∧ E 0 = x) ?_ ?_
  · simp (maxSteps := 1000000) (disch := omega) only [qabz, qajz, qalz, evOp, qapz, qarz, qatz, qavz,
 ↓reduceIte, List.append_nil, qawz, true_and, and_true, reduceCtorEq]
    exact Kept.start
  rintro e S ⟨hk, h0⟩
  refine W_scope1 rfl ?_
  generalize hR : scopeQ prog _ _ _ = R
  have fin : ∀ (E : Env) (S : St) (p n c : Int), Kept st S → nextV l = .tup [.int .i32 p, .int .i64 n, .int .i64 c] → E 2 = .int .i32 p → E 3 = .int .i64 n → E 4 = .int .i64 c → R .ret E S := by
    intro E S p n c k1 hv k2 k3 k4
    rw [← hR]
    show endQ _ _ _ .ret E S
    rw [qblz]
    exact ⟨.tup [.int .i32 p, .int .i64 n, .int .i64 c], by simp [resOf, rvAll, rv1, k2, k3, k4, notTup, packRes], by rw [hv]; exact k1.leave rfl (fun _ _ => rfl)⟩
  have wrong : ∀ (E : Env) (S : St), Kept st S → nextOf l = none → l ≠ [] → R (.goto 0) E S := by
    intro E S k1 hv hne
    rw [← hR]
    simp only [scopeQ, if_true]
    refine W_scopeAt ?_
    simp (maxSteps := 1000000) (disch := omega) only [qaaz, qabz, qaez, qaiz, qajz, qalz, evOp, qapz, qarz, qatz, qazz, qblz]
    exact ⟨.tup [.int .i32 0, .int .i64 0, .int .i64 20], rfl, by rw [nextV_none hv hne]; exact k1.leave rfl (fun _ _ => rfl)⟩
  clear hR
  by_cases hne : l = []
  · have e1 : decide ((l.length : Int) = 0) = true := by simp [hne]
    simp (maxSteps := 1000000) (disch := omega) only [h0, len_by hx, e1, qaaz, qabz, qacz, qaiz, qajz, qalz, evOp, qaoz, qapz, qarz, qatz, qavz,
 ↓reduceIte, Option.map_some, qazz, qbaz, qbhz, qbtz, reduceCtorEq]
    exact fin _ _ 0 0 42 hk (by simp [nextV, nextOf, hne]) rfl rfl rfl
  have hlen : 0 < l.length := List.length_pos_iff.2 hne
  have e1 : ¬ ((l.length : Int) = 0) := by omega
  obtain ⟨c, hc⟩ : ∃ c, c = l.getD 0 0 := ⟨_, rfl⟩
  have hi0 : iaddrPV 1 x (.int .i64 0) = some (.cp [.b8 c]) := by rw [hc]; exact iaddr_by hx (by omega) (by simpa using hlen)
  by_cases h128 : c < 128
  · have h128' : c.toNat < 128 := by rw [UInt8.lt_iff_toNat_lt] at h128; simpa using h128
    simp (maxSteps := 1000000) (disch := omega) only [h0, len_by hx, e1, hi0, qciz, h128, cI32, qaaz, qabz, qacz, qadz, qaez, qaiz, qajz, qalz, evOp, qaoz, qapz, qarz, qatz, qavz,
 ↓reduceIte, Nat.reduceEqDiff, Option.map_some, qazz, qbaz, qbez, qbhz, qbtz, qbxz, qciz, decide_true, decide_false,
 Bool.false_eq_true, reduceCtorEq]
    exact fin _ _ (c.toNat : Int) 1 0 hk (nextV_some (p := c.toNat) (n := 1) (by unfold nextOf; rw [if_neg hne, ← hc, if_pos h128'])) rfl rfl rfl
  have h128' : ¬ c.toNat < 128 := by rw [UInt8.lt_iff_toNat_lt] at h128; simpa using h128
  obtain ⟨p, n, hpn⟩ : ∃ p n, lead c.toNat = (p, n) := ⟨_, _, rfl⟩
  have hnx : nextOf l = if n = 0 ∨ l.length < n ∨ ¬ contB l (n - 1) ∨ ¬ pointN (accP l p (n - 1)) ∨ accP l p (n - 1) < lowN n then none else some (accP l p (n - 1), n) := by
    unfold nextOf
    rw [if_neg hne, ← hc, if_neg h128', hpn]
  refine W_cut (fun E S => Kept st S ∧ E 0 = x ∧ E 5 = .int .i32 0) ?_ ?_
  · simp (maxSteps := 1000000) (disch := omega) only [h0, qabz, qajz, qalz, evOp, qapz, qarz, qatz, qavz,
 ↓reduceIte, true_and, and_true, reduceCtorEq]
    exact hk
  clear hk h0
  rintro e S ⟨hk, h0, h5⟩
  refine W_cut (fun E S => Kept st S ∧ E 0 = x ∧ E 5 = .int .i32 0 ∧ E 6 = .int .i64 0) ?_ ?_
  · simp (maxSteps := 1000000) (disch := omega) only [h0, h5, qabz, qajz, qalz, evOp, qapz, qarz, qatz, qavz,
 ↓reduceIte, Nat.reduceEqDiff, true_and, and_true, reduceCtorEq]
    exact hk
  clear hk h0 h5
  rintro e S ⟨hk, h0, h5, h6⟩
  refine W_cut (fun E S => Kept st S ∧ E 0 = x ∧ E 5 = .int .i32 0 ∧ E 6 = .int .i64 0) ?_ ?_
  · simp (maxSteps := 1000000) (disch := omega) only [h0, h5, h6, len_by hx, e1, qaaz, qabz, qacz, qaez, qajz, qalz, evOp, qaoz, qapz, qarz, qatz, qavz,
 ↓reduceIte, Nat.reduceEqDiff, Option.map_some, qazz, qbhz, qbtz, decide_false,
 Bool.false_eq_true, true_and, and_true, reduceCtorEq]
    exact hk
  clear hk h0 h5 h6
  rintro e S ⟨hk, h0, h5, h6⟩
  refine W_cut (fun E S => Kept st S ∧ E 0 = x ∧ E 5 = .int .i32 (p : Int) ∧ E 6 = .int .i64 (n : Int)) ?_ ?_
  · by_cases q2 : UInt8.ofNat (c.toNat / 32) = 6
    · have := (is2 c).1 q2
      obtain ⟨rfl, rfl⟩ : p = c.toNat % 32 ∧ n = 2 := by
        unfold lead at hpn; rw [if_pos this] at hpn; cases hpn; exact ⟨rfl, rfl⟩
      simp (maxSteps := 1000000) (disch := omega) only [h0, hi0, qciz, h128, shr5, eq_true q2, and_8, cI32, and31, qaaz, qabz, qacz, qadz, qajz, qalz, evOp, qaoz, qapz, qarz, qatz, qavz,
 ↓reduceIte, Nat.reduceEqDiff, Option.map_some, qazz, qbdz, qbhz, qbvz, qbxz, qciz, decide_true, decide_false,
 Bool.false_eq_true, true_and, reduceCtorEq]
      exact ⟨hk, rfl⟩
    have n2 : ¬ (192 ≤ c.toNat ∧ c.toNat < 224) := fun h => q2 ((is2 c).2 h)
    by_cases q3 : UInt8.ofNat (c.toNat / 16) = 14
    · have := (is3 c).1 q3
      obtain ⟨rfl, rfl⟩ : p = c.toNat % 16 ∧ n = 3 := by
        unfold lead at hpn; rw [if_neg n2, if_pos this] at hpn; cases hpn; exact ⟨rfl, rfl⟩
      simp (maxSteps := 1000000) (disch := omega) only [h0, hi0, qciz, h128, shr5, shr4, q2, eq_true q3, and_8, cI32, and15, qaaz, qabz, qacz, qadz, qajz, qalz, evOp, qaoz, qapz, qarz, qatz, qavz,
 ↓reduceIte, Nat.reduceEqDiff, Option.map_some, qazz, qbdz, qbhz, qbvz, qbxz, qciz, decide_true, decide_false,
 Bool.false_eq_true, true_and, reduceCtorEq]
      exact ⟨hk, rfl⟩
    have n3 : ¬ (224 ≤ c.toNat ∧ c.toNat < 240) := fun h => q3 ((is3 c).2 h)
    by_cases q4 : UInt8.ofNat (c.toNat / 8) = 30
    · have := (is4 c).1 q4
      obtain ⟨rfl, rfl⟩ : p = c.toNat % 8 ∧ n = 4 := by
        unfold lead at hpn; rw [if_neg n2, if_neg n3, if_pos this] at hpn; cases hpn; exact ⟨rfl, rfl⟩
      simp (maxSteps := 1000000) (disch := omega) only [h0, hi0, qciz, h128, shr5, shr4, shr3, q2, q3, eq_true q4, and_8, cI32, and7, qaaz, qabz, qacz, qadz, qajz, qalz, evOp, qaoz, qapz, qarz, qatz, qavz,
 ↓reduceIte, Nat.reduceEqDiff, Option.map_some, qazz, qbdz, qbhz, qbvz, qbxz, qciz, decide_true, decide_false,
 Bool.false_eq_true, true_and, reduceCtorEq]
      exact ⟨hk, rfl⟩
    have n4 : ¬ (240 ≤ c.toNat ∧ c.toNat < 248) := fun h => q4 ((is4 c).2 h)
    obtain ⟨rfl, rfl⟩ : p = 0 ∧ n = 0 := by
      unfold lead at hpn; rw [if_neg n2, if_neg n3, if_neg n4] at hpn; cases hpn; exact ⟨rfl, rfl⟩
    simp (maxSteps := 1000000) (disch := omega) only [h0, h5, h6, hi0, qciz, h128, shr5, shr4, shr3, q2, q3, q4, qaaz, qabz, qacz, qadz, qaez, qajz, qalz, evOp, qaoz, qapz, qarz, qatz, qavz,
 ↓reduceIte, Nat.reduceEqDiff, Option.map_some, qazz, qbdz, qbhz, qbvz, qbxz, qciz, decide_false,
 Bool.false_eq_true, true_and, reduceCtorEq]
    exact ⟨hk, rfl, rfl⟩
  clear hk h0 h5 h6
  rintro e S ⟨hk, h0, h5, h6⟩
  by_cases hn0 : n = 0
  · have e2 : decide ((n : Int) = 0) = true := by simp [hn0]
    simp (maxSteps := 1000000) (disch := omega) only [h6, e2, qaaz, qabz, qacz, qahz, qajz, qakz, qalz, qamz, qanz, evOp, qaoz, qapz, qarz, qatz, qavz,
 ↓reduceIte, Nat.reduceEqDiff, Option.map_some, qazz, qbcz, qbhz, qbtz, beq_false, Bool.false_eq_true, Bool.not_true]
    exact wrong _ _ hk (by rw [hnx, if_pos (.inl hn0)]) hne
  have e2 : ¬ (n : Int) = 0 := by omega
  by_cases hln : l.length < n
  · have e3 : (l.length : Int) < (n : Int) := by omega
    simp (maxSteps := 1000000) (disch := omega) only [h0, h6, len_by hx, e2, e3, qaaz, qabz, qacz, qahz, qajz, qakz, qalz, qamz, qanz, evOp, qaoz, qapz, qarz, qatz, qavz,
 ↓reduceIte, Nat.reduceEqDiff, Option.map_some, qazz, qbcz, qbhz, qbpz, qbtz, beq_false, decide_true, decide_false,
 Bool.false_eq_true, reduceCtorEq, Bool.not_false]
    exact wrong _ _ hk (by rw [hnx, if_pos (.inr (.inl hln))]) hne
  have e3 : ¬ (l.length : Int) < (n : Int) := by omega
  have hn24 : (n = 2 ∧ p < 32) ∨ (n = 3 ∧ p < 16) ∨ (n = 4 ∧ p < 8) := by
    rcases lead_cases c.toNat with h | h | h | h
    · rw [hpn] at h; cases h; exact absurd rfl hn0
    · rw [hpn] at h; cases h; exact .inl ⟨rfl, by omega⟩
    · rw [hpn] at h; cases h; exact .inr (.inl ⟨rfl, by omega⟩)
    · rw [hpn] at h; cases h; exact .inr (.inr ⟨rfl, by omega⟩)
  have hacc : ∀ k, k ≤ 3 → accP l p k < 33554432 := by
    intro k hk
    have := accP_lt (l := l) (p := p) k
    have h64 : (p + 1) * 64 ^ k ≤ 32 * 64 ^ 3 := Nat.mul_le_mul (by omega) (Nat.pow_le_pow_right (by omega) hk)
    have : 32 * 64 ^ 3 = 8388608 := by decide
    omega
  refine W_cut (fun E S => Kept st S ∧ E 0 = x ∧ E 5 = .int .i32 (p : Int) ∧ E 6 = .int .i64 (n : Int)) ?_ ?_
  · simp (maxSteps := 1000000) (disch := omega) only [h0, h5, h6, len_by hx, e2, e3, qaaz, qabz, qacz, qaez, qajz, qakz, qalz, qamz, qanz, evOp, qaoz, qapz, qarz, qatz, qavz,
 ↓reduceIte, Nat.reduceEqDiff, Option.map_some, qazz, qbhz, qbpz, qbtz, beq_false, decide_false,
 Bool.false_eq_true, true_and, and_true, reduceCtorEq, Bool.not_false]
    exact hk
  clear hk h0 h5 h6
  rintro e S ⟨hk, h0, h5, h6⟩
  have hml : ((l.take n).drop 1).length = n - 1 := by simp; omega
  have hslc : slcPV 1 x (some (.int .i64 1)) (some (.int .i64 (n : Int))) none = some (x.midB 1 n) := by
    have := slc_lohi (k := .i64) (k' := .i64) (c := 1) (d := (n : Int)) hx (by omega) (by omega) (by simpa using (by omega : n ≤ l.length))
    simpa using this
  have hmb : (x.midB 1 n).by = some ((l.take n).drop 1) := midB_by hx
  have hlm := len_by hmb
  rw [hml] at hlm
  obtain ⟨I, hI⟩ : ∃ I : Nat → Env → St → Prop, I = fun m E S => ∃ k, m = n - 1 - k ∧ k ≤ n - 1 ∧ contB l k ∧ Kept st S ∧ E 0 = x ∧ E 5 = .int .i32 ((accP l p k : Nat) : Int) ∧ E 6 = .int .i64 (n : Int) ∧ E 52 = x.midB 1 n ∧ E 53 = .int .i64 ((n - 1 : Nat) : Int) ∧ E 54 = .int .i64 (k : Int) := ⟨_, rfl⟩
  -- one round of the loop
  have start : I (n - 1) (upd (upd (upd (upd (upd e 50 x) 51 (.int .i64 (n : Int))) 52 (x.midB 1 n)) 53 (.int .i64 ((n - 1 : Nat) : Int))) 54 (.int .i64 0)) S := by
    rw [hI]
    exact ⟨0, rfl, by omega, fun j h => by omega, hk, h0, h5, h6, rfl, rfl, rfl⟩
  have nxt : ∀ (k : Nat) (E : Env) (S : St), contB l (k + 1) → k + 1 ≤ n - 1 → Kept st S → E 0 = x → E 5 = .int .i32 ((accP l p (k + 1) : Nat) : Int) → E 6 = .int .i64 (n : Int) → E 52 = x.midB 1 n → E 53 = .int .i64 ((n - 1 : Nat) : Int) → E 54 = .int .i64 ((k + 1 : Nat) : Int) → I (n - 1 - (k + 1)) E S := by
    intro k E S q1 q2 q3 q4 q5 q6 q7 q8 q9
    rw [hI]; exact ⟨k + 1, rfl, q2, q1, q3, q4, q5, q6, q7, q8, q9⟩
  by_cases hcb : contB l (n - 1)
  · refine W_cut (fun E S => Kept st S ∧ E 0 = x ∧ E 5 = .int .i32 ((accP l p (n - 1) : Nat) : Int) ∧ E 6 = .int .i64 (n : Int)) ?_ ?_
    · simp (maxSteps := 1000000) (disch := omega) only [h0, h6, hslc, hlm, qaaz, qabz, qadz, qajz, qalz, evOp, qaoz, qapz, qarz, qatz, qavz,
 ↓reduceIte, Nat.reduceEqDiff, Option.map_some, Option.map_none, qazz]
      refine W_loop I ?_ start
      clear hk h0 h5 h6 start
      intro m E S hh
      rw [hI] at hh
      obtain ⟨k, rfl, hk1, hck, hk, h0, h5, h6, h52, h53, h54⟩ := hh
      by_cases hlt : k < n - 1
      · obtain ⟨d, hd⟩ : ∃ d, d = l.getD (k + 1) 0 := ⟨_, rfl⟩
        have hid : iaddrPV 1 (x.midB 1 n) (.int .i64 (k : Int)) = some (.cp [.b8 d]) := by
          rw [iaddr_by hmb (by omega) (by rw [hml]; simpa using hlt), Int.toNat_natCast, mid_getD (by omega), ← hd]
        have hdc := hcb k hlt
        rw [← hd] at hdc
        have q6 : UInt8.ofNat (d.toNat / 64) = 2 := (isC d).2 hdc
        have ha := hacc k (by omega)
        have hstep : accP l p (k + 1) = 64 * accP l p k + d.toNat % 64 := by rw [hd]; rfl
        simp (maxSteps := 1000000) (disch := omega) only [h5, h52, h53, h54, hlt, hid, qciz, shr6, eq_true q6, shl6 ha, and_8, cI32, and63, or_i32 (q := d.toNat % 64) ha (by omega), add_n, qaaz, qabz, qacz, qadz, qaez, qajz, qalz, evOp, qaoz, qapz, qarz, qatz, qavz,
 ↓reduceIte, Nat.reduceEqDiff, Option.map_some, qazz, qbdz, qbhz, qbpz, qbwz, qciz, decide_true, decide_false,
 Int.ofNat_lt, Bool.false_eq_true, Int.reduceToNat, ne_eq, not_true_eq_false]
        exact loopQ_intro (m := n - 1 - (k + 1)) (by omega) (nxt k _ _ (fun j hj => by
          by_cases hjk : j = k
          · subst hjk; rw [← hd]; exact hdc
          · exact hck j (by omega)) (by omega) hk h0 (by rw [hstep]; rfl) h6 h52 h53 rfl)
      · obtain rfl : k = n - 1 := by omega
        simp (maxSteps := 1000000) (disch := omega) only [h0, h5, h6, h53, h54, hlt, qaaz, qabz, qacz, qagz, qajz, qalz, evOp, qaoz, qarz, qatz, qavz,
 ↓reduceIte, Nat.reduceEqDiff, Option.map_some, qazz, qbbz, qbfz, qbhz, qbjz, qbpz, decide_false,
 Int.ofNat_lt, Bool.false_eq_true, true_and, and_true, reduceCtorEq]
        exact hk
    clear hk h0 h5 h6 start
    rintro e S ⟨hk, h0, h5, h6⟩
    obtain ⟨v, hv⟩ : ∃ v, v = accP l p (n - 1) := ⟨_, rfl⟩
    rw [← hv] at h5 hnx
    have hip := fun S : St => isPoint_spec (st := S) (p := v)
    by_cases hpt : pointN v
    · simp only [decide_eq_true hpt] at hip
      by_cases hlow : v < lowN n
      · have hno : nextOf l = none := by rw [hnx, if_pos (.inr (.inr (.inr (.inr hlow))))]
        rcases hn24 with ⟨rfl, -⟩ | ⟨rfl, -⟩ | ⟨rfl, -⟩
        · have h6' : e 6 = .int .i64 2 := h6
          have f1 : (v : Int) < 128 := by simp [lowN] at hlow; omega
          simp (maxSteps := 1000000) (disch := omega) only [h5, h6', hip, f1, qaaz, qabz, qacz, qahz, qajz, qakz, qalz, qamz, qanz, evOp, qaoz, qapz, qaqz, qarz, qatz, qavz,
 ↓reduceIte, Nat.reduceEqDiff, List.map_cons, List.map_nil, Option.map_some, qazz, qbcz, qbhz, qbpz, qbtz, qcfz, beq_true, beq_false, decide_true, Bool.false_eq_true, Bool.not_true, Bool.not_false]
          exact wrong _ _ hk hno hne
        · have h6' : e 6 = .int .i64 3 := h6
          have f1 : (v : Int) < 2048 := by simp [lowN] at hlow; omega
          simp (maxSteps := 1000000) (disch := omega) only [h5, h6', hip, f1, qaaz, qabz, qacz, qahz, qajz, qakz, qalz, qamz, qanz, evOp, qaoz, qapz, qaqz, qarz, qatz, qavz,
 ↓reduceIte, Nat.reduceEqDiff, List.map_cons, List.map_nil, Option.map_some, qazz, qbcz, qbhz, qbpz, qbtz, qcfz, beq_true, beq_false, decide_true, decide_false,
 Bool.false_eq_true, Bool.not_true, Bool.not_false, Int.reduceEq]
          exact wrong _ _ hk hno hne
        · have h6' : e 6 = .int .i64 4 := h6
          have f1 : (v : Int) < 65536 := by simp [lowN] at hlow; omega
          simp (maxSteps := 1000000) (disch := omega) only [h5, h6', hip, f1, qaaz, qabz, qacz, qahz, qajz, qakz, qalz, qamz, qanz, evOp, qaoz, qapz, qaqz, qarz, qatz, qavz,
 ↓reduceIte, Nat.reduceEqDiff, List.map_cons, List.map_nil, Option.map_some, qazz, qbcz, qbhz, qbpz, qbtz, qcfz, beq_true, beq_false, decide_true, decide_false,
 Bool.false_eq_true, Bool.not_true, Bool.not_false, Int.reduceEq]
          exact wrong _ _ hk hno hne
      · have hyes : nextOf l = some (v, n) := by
          rw [hnx, if_neg]
          simp only [not_or, Classical.not_not]
          exact ⟨hn0, hln, hcb, hpt, hlow⟩
        rcases hn24 with ⟨rfl, -⟩ | ⟨rfl, -⟩ | ⟨rfl, -⟩
        · have h6' : e 6 = .int .i64 2 := h6
          have f1 : ¬ (v : Int) < 128 := by simp [lowN] at hlow; omega
          simp (maxSteps := 1000000) (disch := omega) only [h5, h6', hip, f1, qaaz, qabz, qacz, qaez, qaiz, qajz, qakz, qalz, qamz, qanz, evOp, qaoz, qapz, qaqz, qarz, qatz, qavz,
 ↓reduceIte, Nat.reduceEqDiff, List.map_cons, List.map_nil, Option.map_some, qazz, qbaz, qbhz, qbpz, qbtz, qcfz, beq_true, beq_false, decide_true, decide_false,
 Bool.false_eq_true, Bool.not_true, Bool.not_false, Int.reduceEq]
          exact fin _ _ _ _ _ hk (nextV_some hyes) rfl rfl rfl
        · have h6' : e 6 = .int .i64 3 := h6
          have f1 : ¬ (v : Int) < 2048 := by simp [lowN] at hlow; omega
          simp (maxSteps := 1000000) (disch := omega) only [h5, h6', hip, f1, qaaz, qabz, qacz, qaez, qaiz, qajz, qakz, qalz, qamz, qanz, evOp, qaoz, qapz, qaqz, qarz, qatz, qavz,
 ↓reduceIte, Nat.reduceEqDiff, List.map_cons, List.map_nil, Option.map_some, qazz, qbaz, qbhz, qbpz, qbtz, qcfz, beq_true, beq_false, decide_true, decide_false,
 Bool.false_eq_true, Bool.not_true, Bool.not_false, Int.reduceEq]
          exact fin _ _ _ _ _ hk (nextV_some hyes) rfl rfl rfl
        · have h6' : e 6 = .int .i64 4 := h6
          have f1 : ¬ (v : Int) < 65536 := by simp [lowN] at hlow; omega
          simp (maxSteps := 1000000) (disch := omega) only [h5, h6', hip, f1, qaaz, qabz, qacz, qaez, qaiz, qajz, qakz, qalz, qamz, qanz, evOp, qaoz, qapz, qaqz, qarz, qatz, qavz,
 ↓reduceIte, Nat.reduceEqDiff, List.map_cons, List.map_nil, Option.map_some, qazz, qbaz, qbhz, qbpz, qbtz, qcfz, beq_true, beq_false, decide_true, decide_false,
 Bool.false_eq_true, Bool.not_true, Bool.not_false, Int.reduceEq]
          exact fin _ _ _ _ _ hk (nextV_some hyes) rfl rfl rfl
    · simp only [decide_eq_false hpt] at hip
      simp (maxSteps := 1000000) (disch := omega) only [h5, hip, qaaz, qabz, qacz, qahz, qajz, qakz, qalz, qamz, qanz, evOp, qaoz, qapz, qaqz, qarz, qatz, qavz,
 ↓reduceIte, Nat.reduceEqDiff, List.map_cons, List.map_nil, Option.map_some, qazz, qbcz, qbhz, qcfz, beq_false, Bool.false_eq_true, Bool.not_true, Bool.not_false]
      exact wrong _ _ hk (by rw [hnx, if_pos (.inr (.inr (.inr (.inl hpt))))]) hne
  · have hno : nextOf l = none := by rw [hnx, if_pos (.inr (.inr (.inl hcb)))]
    simp (maxSteps := 1000000) (disch := omega) only [h0, h6, hslc, hlm, qaaz, qabz, qadz, qajz, qalz, evOp, qaoz, qapz, qarz, qatz, qavz,
 ↓reduceIte, Nat.reduceEqDiff, Option.map_some, Option.map_none, qazz]
    refine W_loop I ?_ start
    clear hk h0 h5 h6 start
    intro m E S hh
    rw [hI] at hh
    obtain ⟨k, rfl, hk1, hck, hk, h0, h5, h6, h52, h53, h54⟩ := hh
    by_cases hlt : k < n - 1
    · obtain ⟨d, hd⟩ : ∃ d, d = l.getD (k + 1) 0 := ⟨_, rfl⟩
      have hid : iaddrPV 1 (x.midB 1 n) (.int .i64 (k : Int)) = some (.cp [.b8 d]) := by
        rw [iaddr_by hmb (by omega) (by rw [hml]; simpa using hlt), Int.toNat_natCast, mid_getD (by omega), ← hd]
      by_cases q6 : UInt8.ofNat (d.toNat / 64) = 2
      · have hdc := (isC d).1 q6
        have ha := hacc k (by omega)
        have hstep : accP l p (k + 1) = 64 * accP l p k + d.toNat % 64 := by rw [hd]; rfl
        simp (maxSteps := 1000000) (disch := omega) only [h5, h52, h53, h54, hlt, hid, qciz, shr6, eq_true q6, shl6 ha, and_8, cI32, and63, or_i32 (q := d.toNat % 64) ha (by omega), add_n, qaaz, qabz, qacz, qadz, qaez, qajz, qalz, evOp, qaoz, qapz, qarz, qatz, qavz,
 ↓reduceIte, Nat.reduceEqDiff, Option.map_some, qazz, qbdz, qbhz, qbpz, qbwz, qciz, decide_true, decide_false,
 Int.ofNat_lt, Bool.false_eq_true, Int.reduceToNat, ne_eq, not_true_eq_false]
        exact loopQ_intro (m := n - 1 - (k + 1)) (by omega) (nxt k _ _ (fun j hj => by
          by_cases hjk : j = k
          · subst hjk; rw [← hd]; exact hdc
          · exact hck j (by omega)) (by omega) hk h0 (by rw [hstep]; rfl) h6 h52 h53 rfl)
      · simp (maxSteps := 1000000) (disch := omega) only [h52, h53, h54, hlt, hid, qciz, shr6, q6, qaaz, qabz, qacz, qadz, qaez, qahz, qajz, qalz, evOp, qaoz, qapz, qarz, qatz, qavz,
 ↓reduceIte, Nat.reduceEqDiff, Option.map_some, qazz, qbcz, qbgz, qbhz, qbkz, qbpz, qbwz, qciz, decide_true, Int.ofNat_lt, ne_eq, not_false_eq_true]
        exact wrong _ _ hk hno hne
    · obtain rfl : k = n - 1 := by omega
      exact absurd hck hcb
end Go.Ab
/-
  A point's bytes, by the document; the point at a text's front is the one whose bytes stand there.
-/
namespace Go.Ab
variable {st s : St} {e : Env}

theorem rPoint_spec {p : Nat} : call prog (.fn 85 []) [.int .i32 (p : Int)] st = some (.bool (decide (pointN p)), st) := by
  refine call_of_W prog_85 ?_
  unfold F_posthornref02_Point; dsimp only
  have e0 : (0 : Int) ≤ (p : Int) := by omega
  by_cases h2 : p < 55296
  · have e2 : (p : Int) < 55296 := by omega
    simp (maxSteps := 1000000) (disch := omega) only [e0, e2, qaaz, qabz, qaiz, qajz, qakz, qalz, qamz, qanz, evOp, qaoz, qapz, qarz, qatz, qavz,
 ↓reduceIte, Nat.reduceEqDiff, List.append_nil, qawz, Option.map_some, qazz, qblz, qbpz, qbsz, beq_true, beq_false, decide_true, Bool.false_eq_true, reduceCtorEq, Bool.not_true]
    rw [show decide (pointN p) = true by simp [pointN, h2]]
    exact end1 rfl Kp_bool
  have e2 : ¬ (p : Int) < 55296 := by omega
  by_cases h3 : 57343 < p
  · have e3 : (57343 : Int) < (p : Int) := by omega
    by_cases h1 : p ≤ 1114111
    · have e1 : (p : Int) ≤ 1114111 := by omega
      simp (maxSteps := 1000000) (disch := omega) only [e0, e1, e2, e3, qaaz, qabz, qaiz, qajz, qakz, qalz, qamz, qanz, evOp, qaoz, qapz, qarz, qatz, qavz,
 ↓reduceIte, Nat.reduceEqDiff, List.append_nil, qawz, Option.map_some, qazz, qblz, qbpz, qbqz, qbrz, qbsz, beq_true, beq_false, decide_true, decide_false,
 Bool.false_eq_true, reduceCtorEq, Bool.not_false]
      rw [show decide (pointN p) = true by simp [pointN, h3, h1]]
      exact end1 rfl Kp_bool
    · have e1 : ¬ (p : Int) ≤ 1114111 := by omega
      simp (maxSteps := 1000000) (disch := omega) only [e0, e1, e2, e3, qaaz, qabz, qaiz, qajz, qakz, qalz, qamz, qanz, evOp, qaoz, qapz, qarz, qatz, qavz,
 ↓reduceIte, Nat.reduceEqDiff, List.append_nil, qawz, Option.map_some, qazz, qblz, qbpz, qbqz, qbrz, qbsz, beq_true, beq_false, decide_true, decide_false,
 Bool.false_eq_true, reduceCtorEq, Bool.not_false]
      rw [show decide (pointN p) = false from decide_eq_false (by unfold pointN; omega)]
      exact end1 rfl Kp_bool
  · have e3 : ¬ (57343 : Int) < (p : Int) := by omega
    simp (maxSteps := 1000000) (disch := omega) only [e0, e2, e3, qaaz, qabz, qaiz, qajz, qakz, qalz, qamz, qanz, evOp, qaoz, qapz, qarz, qatz, qavz,
 ↓reduceIte, Nat.reduceEqDiff, List.append_nil, qawz, Option.map_some, qazz, qblz, qbpz, qbrz, qbsz, beq_true, beq_false, decide_true, decide_false,
 Bool.false_eq_true, reduceCtorEq, Bool.not_false]
    rw [show decide (pointN p) = false from decide_eq_false (by unfold pointN; omega)]
    exact end1 rfl Kp_bool

def putOf (p : Nat) : List UInt8 :=
  if p < 128 then [UInt8.ofNat p] else if p < 2048 then [UInt8.ofNat (192 + p / 64), UInt8.ofNat (128 + p % 64)]
  else if p < 65536 then [UInt8.ofNat (224 + p / 4096), UInt8.ofNat (128 + p / 64 % 64), UInt8.ofNat (128 + p % 64)]
  else [UInt8.ofNat (240 + p / 262144), UInt8.ofNat (128 + p / 4096 % 64), UInt8.ofNat (128 + p / 64 % 64), UInt8.ofNat (128 + p % 64)]

theorem quo32 {ek : EK} {p : Nat} {c : Int} (h1 : 0 < c) (h : p < 2147483648) : binPV .quo ek (.int .i32 (p : Int)) (.int .i32 c) = some (.int .i32 ((p / c.toNat : Nat) : Int)) := by
  obtain ⟨d, rfl⟩ : ∃ d : Nat, c = (d : Int) := ⟨c.toNat, by omega⟩
  simp only [binPV, binI, if_true]
  rw [if_neg (by omega), Int.toNat_natCast]
  have : (p : Int).tdiv (d : Int) = ((p / d : Nat) : Int) := (Int.ofNat_tdiv p d).symm
  have h3 := Nat.div_le_self p d
  have h4 : (0 : Int) ≤ ((p / d : Nat) : Int) := Int.natCast_nonneg _
  rw [this, wrap32 (by omega) (by omega)]
theorem rem32 {ek : EK} {p : Nat} {c : Int} (h1 : 0 < c) : binPV .rem ek (.int .i32 (p : Int)) (.int .i32 c) = some (.int .i32 ((p % c.toNat : Nat) : Int)) := by
  obtain ⟨d, rfl⟩ : ∃ d : Nat, c = (d : Int) := ⟨c.toNat, by omega⟩
  simp only [binPV, binI, if_true]
  rw [if_neg (by omega), Int.toNat_natCast]
  have : (p : Int).tmod (d : Int) = ((p % d : Nat) : Int) := (Int.ofNat_tmod p d).symm
  rw [this]
theorem addc32 {ek : EK} {a : Nat} {c : Int} (h1 : 0 ≤ c) (h2 : c.toNat + a < 2147483648) : binPV .add ek (.int .i32 c) (.int .i32 (a : Int)) = some (.int .i32 ((c.toNat + a : Nat) : Int)) := by
  simp only [binPV, binI, reduceIte, Option.some.injEq]
  rw [wrap32 (by omega) (by omega)]
  congr 1; omega
theorem cI8 {n : Nat} (h : n < 256) : cIntPV .u8 (.int .i32 (n : Int)) = some (.b8 (UInt8.ofNat n)) := by
  simp only [cIntPV]
  have : IntKind.u8.wrap (n : Int) = (n : Int) := by
    unfold IntKind.wrap
    simp only [IntKind.signed, IntKind.bits]
    simp
    omega
  rw [this, Int.toNat_natCast]
theorem leave_mine2 {v : PV} {l : List UInt8} {n : Int} (hk : Kept st s) (hm : Mine st s v l) (hne : l ≠ []) : leave st s (.tup [v, .int .i64 n]) = (.tup [.bys (.own st.toks.length) l, .int .i64 n], st.tok1) := by
  have e1 := hk.bx; have e2 := hk.lp; have e3 := hk.tk
  rcases hm.1 with ⟨rfl, rfl⟩ | ⟨i, rfl, hi⟩
  · exact absurd rfl hne
  · have h2 := hm.2 i rfl
    simp [leave, PV.inB, PV.inB.inBAll, hk.lw, keepRes, keepVals, keepVal, keepLeaf, keepTok, hi, show ¬ i < st.toks.length by omega, e1, e2, e3, St.tok1]
theorem lit8_3 {a b c : UInt8} : lit8Fill (List.replicate 3 0) [(0, .b8 a), (1, .b8 b), (2, .b8 c)] = some [a, b, c] := rfl
theorem lit8_4 {a b c d : UInt8} : lit8Fill (List.replicate 4 0) [(0, .b8 a), (1, .b8 b), (2, .b8 c), (3, .b8 d)] = some [a, b, c, d] := rfl

def putV (st : St) (p : Nat) : PV × St := if pointN p then (.tup [.bys (.own st.toks.length) (putOf p), .int .i64 0], st.tok1) else (.tup [.nils, .int .i64 20], st)

theorem Put_spec {p : Nat} (hp : p < 2147483648) : call prog (.fn 81 []) [.int .i32 (p : Int)] st = some (putV st p) := by
  refine call_of_W prog_81 ?_
  unfold F_posthornref02_Put; dsimp only
  have hk : Kept st { boxes := st.boxes, toks := st.toks, loops := st.loops, low := st.boxes.length } := Kept.start
  have hip := fun S : St => rPoint_spec (st := S) (p := p)
  by_cases hpt : pointN p
  · simp only [decide_eq_true hpt] at hip
    have hpt2 : p ≤ 1114111 := by unfold pointN at hpt; omega
    have hv : putV st p = (.tup [.bys (.own st.toks.length) (putOf p), .int .i64 0], st.tok1) := by simp [putV, hpt]
    have fin : ∀ (v : PV) (S : St), Kept st S → Mine st S v (putOf p) → ∀ E : Env, E 2 = v → E 3 = .int .i64 0 → ∃ rv, resOf E S [.tmp 2, .tmp 3] = some rv ∧ leave st S rv = putV st p := by
      intro v S k1 m1 E k2 k3
      refine ⟨.tup [v, .int .i64 0], ?_, ?_⟩
      · have hnt : notTup v = true := by rcases m1.1 with ⟨rfl, _⟩ | ⟨i, rfl, _⟩ <;> rfl
        simp [resOf, rvAll, rv1, k2, k3, hnt, packRes]
        rfl
      · rw [hv]
        refine leave_mine2 k1 m1 ?_
        unfold putOf
        split
        · simp
        · split
          · simp
          · split <;> simp
    have app : ∀ m : List UInt8, m.length ≤ 4 → ∃ v S, app8 (St.tok1 { boxes := st.boxes, toks := st.toks, loops := st.loops, low := st.boxes.length }) .nils (.bys (.own st.toks.length) m) = some (v, S) ∧ Kept st S ∧ Mine st S v m := by
      intro m hm
      obtain ⟨v, S, a1, k1, m1⟩ := hk.tok1.app8 (v := .nils) (l := []) (y := .bys (.own st.toks.length) m) (m := m) Mine.nil rfl (by simp [room]; omega)
      exact ⟨v, S, a1, k1, by simpa using m1⟩
    by_cases h1 : p < 128
    · have e1 : (p : Int) < 128 := by omega
      obtain ⟨v, S, a1, k1, m1⟩ := app [UInt8.ofNat p] (by simp)
      simp (maxSteps := 1000000) (disch := omega) only [hip, e1, cI8, lit8_1, freshT_eq, a1, qaaz, qabz, qacz, qaez, qaiz, qajz, qalz, evOp, qaoz, qapz, qaqz, qarz, qatz, qavz,
 ↓reduceIte, Nat.reduceEqDiff, List.append_nil, List.map_cons, List.map_nil, qawz, Option.map_some, qazz, qbaz, qbhz, qblz, qbpz, qcfz, decide_true, Bool.false_eq_true, reduceCtorEq, Bool.not_true]
      exact fin v S k1 (by simpa [putOf, h1] using m1) _ rfl rfl
    have e1 : ¬ (p : Int) < 128 := by omega
    by_cases h2 : p < 2048
    · have e2 : (p : Int) < 2048 := by omega
      obtain ⟨v, S, a1, k1, m1⟩ := app [UInt8.ofNat (192 + p / 64), UInt8.ofNat (128 + p % 64)] (by simp)
      simp (maxSteps := 1000000) (disch := omega) only [hip, e1, e2, quo32, rem32, addc32, cI8, lit8_2, freshT_eq, a1, qaaz, qabz, qacz, qaez, qaiz, qajz, qalz, evOp, qaoz, qapz, qaqz, qarz, qatz, qavz,
 ↓reduceIte, Nat.reduceEqDiff, List.append_nil, List.map_cons, List.map_nil, qawz, Option.map_some, qazz, qbaz, qbhz, qblz, qbpz, qcfz, decide_true, decide_false,
 Bool.false_eq_true, Int.reduceToNat, reduceCtorEq, Bool.not_true]
      exact fin v S k1 (by simpa [putOf, h1, h2] using m1) _ rfl rfl
    have e2 : ¬ (p : Int) < 2048 := by omega
    by_cases h3 : p < 65536
    · have e3 : (p : Int) < 65536 := by omega
      obtain ⟨v, S, a1, k1, m1⟩ := app [UInt8.ofNat (224 + p / 4096), UInt8.ofNat (128 + p / 64 % 64), UInt8.ofNat (128 + p % 64)] (by simp)
      simp (maxSteps := 1000000) (disch := omega) only [hip, e1, e2, e3, quo32, rem32, addc32, cI8, lit8_3, freshT_eq, a1, qaaz, qabz, qacz, qaez, qaiz, qajz, qalz, evOp, qaoz, qapz, qaqz, qarz, qatz, qavz,
 ↓reduceIte, Nat.reduceEqDiff, List.append_nil, List.map_cons, List.map_nil, qawz, Option.map_some, qazz, qbaz, qbhz, qblz, qbpz, qcfz, decide_true, decide_false,
 Bool.false_eq_true, Int.reduceToNat, reduceCtorEq, Bool.not_true]
      exact fin v S k1 (by simpa [putOf, h1, h2, h3] using m1) _ rfl rfl
    · have e3 : ¬ (p : Int) < 65536 := by omega
      obtain ⟨v, S, a1, k1, m1⟩ := app [UInt8.ofNat (240 + p / 262144), UInt8.ofNat (128 + p / 4096 % 64), UInt8.ofNat (128 + p / 64 % 64), UInt8.ofNat (128 + p % 64)] (by simp)
      simp (maxSteps := 1000000) (disch := omega) only [hip, e1, e2, e3, quo32, rem32, addc32, cI8, lit8_4, freshT_eq, a1, qaaz, qabz, qacz, qaez, qaiz, qajz, qalz, evOp, qaoz, qapz, qaqz, qarz, qatz, qavz,
 ↓reduceIte, Nat.reduceEqDiff, List.append_nil, List.map_cons, List.map_nil, qawz, Option.map_some, qazz, qbhz, qblz, qbpz, qcfz, decide_false,
 Bool.false_eq_true, Int.reduceToNat, reduceCtorEq, Bool.not_true]
      exact fin v S k1 (by simpa [putOf, h1, h2, h3] using m1) _ rfl rfl
  · simp only [decide_eq_false hpt] at hip
    have hv : putV st p = (.tup [.nils, .int .i64 20], st) := by simp [putV, hpt]
    have fin : ∀ E : Env, E 2 = .nils → E 3 = .int .i64 20 → ∃ rv, resOf E { boxes := st.boxes, toks := st.toks, loops := st.loops, low := st.boxes.length } [.tmp 2, .tmp 3] = some rv ∧ leave st { boxes := st.boxes, toks := st.toks, loops := st.loops, low := st.boxes.length } rv = putV st p := by
      intro E k2 k3
      exact ⟨.tup [.nils, .int .i64 20], by simp [resOf, rvAll, rv1, k2, k3, notTup, packRes], by rw [hv]; exact hk.leave rfl (fun _ _ => rfl)⟩
    simp (maxSteps := 1000000) (disch := omega) only [hip, qaaz, qabz, qacz, qaiz, qajz, qalz, evOp, qaoz, qapz, qaqz, qarz, qatz, qavz,
 ↓reduceIte, List.append_nil, List.map_cons, List.map_nil, qawz, Option.map_some, qazz, qbaz, qbhz, qblz, qcfz, reduceCtorEq, Bool.not_false]
    exact fin _ rfl rfl
end Go.Ab
/-
  The point at the front is the one whose bytes stand there.
-/
namespace Go.Ab
variable {st s : St} {e : Env}

def mdN (n : Nat) : Nat := if n = 2 then 32 else if n = 3 then 16 else 8
def qN (l : List UInt8) (n : Nat) : Nat := accP l ((l.getD 0 0).toNat % mdN n) (n - 1)
def succN (l : List UInt8) (n : Nat) : Prop := pointN (qN l n) ∧ putOf (qN l n) = l.take n

theorem u8_of {a : UInt8} {k : Nat} (h : k = a.toNat) : UInt8.ofNat k = a := by rw [h]; simp
theorem of_u8 {a : UInt8} {k : Nat} (h : UInt8.ofNat k = a) (hk : k < 256) : k = a.toNat := by
  rw [← h]; simp; omega

theorem lead2 {c : Nat} (h : 192 ≤ c ∧ c < 224) : lead c = (c % 32, 2) := by unfold lead; rw [if_pos h]
theorem lead3 {c : Nat} (h : 224 ≤ c ∧ c < 240) : lead c = (c % 16, 3) := by unfold lead; rw [if_neg (by omega), if_pos h]
theorem lead4 {c : Nat} (h : 240 ≤ c ∧ c < 248) : lead c = (c % 8, 4) := by unfold lead; rw [if_neg (by omega), if_neg (by omega), if_pos h]

theorem next_of {l : List UInt8} {p n : Nat} (hne : l ≠ []) (hc : ¬ (l.getD 0 0).toNat < 128) (hl : lead (l.getD 0 0).toNat = (p, n)) (hn : n ≠ 0) (hlen : n ≤ l.length) (hcb : contB l (n - 1)) (hp : pointN (accP l p (n - 1))) (hlow : lowN n ≤ accP l p (n - 1)) :
    nextOf l = some (accP l p (n - 1), n) := by
  unfold nextOf
  rw [if_neg hne, if_neg hc, hl, if_neg]
  simp only [not_or, Classical.not_not]
  exact ⟨hn, by omega, hcb, hp, by omega⟩

theorem succ_next {l : List UInt8} {n : Nat} (hn : n = 2 ∨ n = 3 ∨ n = 4) (hlen : n ≤ l.length) (hc : ¬ (l.getD 0 0).toNat < 128) (h : succN l n) : nextOf l = some (qN l n, n) := by
  have hne : l ≠ [] := by rintro rfl; simp at hlen; omega
  obtain ⟨h1, h2⟩ := h
  rcases hn with rfl | rfl | rfl
  · match l, hlen with
    | a :: b :: r, _ =>
      simp only [qN, mdN, accP, if_true, List.getD_cons_zero, List.getD_cons_succ, Nat.reduceSub, List.take_succ_cons, List.take_zero] at h1 h2 hc ⊢
      have ha := a.toNat_lt; have hb := b.toNat_lt
      obtain ⟨q, hq⟩ : ∃ q, q = 64 * (a.toNat % 32) + b.toNat % 64 := ⟨_, rfl⟩
      rw [← hq] at h1 h2 ⊢
      unfold putOf at h2
      split at h2
      · simp at h2
      · split at h2
        · simp only [List.cons.injEq, and_true] at h2
          have e1 := of_u8 h2.1 (by omega)
          have e2 := of_u8 h2.2 (by omega)
          have := next_of (l := a :: b :: r) (p := a.toNat % 32) (n := 2) hne (by simpa using hc) (lead2 (by simp only [List.getD_cons_zero]; omega)) (by omega) (by simp) (by
            intro j hj
            match j, hj with
            | 0, _ => simp only [List.getD_cons_succ, List.getD_cons_zero]; omega) (by simpa [accP, ← hq] using h1) (by simp [accP, lowN, ← hq]; omega)
          simpa [accP, ← hq] using this
        · split at h2 <;> simp at h2
  · match l, hlen with
    | a :: b :: c :: r, _ =>
      simp only [qN, mdN, accP, if_true, List.getD_cons_zero, List.getD_cons_succ, Nat.reduceSub, Nat.reduceEqDiff, if_false, List.take_succ_cons, List.take_zero] at h1 h2 hc ⊢
      have ha := a.toNat_lt; have hb := b.toNat_lt; have hcc := c.toNat_lt
      obtain ⟨q, hq⟩ : ∃ q, q = 64 * (64 * (a.toNat % 16) + b.toNat % 64) + c.toNat % 64 := ⟨_, rfl⟩
      rw [← hq] at h1 h2 ⊢
      unfold putOf at h2
      split at h2
      · simp at h2
      · split at h2
        · simp at h2
        · split at h2
          · simp only [List.cons.injEq, and_true] at h2
            have e1 := of_u8 h2.1 (by omega)
            have e2 := of_u8 h2.2.1 (by omega)
            have e3 := of_u8 h2.2.2 (by omega)
            have := next_of (l := a :: b :: c :: r) (p := a.toNat % 16) (n := 3) hne (by simpa using hc) (lead3 (by simp only [List.getD_cons_zero]; omega)) (by omega) (by simp) (by
              intro j hj
              match j, hj with
              | 0, _ => simp only [List.getD_cons_succ, List.getD_cons_zero]; omega
              | 1, _ => simp only [List.getD_cons_succ, List.getD_cons_zero]; omega) (by simpa [accP, ← hq] using h1) (by simp [accP, lowN, ← hq]; omega)
            simpa [accP, ← hq] using this
          · simp at h2
  · match l, hlen with
    | a :: b :: c :: d :: r, _ =>
      simp only [qN, mdN, accP, List.getD_cons_zero, List.getD_cons_succ, Nat.reduceSub, Nat.reduceEqDiff, if_false, List.take_succ_cons, List.take_zero] at h1 h2 hc ⊢
      have ha := a.toNat_lt; have hb := b.toNat_lt; have hcc := c.toNat_lt; have hdd := d.toNat_lt
      obtain ⟨q, hq⟩ : ∃ q, q = 64 * (64 * (64 * (a.toNat % 8) + b.toNat % 64) + c.toNat % 64) + d.toNat % 64 := ⟨_, rfl⟩
      rw [← hq] at h1 h2 ⊢
      have hq2 : q ≤ 1114111 := by unfold pointN at h1; omega
      unfold putOf at h2
      split at h2
      · simp at h2
      · split at h2
        · simp at h2
        · split at h2
          · simp at h2
          · simp only [List.cons.injEq, and_true] at h2
            have e1 := of_u8 h2.1 (by omega)
            have e2 := of_u8 h2.2.1 (by omega)
            have e3 := of_u8 h2.2.2.1 (by omega)
            have e4 := of_u8 h2.2.2.2 (by omega)
            have := next_of (l := a :: b :: c :: d :: r) (p := a.toNat % 8) (n := 4) hne (by simpa using hc) (lead4 (by simp only [List.getD_cons_zero]; omega)) (by omega) (by simp) (by
              intro j hj
              match j, hj with
              | 0, _ => simp only [List.getD_cons_succ, List.getD_cons_zero]; omega
              | 1, _ => simp only [List.getD_cons_succ, List.getD_cons_zero]; omega
              | 2, _ => simp only [List.getD_cons_succ, List.getD_cons_zero]; omega) (by simpa [accP, ← hq] using h1) (by simp [accP, lowN, ← hq]; omega)
            simpa [accP, ← hq] using this

theorem next_succ {l : List UInt8} {v n : Nat} (hc : ¬ (l.getD 0 0).toNat < 128) (h : nextOf l = some (v, n)) : (n = 2 ∨ n = 3 ∨ n = 4) ∧ n ≤ l.length ∧ succN l n := by
  unfold nextOf at h
  split at h
  · cases h
  rename_i hne
  simp only at h
  split at h
  · cases h
  rename_i hcond
  simp only [not_or, Classical.not_not] at hcond
  obtain ⟨c1, c2, c3, c4, c5⟩ := hcond
  simp only [Option.some.injEq, Prod.mk.injEq] at h
  obtain ⟨hv, hn⟩ := h
  rw [hn] at c1 c2 c3 c4 c5 hv
  have hl : lead (l.getD 0 0).toNat = ((lead (l.getD 0 0).toNat).1, n) := by rw [← hn]
  unfold lead at hl
  split at hl
  · rename_i hr
    simp only [Prod.mk.injEq] at hl
    obtain ⟨-, rfl⟩ := hl
    rw [lead2 hr] at c4 c5
    match l, c2 with
    | a :: b :: r, _ =>
      refine ⟨.inl rfl, by simp, ?_⟩
      have hb := c3 0 (by omega)
      simp only [succN, qN, mdN, accP, lowN, if_true, List.getD_cons_zero, List.getD_cons_succ, Nat.reduceSub, List.take_succ_cons, List.take_zero] at hr hb c4 c5 ⊢
      obtain ⟨q, hq⟩ : ∃ q, q = 64 * (a.toNat % 32) + b.toNat % 64 := ⟨_, rfl⟩
      rw [← hq] at c4 c5 ⊢
      refine ⟨c4, ?_⟩
      unfold putOf
      rw [if_neg (by omega), if_pos (by omega), u8_of (a := a) (by omega), u8_of (a := b) (by omega)]
    | [], h => simp at h
    | [a], h => simp at h
  · split at hl
    · rename_i hr
      simp only [Prod.mk.injEq] at hl
      obtain ⟨-, rfl⟩ := hl
      rw [lead3 hr] at c4 c5
      match l, c2 with
      | a :: b :: c :: r, _ =>
        refine ⟨.inr (.inl rfl), by simp, ?_⟩
        have hb := c3 0 (by omega)
        have hb2 := c3 1 (by omega)
        simp only [succN, qN, mdN, accP, lowN, if_true, List.getD_cons_zero, List.getD_cons_succ, Nat.reduceSub, Nat.reduceEqDiff, if_false, List.take_succ_cons, List.take_zero] at hr hb hb2 c4 c5 ⊢
        obtain ⟨q, hq⟩ : ∃ q, q = 64 * (64 * (a.toNat % 16) + b.toNat % 64) + c.toNat % 64 := ⟨_, rfl⟩
        rw [← hq] at c4 c5 ⊢
        refine ⟨c4, ?_⟩
        unfold putOf
        rw [if_neg (by omega), if_neg (by omega), if_pos (by omega), u8_of (a := a) (by omega), u8_of (a := b) (by omega), u8_of (a := c) (by omega)]
      | [], h => simp at h
      | [a], h => simp at h
      | [a, b], h => simp at h
    · split at hl
      · rename_i hr
        simp only [Prod.mk.injEq] at hl
        obtain ⟨-, rfl⟩ := hl
        rw [lead4 hr] at c4 c5
        match l, c2 with
        | a :: b :: c :: d :: r, _ =>
          refine ⟨.inr (.inr rfl), by simp, ?_⟩
          have hb := c3 0 (by omega)
          have hb2 := c3 1 (by omega)
          have hb3 := c3 2 (by omega)
          simp only [succN, qN, mdN, accP, lowN, List.getD_cons_zero, List.getD_cons_succ, Nat.reduceSub, Nat.reduceEqDiff, if_false, List.take_succ_cons, List.take_zero] at hr hb hb2 hb3 c4 c5 ⊢
          obtain ⟨q, hq⟩ : ∃ q, q = 64 * (64 * (64 * (a.toNat % 8) + b.toNat % 64) + c.toNat % 64) + d.toNat % 64 := ⟨_, rfl⟩
          rw [← hq] at c4 c5 ⊢
          refine ⟨c4, ?_⟩
          unfold putOf
          rw [if_neg (by omega), if_neg (by omega), if_neg (by omega), u8_of (a := a) (by omega), u8_of (a := b) (by omega), u8_of (a := c) (by omega), u8_of (a := d) (by omega)]
        | [], h => simp at h
        | [a], h => simp at h
        | [a, b], h => simp at h
        | [a, b, c], h => simp at h
      · simp only [Prod.mk.injEq] at hl
        exact absurd hl.2.symm c1
end Go.Ab
/-
  The point at a text's front: the document's function.
-/
namespace Go.Ab
variable {st s : St} {e : Env}

theorem mul32 {ek : EK} {a : Nat} (h : 64 * a < 2147483648) : binPV .mul ek (.int .i32 64) (.int .i32 (a : Int)) = some (.int .i32 ((64 * a : Nat) : Int)) := by
  simp only [binPV, binI, reduceIte, Option.some.injEq]
  rw [wrap32 (by omega) (by omega)]
  congr 1

set_option maxHeartbeats 1000000 in
theorem rNext_spec {x : PV} {l : List UInt8} (hx : x.by = some l) (hl : l.length ≤ 100000000) : call prog (.fn 75 []) [x] st = some (nextV l, st) := by
  refine call_of_W prog_75 ?_
  unfold F_posthornref02_Next; dsimp only
  by_cases hne : l = []
  · have e1 : decide ((l.length : Int) = 0) = true := by simp [hne]
    simp (maxSteps := 1000000) (disch := omega) only [len_by hx, e1, qaaz, qabz, qacz, qaiz, qajz, qalz, evOp, qaoz, qapz, qarz, qatz, qavz,
 ↓reduceIte, List.append_nil, qawz, Option.map_some, qazz, qbaz, qbhz, qblz, qbtz, reduceCtorEq]
    exact ⟨.tup [.int .i32 0, .int .i64 0, .int .i64 42], rfl, by
      rw [show nextV l = .tup [.int .i32 0, .int .i64 0, .int .i64 42] by simp [nextV, nextOf, hne]]
      exact Kept.start.leave rfl (fun _ _ => rfl)⟩
  have hlen : 0 < l.length := List.length_pos_iff.2 hne
  have e1 : ¬ ((l.length : Int) = 0) := by omega
  obtain ⟨c, hc⟩ : ∃ c, c = l.getD 0 0 := ⟨_, rfl⟩
  have hi0 : iaddrPV 1 x (.int .i64 0) = some (.cp [.b8 c]) := by rw [hc]; exact iaddr_by hx (by omega) (by simpa using hlen)
  by_cases h128 : c < 128
  · have h128' : c.toNat < 128 := by rw [UInt8.lt_iff_toNat_lt] at h128; simpa using h128
    simp (maxSteps := 1000000) (disch := omega) only [len_by hx, e1, hi0, qciz, h128, cI32, qaaz, qabz, qacz, qaez, qaiz, qajz, qalz, evOp, qaoz, qapz, qarz, qatz, qavz,
 ↓reduceIte, List.append_nil, qawz, Option.map_some, qazz, qbaz, qbhz, qblz, qbtz, qbxz, qciz, decide_true, decide_false,
 Bool.false_eq_true, reduceCtorEq]
    exact ⟨.tup [.int .i32 (c.toNat : Int), .int .i64 1, .int .i64 0], rfl, by
      rw [nextV_some (p := c.toNat) (n := 1) (by unfold nextOf; rw [if_neg hne, ← hc, if_pos h128'])]
      exact Kept.start.leave rfl (fun _ _ => rfl)⟩
  have h128' : ¬ (l.getD 0 0).toNat < 128 := by rw [← hc]; rw [UInt8.lt_iff_toNat_lt] at h128; simpa using h128
  simp (maxSteps := 1000000) (disch := omega) only [len_by hx, e1, hi0, qciz, h128, qaaz, qabz, qacz, qadz, qaez, qajz, qalz, evOp, qaoz, qapz, qarz, qatz, qavz,
 ↓reduceIte, List.append_nil, qawz, Option.map_some, qazz, qbhz, qbtz, qbxz, qciz, decide_false,
 Bool.false_eq_true, reduceCtorEq]
  obtain ⟨I, hI⟩ : ∃ I : Nat → Env → St → Prop, I = fun m E S => ∃ n, m = 5 - n ∧ 2 ≤ n ∧ n ≤ 5 ∧ Kept st S ∧ (∀ k, 2 ≤ k → k < n → k ≤ l.length → ¬ succN l k) ∧ E 0 = x ∧ E 5 = .int .i64 (n : Int) := ⟨_, rfl⟩
  refine W_loop I ?_ (n := 3) (by
    rw [hI]
    exact ⟨2, rfl, by omega, by omega, Kept.start, fun k h1 h2 => by omega, rfl, rfl⟩)
  intro m e S hh
  rw [hI] at hh
  obtain ⟨n, rfl, hn2, hn5, hk, hall, h0, h5⟩ := hh
  by_cases hr : n ≤ 4 ∧ n ≤ l.length
  · obtain ⟨hn4, hnl⟩ := hr
    have r1 : (n : Int) ≤ 4 := by omega
    have hn : n = 2 ∨ n = 3 ∨ n = 4 := by omega
    refine W_cut (fun E S => Kept st S ∧ E 0 = x ∧ E 5 = .int .i64 (n : Int)) ?_ ?_
    · simp (maxSteps := 1000000) (disch := omega) only [h0, h5, r1, len_by hx, hnl, qaaz, qabz, qacz, qaez, qajz, qakz, qalz, qamz, qanz, evOp, qaoz, qapz, qarz, qatz, qavz,
 ↓reduceIte, Nat.reduceEqDiff, Option.map_some, qazz, qbhz, qbqz, beq_true, decide_true, Int.ofNat_le, true_and, and_true, reduceCtorEq]
      exact hk
    clear hk h0 h5
    rintro e S ⟨hk, h0, h5⟩
    rw [qaaz, qadz]
    refine W_cut (fun E S => Kept st S ∧ E 0 = x ∧ E 5 = .int .i64 (n : Int) ∧ E 6 = .int .i32 ((c.toNat % 32 : Nat) : Int)) ?_ ?_
    · simp (maxSteps := 1000000) (disch := omega) only [h0, h5, hi0, qciz, cI32, rem32, qabz, qajz, qalz, evOp, qaoz, qapz, qarz, qatz, qavz,
 ↓reduceIte, Nat.reduceEqDiff, Option.map_some, qciz, Int.reduceToNat, true_and, and_true, reduceCtorEq]
      exact hk
    clear hk h0 h5
    rintro e S ⟨hk, h0, h5, h6⟩
    refine W_cut (fun E S => Kept st S ∧ E 0 = x ∧ E 5 = .int .i64 (n : Int) ∧ E 6 = .int .i32 ((if n = 3 then c.toNat % 16 else c.toNat % 32 : Nat) : Int)) ?_ ?_
    · by_cases q : n = 3
      · have d3 : decide ((n : Int) = 3) = true := by simp [q]
        simp (maxSteps := 1000000) (disch := omega) only [h0, h5, d3, hi0, qciz, cI32, rem32, qaaz, qabz, qacz, qajz, qalz, evOp, qaoz, qapz, qarz, qatz, qavz,
 ↓reduceIte, Nat.reduceEqDiff, Option.map_some, qazz, qbhz, qbtz, qciz, Int.reduceToNat, true_and, reduceCtorEq]
        exact ⟨hk, by simp [q]⟩
      · have d3 : ¬ (n : Int) = 3 := by omega
        simp (maxSteps := 1000000) (disch := omega) only [h0, h5, h6, d3, qaaz, qabz, qacz, qaez, qajz, qalz, evOp, qaoz, qapz, qarz, qatz, qavz,
 ↓reduceIte, Nat.reduceEqDiff, Option.map_some, qazz, qbhz, qbtz, decide_false,
 Bool.false_eq_true, true_and, reduceCtorEq]
        exact ⟨hk, by simp [q]⟩
    clear hk h0 h5 h6
    rintro e S ⟨hk, h0, h5, h6⟩
    refine W_cut (fun E S => Kept st S ∧ E 0 = x ∧ E 5 = .int .i64 (n : Int) ∧ E 6 = .int .i32 ((c.toNat % mdN n : Nat) : Int)) ?_ ?_
    · by_cases q : n = 4
      · have d4 : decide ((n : Int) = 4) = true := by simp [q]
        simp (maxSteps := 1000000) (disch := omega) only [h0, h5, d4, hi0, qciz, cI32, rem32, qaaz, qabz, qacz, qajz, qalz, evOp, qaoz, qapz, qarz, qatz, qavz,
 ↓reduceIte, Nat.reduceEqDiff, Option.map_some, qazz, qbhz, qbtz, qciz, Int.reduceToNat, true_and, reduceCtorEq]
        exact ⟨hk, by simp [q, mdN]⟩
      · have d4 : ¬ (n : Int) = 4 := by omega
        simp (maxSteps := 1000000) (disch := omega) only [h0, h5, h6, d4, qaaz, qabz, qacz, qaez, qajz, qalz, evOp, qaoz, qapz, qarz, qatz, qavz,
 ↓reduceIte, Nat.reduceEqDiff, Option.map_some, qazz, qbhz, qbtz, decide_false,
 Bool.false_eq_true, true_and, reduceCtorEq]
        refine ⟨hk, ?_⟩
        by_cases q3 : n = 3
        · simp [mdN, q3]
        · have q2 : n = 2 := by omega
          simp [mdN, q2]
    clear hk h0 h5 h6
    rintro e S ⟨hk, h0, h5, h6⟩
    obtain ⟨p, hp⟩ : ∃ p, p = c.toNat % mdN n := ⟨_, rfl⟩
    rw [← hp] at h6
    have hp32 : p < 32 := by
      rw [hp]; unfold mdN
      split
      · omega
      · split <;> omega
    have hacc : ∀ k, k ≤ 3 → accP l p k < 8388609 := by
      intro k hk
      have := accP_lt (l := l) (p := p) k
      have h64 : (p + 1) * 64 ^ k ≤ 32 * 64 ^ 3 := Nat.mul_le_mul (by omega) (Nat.pow_le_pow_right (by omega) hk)
      have : 32 * 64 ^ 3 = 8388608 := by decide
      omega
    have hq : qN l n = accP l p (n - 1) := by unfold qN; rw [← hc, ← hp]
    refine W_cut (fun E S => Kept st S ∧ E 0 = x ∧ E 5 = .int .i64 (n : Int) ∧ E 6 = .int .i32 ((accP l p (n - 1) : Nat) : Int)) ?_ ?_
    · simp (maxSteps := 1000000) (disch := omega) only [qaaz, qabz, qadz, qajz, qalz, evOp, qapz, qarz, qatz, qazz]
      obtain ⟨II, hII⟩ : ∃ II : Nat → Env → St → Prop, II = fun m E S => ∃ k, m = n - 1 - k ∧ k ≤ n - 1 ∧ Kept st S ∧ E 0 = x ∧ E 5 = .int .i64 (n : Int) ∧ E 6 = .int .i32 ((accP l p k : Nat) : Int) ∧ E 7 = .int .i64 ((k + 1 : Nat) : Int) := ⟨_, rfl⟩
      refine W_loop II ?_ (n := n - 1) (by
        rw [hII]
        exact ⟨0, rfl, by omega, hk, h0, h5, h6, rfl⟩)
      clear hk h0 h5 h6
      intro m E S hh
      rw [hII] at hh
      obtain ⟨k, rfl, hk1, hk, h0, h5, h6, h7⟩ := hh
      by_cases hlt : k + 1 < n
      · obtain ⟨d, hd⟩ : ∃ d, d = l.getD (k + 1) 0 := ⟨_, rfl⟩
        have hid : iaddrPV 1 x (.int .i64 ((k + 1 : Nat) : Int)) = some (.cp [.b8 d]) := by
          rw [hd]; exact iaddr_by hx (by omega) (by rw [Int.toNat_natCast]; omega)
        have ha := hacc k (by omega)
        have hstep : accP l p (k + 1) = 64 * accP l p k + d.toNat % 64 := by rw [hd]; rfl
        simp (maxSteps := 1000000) (disch := omega) only [h0, h5, h6, h7, hlt, hid, qciz, cI32, rem32, mul32, addc32, add_n, qaaz, qabz, qacz, qadz, qaez, qajz, qalz, evOp, qaoz, qapz, qarz, qatz, qavz,
 ↓reduceIte, Nat.reduceEqDiff, Option.map_some, qazz, qbdz, qbhz, qbpz, qciz, decide_true, Int.toNat_natCast, Int.ofNat_lt, Int.reduceToNat, reduceCtorEq]
        refine loopQ_intro (m := n - 1 - (k + 1)) (by omega) ?_
        rw [hII]
        exact ⟨k + 1, rfl, by omega, hk, h0, h5, by rw [hstep]; rfl, rfl⟩
      · obtain rfl : k = n - 1 := by omega
        simp (maxSteps := 1000000) (disch := omega) only [h0, h5, h6, h7, hlt, qaaz, qabz, qacz, qagz, qajz, qalz, evOp, qaoz, qarz, qatz, qavz,
 ↓reduceIte, Nat.reduceEqDiff, Option.map_some, qazz, qbbz, qbfz, qbhz, qbjz, qbpz, decide_false,
 Int.ofNat_lt, Bool.false_eq_true, true_and, and_true, reduceCtorEq]
        exact hk
    clear hk h0 h5 h6
    rintro e S ⟨hk, h0, h5, h6⟩
    rw [← hq] at h6
    have hqb : qN l n < 2147483648 := by rw [hq]; have := hacc (n - 1) (by omega); omega
    have hput := Put_spec (st := S) hqb
    have hnext : ¬ succN l n → ∀ (E : Env) (S : St), Kept st S → E 0 = x → E 5 = .int .i64 ((n + 1 : Nat) : Int) → I (5 - (n + 1)) E S := by
      intro hs E S k1 k2 k3
      rw [hI]
      refine ⟨n + 1, rfl, by omega, by omega, k1, fun k j1 j2 j3 => ?_, k2, k3⟩
      by_cases hkn : k = n
      · subst hkn; exact hs
      · exact hall k j1 (by omega) j3
    by_cases hpt : pointN (qN l n)
    · have hput' : call prog (.fn 81 []) [.int .i32 ((qN l n : Nat) : Int)] S = some (.tup [.bys (.own S.toks.length) (putOf (qN l n)), .int .i64 0], S.tok1) := by
        rw [hput]; simp [putV, hpt]
      have hsl := slc_hi (k := .i64) (c := (n : Int)) hx (by omega) (by simpa using hnl)
      rw [Int.toNat_natCast] at hsl
      by_cases hs : putOf (qN l n) = l.take n
      · have hyes := succ_next hn hnl h128' ⟨hpt, hs⟩
        simp (maxSteps := 1000000) (disch := omega) only [h0, h5, h6, hput', b2s_by qcgz, hsl, b2s_by (takeB_by hx), eq_true hs, qaaz, qabz, qacz, qaiz, qajz, qakz, qalz, qamz, qanz, evOp, qaoz, qapz, qaqz, qarz, qatz, qavz,
 ↓reduceIte, Nat.reduceEqDiff, List.map_cons, List.map_nil, Option.map_some, Option.map_none, qazz, qbaz, qbez, qbhz, qbiz, qblz, qbtz, qcbz, beq_true, decide_true, qcjz, List.getElem?_cons_zero, List.getElem?_cons_succ, reduceCtorEq]
        refine ⟨.tup [.int .i32 ((qN l n : Nat) : Int), .int .i64 (n : Int), .int .i64 0], rfl, ?_⟩
        rw [nextV_some hyes]
        exact hk.tok1.leave rfl (fun _ _ => rfl)
      · simp (maxSteps := 1000000) (disch := omega) only [h0, h5, h6, hput', b2s_by qcgz, hsl, b2s_by (takeB_by hx), hs, add_n, qaaz, qabz, qacz, qaez, qajz, qakz, qalz, qamz, qanz, evOp, qaoz, qapz, qaqz, qarz, qatz, qavz,
 ↓reduceIte, Nat.reduceEqDiff, List.map_cons, List.map_nil, Option.map_some, Option.map_none, qazz, qbdz, qbhz, qbtz, qcbz, beq_true, decide_true, decide_false,
 Bool.false_eq_true, qcjz, List.getElem?_cons_zero, List.getElem?_cons_succ, Int.reduceToNat, reduceCtorEq]
        exact loopQ_intro (m := 5 - (n + 1)) (by omega) (hnext (fun h => hs h.2) _ _ hk.tok1 h0 rfl)
    · have hput' : call prog (.fn 81 []) [.int .i32 ((qN l n : Nat) : Int)] S = some (.tup [.nils, .int .i64 20], S) := by
        rw [hput]; simp [putV, hpt]
      simp (maxSteps := 1000000) (disch := omega) only [h5, h6, hput', add_n, qaaz, qabz, qacz, qaez, qajz, qakz, qalz, qamz, qanz, evOp, qaoz, qapz, qaqz, qarz, qatz, qavz,
 ↓reduceIte, Nat.reduceEqDiff, List.map_cons, List.map_nil, Option.map_some, qazz, qbdz, qbhz, qbtz, beq_true, decide_false,
 Bool.false_eq_true, qcjz, List.getElem?_cons_zero, List.getElem?_cons_succ, Int.reduceToNat, Int.reduceEq]
      exact loopQ_intro (m := 5 - (n + 1)) (by omega) (hnext (fun h => hpt h.1) _ _ hk h0 rfl)
  · have hno : nextOf l = none := by
      cases h : nextOf l with
      | none => rfl
      | some r =>
        obtain ⟨v, k⟩ := r
        obtain ⟨k1, k2, k3⟩ := next_succ h128' h
        exact absurd k3 (hall k (by omega) (by omega) k2)
    have fin : ∀ E : Env, E 2 = .int .i32 0 → E 3 = .int .i64 0 → E 4 = .int .i64 20 → ∃ rv, resOf E S [.tmp 2, .tmp 3, .tmp 4] = some rv ∧ leave st S rv = (nextV l, st) := by
      intro E k2 k3 k4
      exact ⟨.tup [.int .i32 0, .int .i64 0, .int .i64 20], by simp [resOf, rvAll, rv1, k2, k3, k4, notTup, packRes], by rw [nextV_none hno hne]; exact hk.leave rfl (fun _ _ => rfl)⟩
    by_cases hn4 : n ≤ 4
    · have r1 : (n : Int) ≤ 4 := by omega
      have r2 : ¬ n ≤ l.length := by omega
      simp (maxSteps := 1000000) (disch := omega) only [h0, h5, r1, len_by hx, r2, qaaz, qabz, qacz, qagz, qaiz, qajz, qakz, qalz, qamz, qanz, evOp, qaoz, qapz, qarz, qatz, qavz,
 ↓reduceIte, Nat.reduceEqDiff, Option.map_some, qazz, qbbz, qbfz, qbhz, qbjz, qblz, qbqz, beq_true, decide_true, decide_false,
 Int.ofNat_le, Bool.false_eq_true, reduceCtorEq]
      exact fin _ rfl rfl rfl
    · have r1 : ¬ (n : Int) ≤ 4 := by omega
      simp (maxSteps := 1000000) (disch := omega) only [h5, r1, qaaz, qabz, qacz, qagz, qaiz, qajz, qakz, qalz, qamz, qanz, evOp, qaoz, qapz, qarz, qatz, qavz,
 ↓reduceIte, Nat.reduceEqDiff, Option.map_some, qazz, qbbz, qbfz, qbhz, qbjz, qblz, qbqz, beq_true, decide_false,
 Bool.false_eq_true]
      exact fin _ rfl rfl rfl
end Go.Ab
/-
  A text's points; whether it is one.
-/
namespace Go.Ab
variable {st s : St} {e : Env}

theorem next_pos {l : List UInt8} {p n : Nat} (h : nextOf l = some (p, n)) : 1 ≤ n ∧ n ≤ l.length ∧ p < 2147483648 := by
  by_cases hc : (l.getD 0 0).toNat < 128
  · unfold nextOf at h
    split at h
    · cases h
    · rename_i hne
      cases h
      have := List.length_pos_iff.2 hne
      omega
  · obtain ⟨h1, h2, h3⟩ := next_succ hc h
    have h4 := succ_next h1 h2 hc h3
    rw [h] at h4
    simp only [Option.some.injEq, Prod.mk.injEq] at h4
    have := h3.1
    rw [← h4.1] at this
    unfold pointN at this
    omega

def ptsOf : Nat → List UInt8 → Nat → Except Nat (List Nat)
  | 0, _, _ => .ok []
  | k + 1, l, i => if i < l.length then match nextOf (l.drop i) with
    | none => .error i
    | some (p, n) => match ptsOf k l (i + n) with
      | .ok r => .ok (p :: r)
      | .error j => .error j
    else .ok []
def ptV (p : Nat) : PV := .int .i32 (p : Int)
def ptsV (st : St) (r : Except Nat (List Nat)) : PV × St := match r with
  | .ok ps => (.tup [newSl st 1 (ps.map ptV), .agg [.int .i64 0, .int .i64 0]], newS st (ps.map ptV).isEmpty)
  | .error j => (.tup [.nils, .agg [.int .i64 (j : Int), .int .i64 20]], st)

theorem Kept.appS {esz : Nat} {v : PV} {xs : List PV} (hk : Kept st s) (h : Own st s esz v xs) : Kept st (Ab.appS s v) := by
  have htl := hk.tl
  rcases h with ⟨rfl, rfl⟩ | ⟨i, rfl, h2, h3⟩
  · exact hk.tok1
  · refine hk.of rfl rfl hk.lw (fun j hj => ?_) ?_
    · show (s.toks.set i false ++ [true])[j]? = s.toks[j]?
      rw [List.getElem?_append_left (by simp; omega), List.getElem?_set_ne (by omega)]
    · show st.toks.length ≤ (s.toks.set i false ++ [true]).length
      simp; omega
theorem Own.appK {esz : Nat} {v : PV} {xs ys : List PV} (hk : Kept st s) (h : Own st s esz v xs) : Own st (Ab.appS s v) esz (.sl esz (.own s.toks.length) ys) ys := by
  have htl := hk.tl
  refine .inr ⟨_, rfl, htl, ?_⟩
  rcases h with ⟨rfl, rfl⟩ | ⟨i, rfl, h2, h3⟩
  · simp [Ab.appS, St.tok1]
  · show (s.toks.set i false ++ [true])[s.toks.length]? = some true
    rw [List.getElem?_append_right (by simp)]; simp
theorem leave_ownA {v : PV} {xs : List PV} {a b : Int} (hk : Kept st s) (h : Own st s 1 v xs) (hne : xs = [] → v = .nils) : leave st s (.tup [v, .agg [.int .i64 a, .int .i64 b]]) = (.tup [newSl st 1 xs, .agg [.int .i64 a, .int .i64 b]], newS st xs.isEmpty) := by
  have e1 := hk.bx; have e2 := hk.lp; have e3 := hk.tk
  rcases h with ⟨rfl, rfl⟩ | ⟨i, rfl, h2, h3⟩
  · simp [leave, PV.inB, PV.inB.inBAll, hk.lw, keepRes, keepVals, keepVal, keepCells, keepLeaf, e1, e2, e3, newSl, newS]
  · by_cases hx : xs = []
    · have := hne hx; cases this
    · simp [leave, PV.inB, PV.inB.inBAll, hk.lw, keepRes, keepVals, keepVal, keepCells, keepLeaf, keepTok, h3, show ¬ i < st.toks.length by omega, e1, e2, e3, newSl, newS, hx, St.tok1]
theorem liti1 {p : Int} : litFill 1 (List.replicate 1 (.int .i32 0)) [(0, .int .i32 p)] = some [.int .i32 p] := lit1 rfl rfl
theorem build2i {a b : Int} : buildCells [.int .i64 0, .int .i64 0] [(0, 1, .int .i64 a), (1, 1, .int .i64 b)] = some [.int .i64 a, .int .i64 b] := by
  simp [buildCells, PV.cells, leafOk, setCells]
theorem build0i : buildCells [.int .i64 0, .int .i64 0] [] = some [.int .i64 0, .int .i64 0] := rfl

def FB (st s : St) (a b : Int) : Prop := st.boxes.length < s.boxes.length ∧ s.boxes[st.boxes.length]? = some [.int .i64 a, .int .i64 b]
theorem FB.store {a b c d : Int} (hk : Kept st s) (h : FB st s a b) : ∃ s', storePV s 2 (.ptr st.boxes.length 0) (.agg [.int .i64 c, .int .i64 d]) = some s' ∧ Kept st s' ∧ FB st s' c d ∧ s'.toks = s.toks := by
  refine ⟨{ s with boxes := s.boxes.set st.boxes.length [.int .i64 c, .int .i64 d] }, ?_, ?_, ⟨by simpa using h.1, by simp [h.1]⟩, rfl⟩
  · simp [storePV, h.2, PV.cells, PV.inB, PV.inB.inBAll, leafOk, hasTok, tokOf, setCells]
  · exact hk.of (by rw [List.take_set_of_le (Nat.le_refl _)]) rfl hk.lw (fun _ _ => rfl) hk.tl
theorem FB.load {a b : Int} (h : FB st s a b) : loadPV s true 2 (.ptr st.boxes.length 0) = some (.agg [.int .i64 a, .int .i64 b]) := by
  simp [loadPV, h.2, readCells]
theorem FB.appS {v : PV} {esz : Nat} {xs : List PV} {a b : Int} (h : FB st s a b) (ho : Own st s esz v xs) : FB st (Ab.appS s v) a b := by
  rcases ho with ⟨rfl, rfl⟩ | ⟨i, rfl, _, _⟩ <;> exact h

set_option maxHeartbeats 1000000 in
theorem uPoints_spec {x : PV} {l : List UInt8} (hx : x.by = some l) (hl : l.length ≤ 100000000) : call prog (.fn 69 []) [x] st = some (ptsV st (ptsOf (l.length + 1) l 0)) := by
  refine call_of_W prog_69 ?_
  unfold F_utf_Points; dsimp only
  obtain ⟨T, hT⟩ : ∃ T, T = ptsOf (l.length + 1) l 0 := ⟨_, rfl⟩
  rw [← hT]
  refine W_cut (fun E S => Kept st S ∧ FB st S 0 0 ∧ E 0 = x ∧ E 3 = .ptr st.boxes.length 0) ?_ ?_
  · simp (maxSteps := 1000000) (disch := omega) only [allocPV, qabz, qajz, qalz, evOp, qapz, qarz, qatz, qavz,
 ↓reduceIte, List.append_nil, qawz, true_and, and_true, reduceCtorEq]
    exact ⟨Kept.start.alloc, by simp, by simp⟩
  rintro e S ⟨hk, hb, h0, h3⟩
  simp (maxSteps := 1000000) (disch := omega) only [qaaz, qabz, qadz, qajz, qalz, evOp, qapz, qarz, qatz, qazz]
  obtain ⟨I, hI⟩ : ∃ I : Nat → Env → St → Prop, I = fun m E S => ∃ (i k : Nat) (v : PV) (acc : List Nat), m = l.length - i ∧ l.length + 1 - i ≤ k ∧ i ≤ l.length ∧ acc.length ≤ i ∧ Kept st S ∧ FB st S 0 0 ∧ Own st S 1 v (acc.map ptV) ∧ (acc.map ptV = [] → v = .nils) ∧ T = (match ptsOf k l i with | .ok r => .ok (acc ++ r) | .error j => .error j) ∧ E 0 = x ∧ E 3 = .ptr st.boxes.length 0 ∧ E 4 = v ∧ E 5 = .int .i64 (i : Int) := ⟨_, rfl⟩
  refine W_loop I ?_ (n := l.length) (by
    rw [hI]
    refine ⟨0, l.length + 1, .nils, [], rfl, by omega, by omega, by simp, hk, hb, .inl ⟨rfl, rfl⟩, fun _ => rfl, ?_, h0, h3, rfl, rfl⟩
    rw [hT]; split <;> simp_all)
  clear hk hb h0 h3
  intro m e S hh
  rw [hI] at hh
  obtain ⟨i, k, v, acc, rfl, hki, hil, hacl, hk, hb, ho, hnil, hTT, h0, h3, h4, h5⟩ := hh
  by_cases hlt : i < l.length
  · obtain ⟨k, rfl⟩ : ∃ k', k = k' + 1 := ⟨k - 1, by omega⟩
    simp only [ptsOf, hlt, if_true] at hTT
    have hnx := fun S : St => uNext_spec (st := S) (dropB_by (i := i) hx) (by simp; omega)
    have hsl := slc_lo (k := .i64) (c := (i : Int)) hx (by omega) (by simpa using hil)
    rw [Int.toNat_natCast] at hsl
    cases hno : nextOf (l.drop i) with
    | none =>
      simp only [hno] at hTT
      have hdn : l.drop i ≠ [] := by intro h; have := congrArg List.length h; simp at this; omega
      rw [nextV_none hno hdn] at hnx
      obtain ⟨S2, a1, k1, b1, -⟩ := FB.store (c := (i : Int)) (d := 20) hk hb
      have hld := b1.load
      simp (maxSteps := 1000000) (disch := omega) only [h0, h3, h5, len_by hx, hlt, hsl, hnx, build2i, a1, qaaz, qabz, qacz, qadz, qaez, qaiz, qajz, qalz, evOp, qaoz, qapz, qaqz, qarz, qatz, qauz, qavz,
 ↓reduceIte, Nat.reduceEqDiff, List.map_cons, List.map_nil, Option.map_some, Option.map_none, qazz, qbaz, qbez, qbhz, qbiz, qblz, qbpz, qbuz, decide_true, Int.ofNat_lt, qcjz, List.getElem?_cons_zero, List.getElem?_cons_succ, reduceCtorEq, ne_eq, Int.reduceEq, not_false_eq_true]
      refine ⟨.tup [.nils, .agg [.int .i64 (i : Int), .int .i64 20]], ?_, ?_⟩
      · simp [resOf, rvAll, rv1, qavz, h3, hld, notTup, packRes]
      · rw [hTT]; exact k1.leave rfl (fun _ _ => rfl)
    | some pn =>
      obtain ⟨p, n⟩ := pn
      simp only [hno] at hTT
      rw [nextV_some hno] at hnx
      obtain ⟨hn1, hn2, hn3⟩ := next_pos hno
      simp only [List.length_drop] at hn2
      have happ := appV_own (u := ptV p) (t := .own S.toks.length) ho.tok1 (by simp only [List.length_map, room]; omega)
      have k2 := hk.tok1.appS ho.tok1
      have o2 := Own.appK (ys := acc.map ptV ++ [ptV p]) hk.tok1 ho.tok1
      have b2 : FB st (Ab.appS S.tok1 v) 0 0 := FB.appS (s := S.tok1) hb ho.tok1
      unfold ptV at happ
      simp (maxSteps := 1000000) (disch := omega) only [h0, h4, h5, len_by hx, hlt, hsl, hnx, liti1, freshT_eq, happ, add_n, qaaz, qabz, qacz, qadz, qaez, qajz, qalz, evOp, qaoz, qapz, qaqz, qarz, qatz, qavz,
 ↓reduceIte, Nat.reduceEqDiff, List.map_cons, List.map_nil, Option.map_some, Option.map_none, qazz, qbdz, qbhz, qbpz, qbuz, decide_true, decide_false,
 Int.toNat_natCast, Int.ofNat_lt, Bool.false_eq_true, qcjz, List.getElem?_cons_zero, List.getElem?_cons_succ, reduceCtorEq, ne_eq, not_true_eq_false]
      refine loopQ_intro (m := l.length - (i + n)) (by omega) ?_
      rw [hI]
      refine ⟨i + n, k, _, acc ++ [p], rfl, by omega, by omega, by simp; omega, k2, b2, ?_, fun h => by simp at h, ?_, h0, h3, rfl, rfl⟩
      · rw [List.map_append]; exact o2
      · rw [hTT]
        cases ptsOf k l (i + n) with
        | ok r => simp
        | error j => rfl
  · obtain rfl : i = l.length := by omega
    have hTf : T = .ok acc := by
      rw [hTT]
      cases k with
      | zero => simp [ptsOf]
      | succ k => simp [ptsOf]
    obtain ⟨S2, a1, k1, b1, t1⟩ := FB.store (c := 0) (d := 0) hk hb
    have hld := b1.load
    have ho2 : Own st S2 1 v (acc.map ptV) := by
      rcases ho with h | ⟨i, h1, h2, h3⟩
      · exact .inl h
      · exact .inr ⟨i, h1, h2, by rw [t1]; exact h3⟩
    simp (maxSteps := 1000000) (disch := omega) only [h0, h3, h4, h5, len_by hx, hlt, build0i, a1, qaaz, qabz, qacz, qagz, qaiz, qajz, qalz, evOp, qaoz, qarz, qatz, qauz, qavz,
 ↓reduceIte, Nat.reduceEqDiff, List.map_nil, Option.map_some, qazz, qbbz, qbfz, qbhz, qbjz, qblz, qbpz, decide_false,
 Int.ofNat_lt, Bool.false_eq_true, reduceCtorEq]
    refine ⟨.tup [v, .agg [.int .i64 0, .int .i64 0]], ?_, ?_⟩
    · have hnt : notTup v = true := by rcases ho with ⟨rfl, _⟩ | ⟨i, rfl, _⟩ <;> rfl
      simp [resOf, rvAll, rv1, qavz, h3, hld, hnt, packRes]
      rfl
    · rw [hTf]; exact leave_ownA k1 ho2 hnil
set_option maxHeartbeats 1000000 in
theorem rPoints_spec {x : PV} {l : List UInt8} (hx : x.by = some l) (hl : l.length ≤ 100000000) : call prog (.fn 80 []) [x] st = some (ptsV st (ptsOf (l.length + 1) l 0)) := by
  refine call_of_W prog_80 ?_
  unfold F_posthornref02_Points; dsimp only
  obtain ⟨T, hT⟩ : ∃ T, T = ptsOf (l.length + 1) l 0 := ⟨_, rfl⟩
  rw [← hT]
  refine W_cut (fun E S => Kept st S ∧ FB st S 0 0 ∧ E 0 = x ∧ E 3 = .ptr st.boxes.length 0) ?_ ?_
  · simp (maxSteps := 1000000) (disch := omega) only [allocPV, qabz, qajz, qalz, evOp, qapz, qarz, qatz, qavz,
 ↓reduceIte, List.append_nil, qawz, true_and, and_true, reduceCtorEq]
    exact ⟨Kept.start.alloc, by simp, by simp⟩
  rintro e S ⟨hk, hb, h0, h3⟩
  simp (maxSteps := 1000000) (disch := omega) only [qaaz, qabz, qadz, qajz, qalz, evOp, qapz, qarz, qatz, qazz]
  obtain ⟨I, hI⟩ : ∃ I : Nat → Env → St → Prop, I = fun m E S => ∃ (i k : Nat) (v : PV) (acc : List Nat), m = l.length - i ∧ l.length + 1 - i ≤ k ∧ i ≤ l.length ∧ acc.length ≤ i ∧ Kept st S ∧ FB st S 0 0 ∧ Own st S 1 v (acc.map ptV) ∧ (acc.map ptV = [] → v = .nils) ∧ T = (match ptsOf k l i with | .ok r => .ok (acc ++ r) | .error j => .error j) ∧ E 0 = x ∧ E 3 = .ptr st.boxes.length 0 ∧ E 4 = v ∧ E 5 = .int .i64 (i : Int) := ⟨_, rfl⟩
  refine W_loop I ?_ (n := l.length) (by
    rw [hI]
    refine ⟨0, l.length + 1, .nils, [], rfl, by omega, by omega, by simp, hk, hb, .inl ⟨rfl, rfl⟩, fun _ => rfl, ?_, h0, h3, rfl, rfl⟩
    rw [hT]; split <;> simp_all)
  clear hk hb h0 h3
  intro m e S hh
  rw [hI] at hh
  obtain ⟨i, k, v, acc, rfl, hki, hil, hacl, hk, hb, ho, hnil, hTT, h0, h3, h4, h5⟩ := hh
  by_cases hlt : i < l.length
  · obtain ⟨k, rfl⟩ : ∃ k', k = k' + 1 := ⟨k - 1, by omega⟩
    simp only [ptsOf, hlt, if_true] at hTT
    have hnx := fun S : St => rNext_spec (st := S) (dropB_by (i := i) hx) (by simp; omega)
    have hsl := slc_lo (k := .i64) (c := (i : Int)) hx (by omega) (by simpa using hil)
    rw [Int.toNat_natCast] at hsl
    cases hno : nextOf (l.drop i) with
    | none =>
      simp only [hno] at hTT
      have hdn : l.drop i ≠ [] := by intro h; have := congrArg List.length h; simp at this; omega
      rw [nextV_none hno hdn] at hnx
      obtain ⟨S2, a1, k1, b1, -⟩ := FB.store (c := (i : Int)) (d := 20) hk hb
      have hld := b1.load
      simp (maxSteps := 1000000) (disch := omega) only [h0, h3, h5, len_by hx, hlt, hsl, hnx, build2i, a1, qaaz, qabz, qacz, qadz, qaez, qaiz, qajz, qalz, evOp, qaoz, qapz, qaqz, qarz, qatz, qauz, qavz,
 ↓reduceIte, Nat.reduceEqDiff, List.map_cons, List.map_nil, Option.map_some, Option.map_none, qazz, qbaz, qbez, qbhz, qbiz, qblz, qbpz, qbuz, decide_true, Int.ofNat_lt, qcjz, List.getElem?_cons_zero, List.getElem?_cons_succ, reduceCtorEq, ne_eq, Int.reduceEq, not_false_eq_true]
      refine ⟨.tup [.nils, .agg [.int .i64 (i : Int), .int .i64 20]], ?_, ?_⟩
      · simp [resOf, rvAll, rv1, qavz, h3, hld, notTup, packRes]
      · rw [hTT]; exact k1.leave rfl (fun _ _ => rfl)
    | some pn =>
      obtain ⟨p, n⟩ := pn
      simp only [hno] at hTT
      rw [nextV_some hno] at hnx
      obtain ⟨hn1, hn2, hn3⟩ := next_pos hno
      simp only [List.length_drop] at hn2
      have happ := appV_own (u := ptV p) (t := .own S.toks.length) ho.tok1 (by simp only [List.length_map, room]; omega)
      have k2 := hk.tok1.appS ho.tok1
      have o2 := Own.appK (ys := acc.map ptV ++ [ptV p]) hk.tok1 ho.tok1
      have b2 : FB st (Ab.appS S.tok1 v) 0 0 := FB.appS (s := S.tok1) hb ho.tok1
      unfold ptV at happ
      simp (maxSteps := 1000000) (disch := omega) only [h0, h4, h5, len_by hx, hlt, hsl, hnx, liti1, freshT_eq, happ, add_n, qaaz, qabz, qacz, qadz, qaez, qajz, qalz, evOp, qaoz, qapz, qaqz, qarz, qatz, qavz,
 ↓reduceIte, Nat.reduceEqDiff, List.map_cons, List.map_nil, Option.map_some, Option.map_none, qazz, qbdz, qbhz, qbpz, qbuz, decide_true, decide_false,
 Int.toNat_natCast, Int.ofNat_lt, Bool.false_eq_true, qcjz, List.getElem?_cons_zero, List.getElem?_cons_succ, reduceCtorEq, ne_eq, not_true_eq_false]
      refine loopQ_intro (m := l.length - (i + n)) (by omega) ?_
      rw [hI]
      refine ⟨i + n, k, _, acc ++ [p], rfl, by omega, by omega, by simp; omega, k2, b2, ?_, fun h => by simp at h, ?_, h0, h3, rfl, rfl⟩
      · rw [List.map_append]; exact o2
      · rw [hTT]
        cases ptsOf k l (i + n) with
        | ok r => simp
        | error j => rfl
  · obtain rfl : i = l.length := by omega
    have hTf : T = .ok acc := by
      rw [hTT]
      cases k with
      | zero => simp [ptsOf]
      | succ k => simp [ptsOf]
    obtain ⟨S2, a1, k1, b1, t1⟩ := FB.store (c := 0) (d := 0) hk hb
    have hld := b1.load
    have ho2 : Own st S2 1 v (acc.map ptV) := by
      rcases ho with h | ⟨i, h1, h2, h3⟩
      · exact .inl h
      · exact .inr ⟨i, h1, h2, by rw [t1]; exact h3⟩
    simp (maxSteps := 1000000) (disch := omega) only [h0, h3, h4, h5, len_by hx, hlt, build0i, a1, qaaz, qabz, qacz, qagz, qaiz, qajz, qalz, evOp, qaoz, qarz, qatz, qauz, qavz,
 ↓reduceIte, Nat.reduceEqDiff, List.map_nil, Option.map_some, qazz, qbbz, qbfz, qbhz, qbjz, qblz, qbpz, decide_false,
 Int.ofNat_lt, Bool.false_eq_true, reduceCtorEq]
    refine ⟨.tup [v, .agg [.int .i64 0, .int .i64 0]], ?_, ?_⟩
    · have hnt : notTup v = true := by rcases ho with ⟨rfl, _⟩ | ⟨i, rfl, _⟩ <;> rfl
      simp [resOf, rvAll, rv1, qavz, h3, hld, hnt, packRes]
      rfl
    · rw [hTf]; exact leave_ownA k1 ho2 hnil
end Go.Ab
/-
  Whether a text is one of points; where it can be cut.
-/
namespace Go.Ab
variable {st s : St} {e : Env}

def validOf (l : List UInt8) : Bool := match ptsOf (l.length + 1) l 0 with
  | .ok _ => true
  | .error _ => false

theorem pts_parts {l : List UInt8} {S : St} (hk : Kept st S) : ∃ w a S', ptsV S (ptsOf (l.length + 1) l 0) = (.tup [w, .agg [.int .i64 a, .int .i64 (if validOf l = true then 0 else 20)]], S') ∧ Kept st S' := by
  unfold validOf
  cases ptsOf (l.length + 1) l 0 with
  | ok ps =>
    refine ⟨_, 0, _, rfl, ?_⟩
    unfold newS; split
    · exact hk
    · exact hk.tok1
  | error j => exact ⟨_, _, _, rfl, hk⟩
theorem store_i2 {B : List (List PV)} {T : List Bool} {L : List LoopS} {lo : Nat} {a b : Int} : storePV ⟨B ++ [[.int .i64 0, .int .i64 0]], T, L, lo⟩ 2 (.ptr B.length 0) (.agg [.int .i64 a, .int .i64 b]) = some ⟨B ++ [[.int .i64 a, .int .i64 b]], T, L, lo⟩ := by
  simp [storePV, PV.cells, PV.inB, PV.inB.inBAll, leafOk, setCells, hasTok, tokOf]
theorem load_i1 {B : List (List PV)} {T : List Bool} {L : List LoopS} {lo : Nat} {a b : Int} : loadPV ⟨B ++ [[.int .i64 a, .int .i64 b]], T, L, lo⟩ false 1 (.ptr B.length 1) = some (.int .i64 b) := by
  simp [loadPV, readCells]

theorem uValid_spec {x : PV} {l : List UInt8} (hx : x.by = some l) (hl : l.length ≤ 100000000) : call prog (.fn 53 []) [x] st = some (.bool (validOf l), st) := by
  refine call_of_W prog_53 ?_
  unfold F_utf_Valid; dsimp only
  obtain ⟨w, a, S', h1, hk⟩ := pts_parts (l := l) (st := st) Kept.start
  have hp := uPoints_spec (st := { boxes := st.boxes, toks := st.toks, loops := st.loops, low := st.boxes.length }) hx hl
  rw [h1] at hp
  cases hv : validOf l with
  | true =>
    simp only [hv, if_true] at hp
    simp (maxSteps := 1000000) (disch := omega) only [hp, allocPV, store_i2, faddrPV, Nat.zero_add, load_i1, qaaz, qabz, qaiz, qajz, qalz, evOp, qaoz, qapz, qaqz, qarz, qatz, qauz, qavz,
 ↓reduceIte, Nat.reduceEqDiff, List.append_nil, List.map_cons, List.map_nil, qawz, Option.map_some, qazz, qblz, qbtz, decide_true, qcjz, List.getElem?_cons_zero, List.getElem?_cons_succ, reduceCtorEq]
    exact ⟨.bool true, rfl, hk.alloc.leave rfl (fun _ _ => rfl)⟩
  | false =>
    simp only [hv, Bool.false_eq_true, if_false] at hp
    simp (maxSteps := 1000000) (disch := omega) only [hp, allocPV, store_i2, faddrPV, Nat.zero_add, load_i1, qaaz, qabz, qaiz, qajz, qalz, evOp, qaoz, qapz, qaqz, qarz, qatz, qauz, qavz,
 ↓reduceIte, Nat.reduceEqDiff, List.append_nil, List.map_cons, List.map_nil, qawz, Option.map_some, qazz, qblz, qbtz, decide_false,
 qcjz, List.getElem?_cons_zero, List.getElem?_cons_succ, reduceCtorEq, Int.reduceEq]
    exact ⟨.bool false, rfl, hk.alloc.leave rfl (fun _ _ => rfl)⟩
theorem rValid_spec {x : PV} {l : List UInt8} (hx : x.by = some l) (hl : l.length ≤ 100000000) : call prog (.fn 74 []) [x] st = some (.bool (validOf l), st) := by
  refine call_of_W prog_74 ?_
  unfold F_posthornref02_Valid; dsimp only
  obtain ⟨w, a, S', h1, hk⟩ := pts_parts (l := l) (st := st) Kept.start
  have hp := rPoints_spec (st := { boxes := st.boxes, toks := st.toks, loops := st.loops, low := st.boxes.length }) hx hl
  rw [h1] at hp
  cases hv : validOf l with
  | true =>
    simp only [hv, if_true] at hp
    simp (maxSteps := 1000000) (disch := omega) only [hp, allocPV, store_i2, faddrPV, Nat.zero_add, load_i1, qaaz, qabz, qaiz, qajz, qalz, evOp, qaoz, qapz, qaqz, qarz, qatz, qauz, qavz,
 ↓reduceIte, Nat.reduceEqDiff, List.append_nil, List.map_cons, List.map_nil, qawz, Option.map_some, qazz, qblz, qbtz, decide_true, qcjz, List.getElem?_cons_zero, List.getElem?_cons_succ, reduceCtorEq]
    exact ⟨.bool true, rfl, hk.alloc.leave rfl (fun _ _ => rfl)⟩
  | false =>
    simp only [hv, Bool.false_eq_true, if_false] at hp
    simp (maxSteps := 1000000) (disch := omega) only [hp, allocPV, store_i2, faddrPV, Nat.zero_add, load_i1, qaaz, qabz, qaiz, qajz, qalz, evOp, qaoz, qapz, qaqz, qarz, qatz, qauz, qavz,
 ↓reduceIte, Nat.reduceEqDiff, List.append_nil, List.map_cons, List.map_nil, qawz, Option.map_some, qazz, qblz, qbtz, decide_false,
 qcjz, List.getElem?_cons_zero, List.getElem?_cons_succ, reduceCtorEq, Int.reduceEq]
    exact ⟨.bool false, rfl, hk.alloc.leave rfl (fun _ _ => rfl)⟩

def isCont (c : UInt8) : Prop := 128 ≤ c.toNat ∧ c.toNat < 192
instance {c : UInt8} : Decidable (isCont c) := by unfold isCont; infer_instance
def back (l : List UInt8) : Nat → Nat
  | 0 => 0
  | n + 1 => if n + 1 < l.length ∧ isCont (l.getD (n + 1) 0) then back l n else n + 1
def cutOf (l : List UInt8) (m : Nat) : Nat := if validOf l = true then back l (min m l.length) else min m l.length

theorem back_le {l : List UInt8} : ∀ n, back l n ≤ n := by
  intro n
  induction n with
  | zero => simp [back]
  | succ n ih => simp only [back]; split <;> omega
theorem next_cont {l : List UInt8} {p n : Nat} (h : nextOf l = some (p, n)) : ¬ isCont (l.getD 0 0) ∧ ∀ j, 1 ≤ j → j < n → isCont (l.getD j 0) := by
  unfold nextOf at h
  split at h
  · cases h
  split at h
  · rename_i hc
    cases h
    exact ⟨fun hh => by unfold isCont at hh; omega, fun j h1 h2 => by omega⟩
  · rename_i hc
    simp only at h
    split at h
    · cases h
    · rename_i hcond
      simp only [not_or, Classical.not_not] at hcond
      cases h
      refine ⟨fun hh => ?_, fun j h1 h2 => ?_⟩
      · apply hcond.1
        unfold isCont at hh
        unfold lead
        rw [if_neg (by omega), if_neg (by omega), if_neg (by omega)]
      · have := hcond.2.2.1 (j - 1) (by omega)
        rw [show j - 1 + 1 = j by omega] at this
        exact this

theorem uCut_spec {x : PV} {l : List UInt8} {m : Nat} (hx : x.by = some l) (hl : l.length ≤ 100000000) : call prog (.fn 61 []) [x, .int .i64 (m : Int)] st = some (.int .i64 ((cutOf l m : Nat) : Int), st) := by
  refine call_of_W prog_61 ?_
  unfold F_utf_Cut; dsimp only
  have hm1 : mnmxPV false [.int .i64 (m : Int), .int .i64 (l.length : Int)] = some (.int .i64 ((min m l.length : Nat) : Int)) := by
    simp [mnmxPV] <;> omega
  have hm2 : mnmxPV true [.int .i64 ((min m l.length : Nat) : Int), .int .i64 0] = some (.int .i64 ((min m l.length : Nat) : Int)) := by
    simp [mnmxPV] <;> omega
  have hv := fun S : St => uValid_spec (st := S) hx hl
  obtain ⟨q, hq⟩ : ∃ q, q = min m l.length := ⟨_, rfl⟩
  rw [← hq] at hm1 hm2
  have hql : q ≤ l.length := by omega
  cases hvl : validOf l with
  | false =>
    have hc : cutOf l m = q := by simp [cutOf, hvl, hq]
    rw [hc]
    simp only [hvl] at hv
    simp (maxSteps := 1000000) (disch := omega) only [len_by hx, hm1, hm2, hv, qaaz, qabz, qacz, qaiz, qajz, qalz, evOp, qaoz, qapz, qaqz, qarz, qatz, qavz,
 ↓reduceIte, Nat.reduceEqDiff, List.append_nil, List.map_cons, List.map_nil, qawz, qaxz, Option.map_some, qazz, qbaz, qbhz, qblz, qcfz, reduceCtorEq, Bool.not_false]
    exact ⟨.int .i64 (q : Int), rfl, Kept.start.leave rfl (fun _ _ => rfl)⟩
  | true =>
    have hc : cutOf l m = back l q := by simp [cutOf, hvl, hq]
    rw [hc]
    simp only [hvl] at hv
    simp (maxSteps := 1000000) (disch := omega) only [len_by hx, hm1, hm2, hv, qaaz, qabz, qacz, qadz, qaez, qajz, qalz, evOp, qaoz, qapz, qaqz, qarz, qatz, qavz,
 ↓reduceIte, Nat.reduceEqDiff, List.append_nil, List.map_cons, List.map_nil, qawz, qaxz, Option.map_some, qazz, qbhz, qcfz, Bool.false_eq_true, reduceCtorEq, Bool.not_true]
    obtain ⟨I, hI⟩ : ∃ I : Nat → Env → St → Prop, I = fun k E S => ∃ i : Nat, i = k ∧ i ≤ l.length ∧ Kept st S ∧ back l i = back l q ∧ E 0 = x ∧ E 1 = .int .i64 (i : Int) := ⟨_, rfl⟩
    refine W_loop I ?_ (n := q) (by
      rw [hI]
      exact ⟨q, rfl, hql, Kept.start, rfl, rfl, rfl⟩)
    intro k e S hh
    rw [hI] at hh
    obtain ⟨i, rfl, hil, hk, hb, h0, h1⟩ := hh
    have fin : back l i = i → ∀ E : Env, E 4 = .int .i64 (i : Int) → ∃ rv, resOf E S [.tmp 4] = some rv ∧ leave st S rv = (.int .i64 ((back l q : Nat) : Int), st) := by
      intro hbi E k4
      exact ⟨.int .i64 (i : Int), by simp [resOf, rvAll, rv1, k4, notTup, packRes], by rw [← hb, hbi]; exact hk.leave rfl (fun _ _ => rfl)⟩
    cases i with
    | zero =>
      have e0 : ¬ (0 : Int) < ((0 : Nat) : Int) := by omega
      simp (maxSteps := 1000000) (disch := omega) only [h1, e0, qaaz, qabz, qacz, qagz, qaiz, qajz, qakz, qalz, qamz, qanz, evOp, qaoz, qapz, qarz, qatz, qavz,
 ↓reduceIte, Nat.reduceEqDiff, Option.map_some, qazz, qbbz, qbfz, qbhz, qbjz, qblz, qbrz, beq_true, decide_false,
 Bool.false_eq_true]
      exact fin rfl _ rfl
    | succ i =>
      have e0 : (0 : Int) < ((i + 1 : Nat) : Int) := by omega
      by_cases hlt : i + 1 < l.length
      · obtain ⟨d, hd⟩ : ∃ d, d = l.getD (i + 1) 0 := ⟨_, rfl⟩
        have hid : iaddrPV 1 x (.int .i64 ((i + 1 : Nat) : Int)) = some (.cp [.b8 d]) := by
          rw [hd]; exact iaddr_by hx (by omega) (by rw [Int.toNat_natCast]; omega)
        by_cases q6 : UInt8.ofNat (d.toNat / 64) = 2
        · have hdc := (isC d).1 q6
          simp (maxSteps := 1000000) (disch := omega) only [h0, h1, e0, len_by hx, hlt, hid, qciz, shr6, eq_true q6, sub_n, qaaz, qabz, qacz, qadz, qaez, qajz, qakz, qalz, qamz, qanz, evOp, qaoz, qapz, qarz, qatz, qavz,
 ↓reduceIte, Nat.reduceEqDiff, Option.map_some, qazz, qbdz, qbhz, qbpz, qbrz, qbvz, qciz, beq_true, decide_true, Int.ofNat_lt, Int.reduceToNat, reduceCtorEq]
          refine loopQ_intro (m := i) (by omega) ?_
          rw [hI]
          refine ⟨i, rfl, by omega, hk, ?_, h0, rfl⟩
          rw [← hb]
          simp only [back]
          rw [if_pos ⟨hlt, by rw [← hd]; exact hdc⟩]
        · have hdc : ¬ isCont d := fun h => q6 ((isC d).2 h)
          simp (maxSteps := 1000000) (disch := omega) only [h0, h1, e0, len_by hx, hlt, hid, qciz, shr6, q6, qaaz, qabz, qacz, qagz, qaiz, qajz, qakz, qalz, qamz, qanz, evOp, qaoz, qapz, qarz, qatz, qavz,
 ↓reduceIte, Nat.reduceEqDiff, Option.map_some, qazz, qbbz, qbfz, qbhz, qbjz, qblz, qbpz, qbrz, qbvz, qciz, beq_true, decide_true, decide_false,
 Int.ofNat_lt, Bool.false_eq_true, reduceCtorEq]
          exact fin (by simp only [back]; rw [if_neg (by rw [← hd]; exact fun h => hdc h.2)]) _ rfl
      · simp (maxSteps := 1000000) (disch := omega) only [h0, h1, e0, len_by hx, hlt, qaaz, qabz, qacz, qagz, qaiz, qajz, qakz, qalz, qamz, qanz, evOp, qaoz, qapz, qarz, qatz, qavz,
 ↓reduceIte, Nat.reduceEqDiff, Option.map_some, qazz, qbbz, qbfz, qbhz, qbjz, qblz, qbpz, qbrz, beq_true, decide_true, decide_false,
 Int.ofNat_lt, Bool.false_eq_true, reduceCtorEq]
        exact fin (by simp only [back]; rw [if_neg (fun h => hlt h.1)]) _ rfl
end Go.Ab
/-
  Where a text can be cut, by the document.
-/
namespace Go.Ab
variable {st s : St} {e : Env}

theorem drop_get {l : List UInt8} {i j : Nat} : (l.drop i).getD j 0 = l.getD (i + j) 0 := by simp [List.getD]

end Go.Ab
/-
  Names and texts of a calendar's lines.
-/
namespace Go.Ab
variable {st s : St} {e : Env}

def nmC (c : UInt8) : Bool := (decide (65 ≤ c) && decide (c ≤ 90)) || (decide (48 ≤ c) && decide (c ≤ 57)) || decide (c = 45)
def nmB (l : List UInt8) : Bool := decide (1 ≤ l.length) && decide (l.length ≤ 64) && l.all nmC
def txC (c : UInt8) : Bool := !(decide (c < 32) && !decide (c = 9)) && !decide (c = 127)
def txB (l : List UInt8) : Bool := l.all txC && validOf l

theorem sName_spec {l : List UInt8} (hl : l.length ≤ 1000000) : call prog (.fn 64 []) [.str l] st = some (.bool (nmB l), st) := by
  refine call_of_W prog_64 ?_
  unfold F_sheet_isName; dsimp only
  simp (maxSteps := 1000000) (disch := omega) only [len_s, qaaz, qabz, qadz, qajz, qalz, evOp, qaoz, qapz, qarz, qatz, qavz,
 ↓reduceIte, List.append_nil, qawz, Option.map_some, qazz, reduceCtorEq]
  obtain ⟨I, hI⟩ : ∃ I : Nat → Env → St → Prop, I = fun k e s' => ∃ (i : Nat), k = l.length - i ∧ i ≤ l.length ∧ Kept st s' ∧ (∀ j, j < i → nmC (l.getD j 0) = true) ∧ e 0 = .str l ∧ e 6 = .int .i64 (l.length : Int) ∧ e 7 = .int .i64 (i : Int) := ⟨_, rfl⟩
  refine W_loop I ?_ (n := l.length) (by
    rw [hI]
    exact ⟨0, rfl, by omega, Kept.start, fun j h => by omega, rfl, rfl, rfl⟩)
  intro k e s' hh
  rw [hI] at hh
  obtain ⟨i, rfl, hi, hk, hall, h0, h6, h7⟩ := hh
  by_cases hlt : i < l.length
  · obtain ⟨c, hc⟩ : ∃ c, c = l.getD i 0 := ⟨_, rfl⟩
    have bad : nmC c = false → ∀ E : Env, E 2 = .bool false → ∃ rv, resOf E s' [.tmp 2] = some rv ∧ leave st s' rv = (.bool (nmB l), st) := fun h E k2 =>
      ⟨.bool false, by simp [resOf, rvAll, rv1, k2, notTup, packRes], by
        rw [show nmB l = false by simp only [nmB, all_bad (p := nmC) hlt (by rw [← hc]; exact h), Bool.and_false]]
        exact hk.leave rfl (fun _ _ => rfl)⟩
    have good : nmC c = true → ∀ E : Env, E 0 = .str l → E 6 = .int .i64 (l.length : Int) → E 7 = .int .i64 ((i + 1 : Nat) : Int) → I (l.length - (i + 1)) E s' := fun h E k0 k6 k7 => by
      rw [hI]
      refine ⟨i + 1, rfl, by omega, hk, fun j hj => ?_, k0, k6, k7⟩
      by_cases hji : j = i
      · subst hji; rw [← hc]; exact h
      · exact hall j (by omega)
    by_cases q1 : 65 ≤ c
    · by_cases q2 : c ≤ 90
      · simp (maxSteps := 1000000) (disch := omega) only [h0, h6, h7, hlt, idx_s, ← hc, q1, q2, add_n, qaaz, qabz, qacz, qadz, qaez, qajz, qakz, qalz, qamz, qanz, evOp, qaoz, qapz, qarz, qatz, qavz,
 ↓reduceIte, Nat.reduceEqDiff, Option.map_some, qazz, qbdz, qbhz, qbpz, qbyz, qcaz, qcfz, beq_true, beq_false, decide_true, Int.toNat_natCast, Int.ofNat_lt, Bool.false_eq_true, Int.reduceToNat, reduceCtorEq, Bool.not_true]
        exact loopQ_intro (m := l.length - (i + 1)) (by omega) (good (by simp [nmC, q1, q2]) _ h0 h6 rfl)
      · by_cases q3 : 48 ≤ c
        · by_cases q4 : c ≤ 57
          · simp (maxSteps := 1000000) (disch := omega) only [h0, h6, h7, hlt, idx_s, ← hc, q1, q2, q3, q4, add_n, qaaz, qabz, qacz, qadz, qaez, qajz, qakz, qalz, qamz, qanz, evOp, qaoz, qapz, qarz, qatz, qavz,
 ↓reduceIte, Nat.reduceEqDiff, Option.map_some, qazz, qbdz, qbhz, qbpz, qbyz, qcaz, qcfz, beq_true, beq_false, decide_true, decide_false,
 Int.toNat_natCast, Int.ofNat_lt, Bool.false_eq_true, Int.reduceToNat, reduceCtorEq, Bool.not_true, Bool.not_false]
            exact loopQ_intro (m := l.length - (i + 1)) (by omega) (good (by simp [nmC, q3, q4]) _ h0 h6 rfl)
          · by_cases q5 : c = 45
            · simp (maxSteps := 1000000) (disch := omega) only [h0, h6, h7, hlt, idx_s, ← hc, q1, q2, q3, q4, eq_true q5, add_n, qaaz, qabz, qacz, qadz, qaez, qajz, qakz, qalz, qamz, qanz, evOp, qaoz, qapz, qarz, qatz, qavz,
 ↓reduceIte, Nat.reduceEqDiff, Option.map_some, qazz, qbdz, qbhz, qbpz, qbvz, qbyz, qcaz, qcfz, beq_true, beq_false, decide_true, decide_false,
 Int.toNat_natCast, Int.ofNat_lt, Bool.false_eq_true, Int.reduceToNat, reduceCtorEq, Bool.not_true, Bool.not_false]
              exact loopQ_intro (m := l.length - (i + 1)) (by omega) (good (by simp [nmC, q5]) _ h0 h6 rfl)
            · simp (maxSteps := 1000000) (disch := omega) only [h0, h6, h7, hlt, idx_s, ← hc, q1, q2, q3, q4, q5, qaaz, qabz, qacz, qadz, qaez, qaiz, qajz, qakz, qalz, qamz, qanz, evOp, qaoz, qapz, qarz, qatz, qavz,
 ↓reduceIte, Nat.reduceEqDiff, Option.map_some, qazz, qbaz, qbez, qbhz, qbiz, qblz, qbpz, qbvz, qbyz, qcaz, qcfz, beq_true, beq_false, decide_true, decide_false,
 Int.toNat_natCast, Int.ofNat_lt, Bool.false_eq_true, reduceCtorEq, Bool.not_false]
              exact bad (by simp [nmC, q2, q4, q5]) _ rfl
        · by_cases q5 : c = 45
          · simp (maxSteps := 1000000) (disch := omega) only [h0, h6, h7, hlt, idx_s, ← hc, q1, q2, q3, eq_true q5, add_n, qaaz, qabz, qacz, qadz, qaez, qajz, qakz, qalz, qamz, qanz, evOp, qaoz, qapz, qarz, qatz, qavz,
 ↓reduceIte, Nat.reduceEqDiff, Option.map_some, qazz, qbdz, qbhz, qbpz, qbvz, qbyz, qcaz, qcfz, beq_true, beq_false, decide_true, decide_false,
 Int.toNat_natCast, Int.ofNat_lt, Bool.false_eq_true, Int.reduceToNat, reduceCtorEq, Bool.not_true, Bool.not_false]
            exact loopQ_intro (m := l.length - (i + 1)) (by omega) (good (by simp [nmC, q5]) _ h0 h6 rfl)
          · simp (maxSteps := 1000000) (disch := omega) only [h0, h6, h7, hlt, idx_s, ← hc, q1, q2, q3, q5, qaaz, qabz, qacz, qadz, qaez, qaiz, qajz, qakz, qalz, qamz, qanz, evOp, qaoz, qapz, qarz, qatz, qavz,
 ↓reduceIte, Nat.reduceEqDiff, Option.map_some, qazz, qbaz, qbez, qbhz, qbiz, qblz, qbpz, qbvz, qbyz, qcaz, qcfz, beq_true, beq_false, decide_true, decide_false,
 Int.toNat_natCast, Int.ofNat_lt, Bool.false_eq_true, reduceCtorEq, Bool.not_false]
            exact bad (by simp [nmC, q2, q3, q5]) _ rfl
    · by_cases q3 : 48 ≤ c
      · by_cases q4 : c ≤ 57
        · simp (maxSteps := 1000000) (disch := omega) only [h0, h6, h7, hlt, idx_s, ← hc, q1, q3, q4, add_n, qaaz, qabz, qacz, qadz, qaez, qajz, qakz, qalz, qamz, qanz, evOp, qaoz, qapz, qarz, qatz, qavz,
 ↓reduceIte, Nat.reduceEqDiff, Option.map_some, qazz, qbdz, qbhz, qbpz, qbyz, qcaz, qcfz, beq_true, beq_false, decide_true, decide_false,
 Int.toNat_natCast, Int.ofNat_lt, Bool.false_eq_true, Int.reduceToNat, reduceCtorEq, Bool.not_true, Bool.not_false]
          exact loopQ_intro (m := l.length - (i + 1)) (by omega) (good (by simp [nmC, q3, q4]) _ h0 h6 rfl)
        · by_cases q5 : c = 45
          · simp (maxSteps := 1000000) (disch := omega) only [h0, h6, h7, hlt, idx_s, ← hc, q1, q3, q4, eq_true q5, add_n, qaaz, qabz, qacz, qadz, qaez, qajz, qakz, qalz, qamz, qanz, evOp, qaoz, qapz, qarz, qatz, qavz,
 ↓reduceIte, Nat.reduceEqDiff, Option.map_some, qazz, qbdz, qbhz, qbpz, qbvz, qbyz, qcaz, qcfz, beq_true, beq_false, decide_true, decide_false,
 Int.toNat_natCast, Int.ofNat_lt, Bool.false_eq_true, Int.reduceToNat, reduceCtorEq, Bool.not_true, Bool.not_false]
            exact loopQ_intro (m := l.length - (i + 1)) (by omega) (good (by simp [nmC, q5]) _ h0 h6 rfl)
          · simp (maxSteps := 1000000) (disch := omega) only [h0, h6, h7, hlt, idx_s, ← hc, q1, q3, q4, q5, qaaz, qabz, qacz, qadz, qaez, qaiz, qajz, qakz, qalz, qamz, qanz, evOp, qaoz, qapz, qarz, qatz, qavz,
 ↓reduceIte, Nat.reduceEqDiff, Option.map_some, qazz, qbaz, qbez, qbhz, qbiz, qblz, qbpz, qbvz, qbyz, qcaz, qcfz, beq_true, beq_false, decide_true, decide_false,
 Int.toNat_natCast, Int.ofNat_lt, Bool.false_eq_true, reduceCtorEq, Bool.not_false]
            exact bad (by simp [nmC, q1, q4, q5]) _ rfl
      · by_cases q5 : c = 45
        · simp (maxSteps := 1000000) (disch := omega) only [h0, h6, h7, hlt, idx_s, ← hc, q1, q3, eq_true q5, add_n, qaaz, qabz, qacz, qadz, qaez, qajz, qakz, qalz, qamz, qanz, evOp, qaoz, qapz, qarz, qatz, qavz,
 ↓reduceIte, Nat.reduceEqDiff, Option.map_some, qazz, qbdz, qbhz, qbpz, qbvz, qcaz, qcfz, beq_true, beq_false, decide_true, decide_false,
 Int.toNat_natCast, Int.ofNat_lt, Bool.false_eq_true, Int.reduceToNat, reduceCtorEq, Bool.not_true, Bool.not_false]
          exact loopQ_intro (m := l.length - (i + 1)) (by omega) (good (by simp [nmC, q5]) _ h0 h6 rfl)
        · simp (maxSteps := 1000000) (disch := omega) only [h0, h6, h7, hlt, idx_s, ← hc, q1, q3, q5, qaaz, qabz, qacz, qadz, qaez, qaiz, qajz, qakz, qalz, qamz, qanz, evOp, qaoz, qapz, qarz, qatz, qavz,
 ↓reduceIte, Nat.reduceEqDiff, Option.map_some, qazz, qbaz, qbez, qbhz, qbiz, qblz, qbpz, qbvz, qcaz, qcfz, beq_true, beq_false, decide_true, decide_false,
 Int.toNat_natCast, Int.ofNat_lt, Bool.false_eq_true, reduceCtorEq, Bool.not_false]
          exact bad (by simp [nmC, q1, q3, q5]) _ rfl
  · obtain rfl : i = l.length := by omega
    have ha := all_getD (p := nmC) hall
    by_cases g0 : l = []
    · simp (maxSteps := 1000000) (disch := omega) only [h0, h6, h7, hlt, eq_true g0, qaaz, qabz, qacz, qagz, qaiz, qajz, qakz, qalz, qamz, qanz, evOp, qaoz, qapz, qarz, qatz, qavz,
 ↓reduceIte, Nat.reduceEqDiff, Option.map_some, qazz, qbbz, qbfz, qbhz, qbjz, qblz, qbpz, qccz, beq_true, decide_false,
 Int.ofNat_lt, Bool.false_eq_true, reduceCtorEq, ne_eq, not_true_eq_false]
      exact ⟨.bool false, rfl, by rw [show nmB l = false by simp [nmB, g0]]; exact hk.leave rfl (fun _ _ => rfl)⟩
    · have hp := List.length_pos_iff.2 g0
      by_cases g2 : l.length ≤ 64
      · have e2 : (l.length : Int) ≤ 64 := by omega
        simp (maxSteps := 1000000) (disch := omega) only [h0, h6, h7, hlt, g0, len_s, e2, qaaz, qabz, qacz, qagz, qaiz, qajz, qakz, qalz, qamz, qanz, evOp, qaoz, qapz, qarz, qatz, qavz,
 ↓reduceIte, Nat.reduceEqDiff, Option.map_some, qazz, qbbz, qbfz, qbhz, qbjz, qblz, qbpz, qbqz, qccz, beq_true, decide_true, decide_false,
 Int.ofNat_lt, Bool.false_eq_true, reduceCtorEq, ne_eq, not_false_eq_true]
        exact ⟨.bool true, rfl, by rw [show nmB l = true by simp only [nmB, ha, Bool.and_true, Bool.and_eq_true, decide_eq_true_eq]; omega]; exact hk.leave rfl (fun _ _ => rfl)⟩
      · have e2 : ¬ (l.length : Int) ≤ 64 := by omega
        simp (maxSteps := 1000000) (disch := omega) only [h0, h6, h7, hlt, g0, len_s, e2, qaaz, qabz, qacz, qagz, qaiz, qajz, qakz, qalz, qamz, qanz, evOp, qaoz, qapz, qarz, qatz, qavz,
 ↓reduceIte, Nat.reduceEqDiff, Option.map_some, qazz, qbbz, qbfz, qbhz, qbjz, qblz, qbpz, qbqz, qccz, beq_true, decide_true, decide_false,
 Int.ofNat_lt, Bool.false_eq_true, reduceCtorEq, ne_eq, not_false_eq_true]
        exact ⟨.bool false, rfl, by rw [show nmB l = false by simp [nmB, g2]]; exact hk.leave rfl (fun _ _ => rfl)⟩
theorem rNm_spec {l : List UInt8} (hl : l.length ≤ 1000000) : call prog (.fn 67 []) [.str l] st = some (.bool (nmB l), st) := by
  refine call_of_W prog_67 ?_
  unfold F_posthornref10_Name; dsimp only
  simp (maxSteps := 1000000) (disch := omega) only [qaaz, qabz, qadz, qajz, qalz, evOp, qapz, qarz, qatz, List.append_nil, qazz]
  obtain ⟨I, hI⟩ : ∃ I : Nat → Env → St → Prop, I = fun k e s' => ∃ (i : Nat), k = l.length - i ∧ i ≤ l.length ∧ Kept st s' ∧ (∀ j, j < i → nmC (l.getD j 0) = true) ∧ e 0 = .str l ∧ e 3 = .int .i64 (i : Int) := ⟨_, rfl⟩
  refine W_loop I ?_ (n := l.length) (by
    rw [hI]
    exact ⟨0, rfl, by omega, Kept.start, fun j h => by omega, rfl, rfl⟩)
  intro k e s' hh
  rw [hI] at hh
  obtain ⟨i, rfl, hi, hk, hall, h0, h7⟩ := hh
  by_cases hlt : i < l.length
  · obtain ⟨c, hc⟩ : ∃ c, c = l.getD i 0 := ⟨_, rfl⟩
    have bad : nmC c = false → ∀ E : Env, E 2 = .bool false → ∃ rv, resOf E s' [.tmp 2] = some rv ∧ leave st s' rv = (.bool (nmB l), st) := fun h E k2 =>
      ⟨.bool false, by simp [resOf, rvAll, rv1, k2, notTup, packRes], by
        rw [show nmB l = false by simp only [nmB, all_bad (p := nmC) hlt (by rw [← hc]; exact h), Bool.and_false]]
        exact hk.leave rfl (fun _ _ => rfl)⟩
    have good : nmC c = true → ∀ E : Env, E 0 = .str l → E 3 = .int .i64 ((i + 1 : Nat) : Int) → I (l.length - (i + 1)) E s' := fun h E k0 k7 => by
      rw [hI]
      refine ⟨i + 1, rfl, by omega, hk, fun j hj => ?_, k0, k7⟩
      by_cases hji : j = i
      · subst hji; rw [← hc]; exact h
      · exact hall j (by omega)
    by_cases q1 : 65 ≤ c
    · by_cases q2 : c ≤ 90
      · simp (maxSteps := 1000000) (disch := omega) only [h0, h7, len_s, hlt, idx_s, ← hc, q1, q2, add_n, qaaz, qabz, qacz, qadz, qaez, qajz, qakz, qalz, qamz, qanz, evOp, qaoz, qapz, qarz, qatz, qavz,
 ↓reduceIte, Nat.reduceEqDiff, Option.map_some, qazz, qbdz, qbhz, qbpz, qbyz, qcaz, qcfz, beq_true, beq_false, decide_true, Int.toNat_natCast, Int.ofNat_lt, Bool.false_eq_true, Int.reduceToNat, reduceCtorEq, Bool.not_true]
        exact loopQ_intro (m := l.length - (i + 1)) (by omega) (good (by simp [nmC, q1, q2]) _ h0 rfl)
      · by_cases q3 : 48 ≤ c
        · by_cases q4 : c ≤ 57
          · simp (maxSteps := 1000000) (disch := omega) only [h0, h7, len_s, hlt, idx_s, ← hc, q1, q2, q3, q4, add_n, qaaz, qabz, qacz, qadz, qaez, qajz, qakz, qalz, qamz, qanz, evOp, qaoz, qapz, qarz, qatz, qavz,
 ↓reduceIte, Nat.reduceEqDiff, Option.map_some, qazz, qbdz, qbhz, qbpz, qbyz, qcaz, qcfz, beq_true, beq_false, decide_true, decide_false,
 Int.toNat_natCast, Int.ofNat_lt, Bool.false_eq_true, Int.reduceToNat, reduceCtorEq, Bool.not_true, Bool.not_false]
            exact loopQ_intro (m := l.length - (i + 1)) (by omega) (good (by simp [nmC, q3, q4]) _ h0 rfl)
          · by_cases q5 : c = 45
            · simp (maxSteps := 1000000) (disch := omega) only [h0, h7, len_s, hlt, idx_s, ← hc, q1, q2, q3, q4, eq_true q5, add_n, qaaz, qabz, qacz, qadz, qaez, qajz, qakz, qalz, qamz, qanz, evOp, qaoz, qapz, qarz, qatz, qavz,
 ↓reduceIte, Nat.reduceEqDiff, Option.map_some, qazz, qbdz, qbhz, qbpz, qbvz, qbyz, qcaz, qcfz, beq_true, beq_false, decide_true, decide_false,
 Int.toNat_natCast, Int.ofNat_lt, Bool.false_eq_true, Int.reduceToNat, reduceCtorEq, Bool.not_true, Bool.not_false]
              exact loopQ_intro (m := l.length - (i + 1)) (by omega) (good (by simp [nmC, q5]) _ h0 rfl)
            · simp (maxSteps := 1000000) (disch := omega) only [h0, h7, len_s, hlt, idx_s, ← hc, q1, q2, q3, q4, q5, qaaz, qabz, qacz, qadz, qaez, qaiz, qajz, qakz, qalz, qamz, qanz, evOp, qaoz, qapz, qarz, qatz, qavz,
 ↓reduceIte, Nat.reduceEqDiff, Option.map_some, qazz, qbaz, qbez, qbhz, qbiz, qblz, qbpz, qbvz, qbyz, qcaz, qcfz, beq_true, beq_false, decide_true, decide_false,
 Int.toNat_natCast, Int.ofNat_lt, Bool.false_eq_true, reduceCtorEq, Bool.not_false]
              exact bad (by simp [nmC, q2, q4, q5]) _ rfl
        · by_cases q5 : c = 45
          · simp (maxSteps := 1000000) (disch := omega) only [h0, h7, len_s, hlt, idx_s, ← hc, q1, q2, q3, eq_true q5, add_n, qaaz, qabz, qacz, qadz, qaez, qajz, qakz, qalz, qamz, qanz, evOp, qaoz, qapz, qarz, qatz, qavz,
 ↓reduceIte, Nat.reduceEqDiff, Option.map_some, qazz, qbdz, qbhz, qbpz, qbvz, qbyz, qcaz, qcfz, beq_true, beq_false, decide_true, decide_false,
 Int.toNat_natCast, Int.ofNat_lt, Bool.false_eq_true, Int.reduceToNat, reduceCtorEq, Bool.not_true, Bool.not_false]
            exact loopQ_intro (m := l.length - (i + 1)) (by omega) (good (by simp [nmC, q5]) _ h0 rfl)
          · simp (maxSteps := 1000000) (disch := omega) only [h0, h7, len_s, hlt, idx_s, ← hc, q1, q2, q3, q5, qaaz, qabz, qacz, qadz, qaez, qaiz, qajz, qakz, qalz, qamz, qanz, evOp, qaoz, qapz, qarz, qatz, qavz,
 ↓reduceIte, Nat.reduceEqDiff, Option.map_some, qazz, qbaz, qbez, qbhz, qbiz, qblz, qbpz, qbvz, qbyz, qcaz, qcfz, beq_true, beq_false, decide_true, decide_false,
 Int.toNat_natCast, Int.ofNat_lt, Bool.false_eq_true, reduceCtorEq, Bool.not_false]
            exact bad (by simp [nmC, q2, q3, q5]) _ rfl
    · by_cases q3 : 48 ≤ c
      · by_cases q4 : c ≤ 57
        · simp (maxSteps := 1000000) (disch := omega) only [h0, h7, len_s, hlt, idx_s, ← hc, q1, q3, q4, add_n, qaaz, qabz, qacz, qadz, qaez, qajz, qakz, qalz, qamz, qanz, evOp, qaoz, qapz, qarz, qatz, qavz,
 ↓reduceIte, Nat.reduceEqDiff, Option.map_some, qazz, qbdz, qbhz, qbpz, qbyz, qcaz, qcfz, beq_true, beq_false, decide_true, decide_false,
 Int.toNat_natCast, Int.ofNat_lt, Bool.false_eq_true, Int.reduceToNat, reduceCtorEq, Bool.not_true, Bool.not_false]
          exact loopQ_intro (m := l.length - (i + 1)) (by omega) (good (by simp [nmC, q3, q4]) _ h0 rfl)
        · by_cases q5 : c = 45
          · simp (maxSteps := 1000000) (disch := omega) only [h0, h7, len_s, hlt, idx_s, ← hc, q1, q3, q4, eq_true q5, add_n, qaaz, qabz, qacz, qadz, qaez, qajz, qakz, qalz, qamz, qanz, evOp, qaoz, qapz, qarz, qatz, qavz,
 ↓reduceIte, Nat.reduceEqDiff, Option.map_some, qazz, qbdz, qbhz, qbpz, qbvz, qbyz, qcaz, qcfz, beq_true, beq_false, decide_true, decide_false,
 Int.toNat_natCast, Int.ofNat_lt, Bool.false_eq_true, Int.reduceToNat, reduceCtorEq, Bool.not_true, Bool.not_false]
            exact loopQ_intro (m := l.length - (i + 1)) (by omega) (good (by simp [nmC, q5]) _ h0 rfl)
          · simp (maxSteps := 1000000) (disch := omega) only [h0, h7, len_s, hlt, idx_s, ← hc, q1, q3, q4, q5, qaaz, qabz, qacz, qadz, qaez, qaiz, qajz, qakz, qalz, qamz, qanz, evOp, qaoz, qapz, qarz, qatz, qavz,
 ↓reduceIte, Nat.reduceEqDiff, Option.map_some, qazz, qbaz, qbez, qbhz, qbiz, qblz, qbpz, qbvz, qbyz, qcaz, qcfz, beq_true, beq_false, decide_true, decide_false,
 Int.toNat_natCast, Int.ofNat_lt, Bool.false_eq_true, reduceCtorEq, Bool.not_false]
            exact bad (by simp [nmC, q1, q4, q5]) _ rfl
      · by_cases q5 : c = 45
        · simp (maxSteps := 1000000) (disch := omega) only [h0, h7, len_s, hlt, idx_s, ← hc, q1, q3, eq_true q5, add_n, qaaz, qabz, qacz, qadz, qaez, qajz, qakz, qalz, qamz, qanz, evOp, qaoz, qapz, qarz, qatz, qavz,
 ↓reduceIte, Nat.reduceEqDiff, Option.map_some, qazz, qbdz, qbhz, qbpz, qbvz, qcaz, qcfz, beq_true, beq_false, decide_true, decide_false,
 Int.toNat_natCast, Int.ofNat_lt, Bool.false_eq_true, Int.reduceToNat, reduceCtorEq, Bool.not_true, Bool.not_false]
          exact loopQ_intro (m := l.length - (i + 1)) (by omega) (good (by simp [nmC, q5]) _ h0 rfl)
        · simp (maxSteps := 1000000) (disch := omega) only [h0, h7, len_s, hlt, idx_s, ← hc, q1, q3, q5, qaaz, qabz, qacz, qadz, qaez, qaiz, qajz, qakz, qalz, qamz, qanz, evOp, qaoz, qapz, qarz, qatz, qavz,
 ↓reduceIte, Nat.reduceEqDiff, Option.map_some, qazz, qbaz, qbez, qbhz, qbiz, qblz, qbpz, qbvz, qcaz, qcfz, beq_true, beq_false, decide_true, decide_false,
 Int.toNat_natCast, Int.ofNat_lt, Bool.false_eq_true, reduceCtorEq, Bool.not_false]
          exact bad (by simp [nmC, q1, q3, q5]) _ rfl
  · obtain rfl : i = l.length := by omega
    have ha := all_getD (p := nmC) hall
    by_cases g1 : 1 ≤ l.length
    · have e1 : (1 : Int) ≤ (l.length : Int) := by omega
      by_cases g2 : l.length ≤ 64
      · have e2 : (l.length : Int) ≤ 64 := by omega
        simp (maxSteps := 1000000) (disch := omega) only [h0, h7, hlt, len_s, e1, e2, qaaz, qabz, qacz, qagz, qaiz, qajz, qakz, qalz, qamz, qanz, evOp, qaoz, qapz, qarz, qatz, qavz,
 ↓reduceIte, Nat.reduceEqDiff, Option.map_some, qazz, qbbz, qbfz, qbhz, qbjz, qblz, qbpz, qbqz, qbsz, beq_true, decide_true, decide_false,
 Int.ofNat_lt, Bool.false_eq_true, reduceCtorEq]
        exact ⟨.bool true, rfl, by rw [show nmB l = true by simp only [nmB, ha, Bool.and_true, Bool.and_eq_true, decide_eq_true_eq]; omega]; exact hk.leave rfl (fun _ _ => rfl)⟩
      · have e2 : ¬ (l.length : Int) ≤ 64 := by omega
        simp (maxSteps := 1000000) (disch := omega) only [h0, h7, hlt, len_s, e1, e2, qaaz, qabz, qacz, qagz, qaiz, qajz, qakz, qalz, qamz, qanz, evOp, qaoz, qapz, qarz, qatz, qavz,
 ↓reduceIte, Nat.reduceEqDiff, Option.map_some, qazz, qbbz, qbfz, qbhz, qbjz, qblz, qbpz, qbqz, qbsz, beq_true, decide_true, decide_false,
 Int.ofNat_lt, Bool.false_eq_true, reduceCtorEq]
        exact ⟨.bool false, rfl, by rw [show nmB l = false by simp [nmB, g2]]; exact hk.leave rfl (fun _ _ => rfl)⟩
    · have e1 : ¬ (1 : Int) ≤ (l.length : Int) := by omega
      simp (maxSteps := 1000000) (disch := omega) only [h0, h7, hlt, len_s, e1, qaaz, qabz, qacz, qagz, qaiz, qajz, qakz, qalz, qamz, qanz, evOp, qaoz, qapz, qarz, qatz, qavz,
 ↓reduceIte, Nat.reduceEqDiff, Option.map_some, qazz, qbbz, qbfz, qbhz, qbjz, qblz, qbpz, qbsz, beq_true, decide_false,
 Int.ofNat_lt, Bool.false_eq_true, reduceCtorEq]
      exact ⟨.bool false, rfl, by rw [show nmB l = false by simp [nmB]; omega]; exact hk.leave rfl (fun _ _ => rfl)⟩

theorem sText_spec {l : List UInt8} {m : Nat} (hl : l.length ≤ 1000000) : call prog (.fn 65 []) [.str l, .int .i64 (m : Int)] st = some (.bool (txB l && decide (l.length ≤ m)), st) := by
  refine call_of_W prog_65 ?_
  unfold F_sheet_isText; dsimp only
  simp (maxSteps := 1000000) (disch := omega) only [len_s, qaaz, qabz, qadz, qajz, qalz, evOp, qaoz, qapz, qarz, qatz, qavz,
 ↓reduceIte, List.append_nil, qawz, Option.map_some, qazz, reduceCtorEq]
  obtain ⟨I, hI⟩ : ∃ I : Nat → Env → St → Prop, I = fun k e s' => ∃ (i : Nat), k = l.length - i ∧ i ≤ l.length ∧ Kept st s' ∧ (∀ j, j < i → txC (l.getD j 0) = true) ∧ e 0 = .str l ∧ e 1 = .int .i64 (m : Int) ∧ e 7 = .int .i64 (l.length : Int) ∧ e 8 = .int .i64 (i : Int) := ⟨_, rfl⟩
  refine W_loop I ?_ (n := l.length) (by
    rw [hI]
    exact ⟨0, rfl, by omega, Kept.start, fun j h => by omega, rfl, rfl, rfl, rfl⟩)
  intro k e s' hh
  rw [hI] at hh
  obtain ⟨i, rfl, hi, hk, hall, h0, h1, h7, h8⟩ := hh
  by_cases hlt : i < l.length
  · obtain ⟨c, hc⟩ : ∃ c, c = l.getD i 0 := ⟨_, rfl⟩
    have bad : txC c = false → ∀ E : Env, E 4 = .bool false → ∃ rv, resOf E s' [.tmp 4] = some rv ∧ leave st s' rv = (.bool (txB l && decide (l.length ≤ m)), st) := fun h E k2 =>
      ⟨.bool false, by simp [resOf, rvAll, rv1, k2, notTup, packRes], by
        rw [show txB l = false by simp only [txB, all_bad (p := txC) hlt (by rw [← hc]; exact h), Bool.false_and], Bool.false_and]
        exact hk.leave rfl (fun _ _ => rfl)⟩
    have good : txC c = true → ∀ E : Env, E 0 = .str l → E 1 = .int .i64 (m : Int) → E 7 = .int .i64 (l.length : Int) → E 8 = .int .i64 ((i + 1 : Nat) : Int) → I (l.length - (i + 1)) E s' := fun h E k0 k1 k7 k8 => by
      rw [hI]
      refine ⟨i + 1, rfl, by omega, hk, fun j hj => ?_, k0, k1, k7, k8⟩
      by_cases hji : j = i
      · subst hji; rw [← hc]; exact h
      · exact hall j (by omega)
    by_cases q1 : c < 32
    · by_cases q2 : c = 9
      · have q3 : ¬ c = 127 := by rintro rfl; exact absurd q1 (by decide)
        simp (maxSteps := 1000000) (disch := omega) only [h0, h7, h8, hlt, idx_s, ← hc, eq_true q1, eq_true q2, q3, add_n, qaaz, qabz, qacz, qadz, qaez, qajz, qakz, qalz, qamz, qanz, evOp, qaoz, qapz, qarz, qatz, qavz,
 ↓reduceIte, Nat.reduceEqDiff, Option.map_some, qazz, qbdz, qbhz, qbpz, qbvz, qbwz, qbxz, beq_true, beq_false, decide_true, decide_false,
 Int.toNat_natCast, Int.ofNat_lt, Bool.false_eq_true, Int.reduceToNat, reduceCtorEq, Bool.not_false, ne_eq, not_true_eq_false]
        exact loopQ_intro (m := l.length - (i + 1)) (by omega) (good (by simp [txC, q2]) _ h0 h1 h7 rfl)
      · simp (maxSteps := 1000000) (disch := omega) only [h0, h7, h8, hlt, idx_s, ← hc, eq_true q1, q2, qaaz, qabz, qacz, qadz, qaez, qaiz, qajz, qakz, qalz, qamz, qanz, evOp, qaoz, qapz, qarz, qatz, qavz,
 ↓reduceIte, Nat.reduceEqDiff, Option.map_some, qazz, qbaz, qbez, qbhz, qbiz, qblz, qbpz, qbwz, qbxz, beq_true, beq_false, decide_true, Int.toNat_natCast, Int.ofNat_lt, Bool.false_eq_true, reduceCtorEq, Bool.not_true, ne_eq, not_false_eq_true]
        exact bad (by simp [txC, q1, q2]) _ rfl
    · by_cases q3 : c = 127
      · simp (maxSteps := 1000000) (disch := omega) only [h0, h7, h8, hlt, idx_s, ← hc, q1, eq_true q3, qaaz, qabz, qacz, qadz, qaez, qaiz, qajz, qakz, qalz, qamz, qanz, evOp, qaoz, qapz, qarz, qatz, qavz,
 ↓reduceIte, Nat.reduceEqDiff, Option.map_some, qazz, qbaz, qbez, qbhz, qbiz, qblz, qbpz, qbvz, qbxz, beq_true, beq_false, decide_true, decide_false,
 Int.toNat_natCast, Int.ofNat_lt, Bool.false_eq_true, reduceCtorEq, Bool.not_false]
        exact bad (by simp [txC, q3]) _ rfl
      · simp (maxSteps := 1000000) (disch := omega) only [h0, h7, h8, hlt, idx_s, ← hc, q1, q3, add_n, qaaz, qabz, qacz, qadz, qaez, qajz, qakz, qalz, qamz, qanz, evOp, qaoz, qapz, qarz, qatz, qavz,
 ↓reduceIte, Nat.reduceEqDiff, Option.map_some, qazz, qbdz, qbhz, qbpz, qbvz, qbxz, beq_true, beq_false, decide_true, decide_false,
 Int.toNat_natCast, Int.ofNat_lt, Bool.false_eq_true, Int.reduceToNat, reduceCtorEq, Bool.not_false]
        exact loopQ_intro (m := l.length - (i + 1)) (by omega) (good (by simp [txC, q1, q3]) _ h0 h1 h7 rfl)
  · obtain rfl : i = l.length := by omega
    have ha := all_getD (p := txC) hall
    by_cases g1 : l.length ≤ m
    · have hv := uValid_spec (st := s'.tok1) (x := .bys (.own s'.toks.length) l) (l := l) rfl (by omega)
      simp (maxSteps := 1000000) (disch := omega) only [h0, h1, h7, h8, hlt, len_s, g1, freshT_eq, hv, qaaz, qabz, qacz, qagz, qaiz, qajz, qakz, qalz, qamz, qanz, evOp, qaoz, qaqz, qarz, qatz, qavz,
 ↓reduceIte, Nat.reduceEqDiff, List.map_cons, List.map_nil, Option.map_some, qazz, qbbz, qbfz, qbhz, qbjz, qblz, qbpz, qbqz, beq_true, decide_true, decide_false,
 Int.ofNat_lt, Int.ofNat_le, Bool.false_eq_true, reduceCtorEq]
      exact ⟨.bool (validOf l), rfl, by rw [show (txB l && true) = validOf l by simp [txB, ha]]; exact hk.tok1.leave rfl (fun _ _ => rfl)⟩
    · simp (maxSteps := 1000000) (disch := omega) only [h0, h1, h7, h8, hlt, len_s, g1, qaaz, qabz, qacz, qagz, qaiz, qajz, qakz, qalz, qamz, qanz, evOp, qaoz, qapz, qarz, qatz, qavz,
 ↓reduceIte, Nat.reduceEqDiff, Option.map_some, qazz, qbbz, qbfz, qbhz, qbjz, qblz, qbpz, qbqz, beq_true, decide_false,
 Int.ofNat_lt, Int.ofNat_le, Bool.false_eq_true, reduceCtorEq]
      exact ⟨.bool false, rfl, by rw [Bool.and_false]; exact hk.leave rfl (fun _ _ => rfl)⟩

theorem rText_spec {l : List UInt8} (hl : l.length ≤ 1000000) : call prog (.fn 68 []) [.str l] st = some (.bool (txB l), st) := by
  refine call_of_W prog_68 ?_
  unfold F_posthornref10_Text; dsimp only
  simp (maxSteps := 1000000) (disch := omega) only [qaaz, qabz, qadz, qajz, qalz, evOp, qapz, qarz, qatz, List.append_nil, qazz]
  obtain ⟨I, hI⟩ : ∃ I : Nat → Env → St → Prop, I = fun k e s' => ∃ (i : Nat), k = l.length - i ∧ i ≤ l.length ∧ Kept st s' ∧ (∀ j, j < i → txC (l.getD j 0) = true) ∧ e 0 = .str l ∧ e 3 = .int .i64 (i : Int) := ⟨_, rfl⟩
  refine W_loop I ?_ (n := l.length) (by
    rw [hI]
    exact ⟨0, rfl, by omega, Kept.start, fun j h => by omega, rfl, rfl⟩)
  intro k e s' hh
  rw [hI] at hh
  obtain ⟨i, rfl, hi, hk, hall, h0, h3⟩ := hh
  by_cases hlt : i < l.length
  · obtain ⟨c, hc⟩ : ∃ c, c = l.getD i 0 := ⟨_, rfl⟩
    have bad : txC c = false → ∀ E : Env, E 2 = .bool false → ∃ rv, resOf E s' [.tmp 2] = some rv ∧ leave st s' rv = (.bool (txB l), st) := fun h E k2 =>
      ⟨.bool false, by simp [resOf, rvAll, rv1, k2, notTup, packRes], by
        rw [show txB l = false by simp only [txB, all_bad (p := txC) hlt (by rw [← hc]; exact h), Bool.false_and]]
        exact hk.leave rfl (fun _ _ => rfl)⟩
    have good : txC c = true → ∀ E : Env, E 0 = .str l → E 3 = .int .i64 ((i + 1 : Nat) : Int) → I (l.length - (i + 1)) E s' := fun h E k0 k3 => by
      rw [hI]
      refine ⟨i + 1, rfl, by omega, hk, fun j hj => ?_, k0, k3⟩
      by_cases hji : j = i
      · subst hji; rw [← hc]; exact h
      · exact hall j (by omega)
    by_cases q3 : c = 127
    · simp (maxSteps := 1000000) (disch := omega) only [h0, h3, len_s, hlt, idx_s, ← hc, eq_true q3, qaaz, qabz, qacz, qadz, qaez, qaiz, qajz, qakz, qalz, qamz, qanz, evOp, qaoz, qapz, qarz, qatz, qavz,
 ↓reduceIte, Nat.reduceEqDiff, Option.map_some, qazz, qbaz, qbez, qbhz, qbiz, qblz, qbpz, qbvz, beq_false, decide_true, Int.toNat_natCast, Int.ofNat_lt, Bool.false_eq_true, reduceCtorEq, Bool.not_true]
      exact bad (by simp [txC, q3]) _ rfl
    by_cases q1 : c < 32
    · by_cases q2 : c = 9
      · simp (maxSteps := 1000000) (disch := omega) only [h0, h3, len_s, hlt, idx_s, ← hc, q3, eq_true q1, eq_true q2, add_n, qaaz, qabz, qacz, qadz, qaez, qajz, qakz, qalz, qamz, qanz, evOp, qaoz, qapz, qarz, qatz, qavz,
 ↓reduceIte, Nat.reduceEqDiff, Option.map_some, qazz, qbdz, qbhz, qbpz, qbvz, qbwz, qbxz, beq_true, beq_false, decide_true, decide_false,
 Int.toNat_natCast, Int.ofNat_lt, Bool.false_eq_true, Int.reduceToNat, reduceCtorEq, Bool.not_false, ne_eq, not_true_eq_false]
        exact loopQ_intro (m := l.length - (i + 1)) (by omega) (good (by simp [txC, q2]) _ h0 rfl)
      · simp (maxSteps := 1000000) (disch := omega) only [h0, h3, len_s, hlt, idx_s, ← hc, q3, eq_true q1, q2, qaaz, qabz, qacz, qadz, qaez, qaiz, qajz, qakz, qalz, qamz, qanz, evOp, qaoz, qapz, qarz, qatz, qavz,
 ↓reduceIte, Nat.reduceEqDiff, Option.map_some, qazz, qbaz, qbez, qbhz, qbiz, qblz, qbpz, qbvz, qbwz, qbxz, beq_true, beq_false, decide_true, decide_false,
 Int.toNat_natCast, Int.ofNat_lt, Bool.false_eq_true, reduceCtorEq, Bool.not_false, ne_eq, not_false_eq_true]
        exact bad (by simp [txC, q1, q2]) _ rfl
    · simp (maxSteps := 1000000) (disch := omega) only [h0, h3, len_s, hlt, idx_s, ← hc, q1, q3, add_n, qaaz, qabz, qacz, qadz, qaez, qajz, qakz, qalz, qamz, qanz, evOp, qaoz, qapz, qarz, qatz, qavz,
 ↓reduceIte, Nat.reduceEqDiff, Option.map_some, qazz, qbdz, qbhz, qbpz, qbvz, qbxz, beq_true, beq_false, decide_true, decide_false,
 Int.toNat_natCast, Int.ofNat_lt, Bool.false_eq_true, Int.reduceToNat, reduceCtorEq, Bool.not_false]
      exact loopQ_intro (m := l.length - (i + 1)) (by omega) (good (by simp [txC, q1, q3]) _ h0 rfl)
  · obtain rfl : i = l.length := by omega
    have ha := all_getD (p := txC) hall
    have hv := rValid_spec (st := s'.tok1) (x := .bys (.own s'.toks.length) l) (l := l) rfl (by omega)
    simp (maxSteps := 1000000) (disch := omega) only [h0, h3, hlt, len_s, freshT_eq, hv, qaaz, qabz, qacz, qagz, qaiz, qajz, qalz, evOp, qaoz, qaqz, qarz, qatz, qavz,
 ↓reduceIte, Nat.reduceEqDiff, List.map_cons, List.map_nil, Option.map_some, qazz, qbbz, qbfz, qbhz, qbjz, qblz, qbpz, decide_false,
 Int.ofNat_lt, Bool.false_eq_true, reduceCtorEq]
    exact ⟨.bool (validOf l), rfl, by rw [show txB l = validOf l by simp [txB, ha]]; exact hk.tok1.leave rfl (fun _ _ => rfl)⟩
end Go.Ab
/-
  Lines that may be.
-/
namespace Go.Ab
variable {st s : St} {e : Env}

structure Ln where
  n : List UInt8
  pv : PV
  ps : List Fld
  v : List UInt8
def lV (L : Ln) : PV := .agg [.str L.n, L.pv, .str L.v]
structure Ln.ok (L : Ln) : Prop where
  vs : L.pv.vs 2 = some (L.ps.map fV)
  ib : ∀ n, L.pv.inB n = true
  lf : leafOk L.pv = true
  tk : tokOf L.pv = none
  l1 : L.n.length ≤ 300
  l2 : L.v.length ≤ 5000
  l3 : L.ps.length ≤ 30
  l4 : ∀ p ∈ L.ps, p.1.length + p.2.length ≤ 500

structure Ln.okR (L : Ln) : Prop where
  vs : L.pv.vs 2 = some (L.ps.map fV)
  ib : ∀ n, L.pv.inB n = true
  lf : leafOk L.pv = true
  l1 : L.n.length ≤ 1000000
  l2 : L.v.length ≤ 1000000
  l3 : L.ps.length ≤ 1000000
  l4 : ∀ p ∈ L.ps, p.1.length + p.2.length ≤ 1000000
theorem Ln.ok.r {L : Ln} (h : L.ok) : L.okR := ⟨h.vs, h.ib, h.lf, by have := h.l1; omega, by have := h.l2; omega, by have := h.l3; omega, fun p hp => by have := h.l4 p hp; omega⟩

def parOK (p : Fld) : Prop := nmB p.1 = true ∧ txB p.2 = true ∧ p.2.length ≤ 256 ∧ hasB p.2 [34] = false
def rtP (L : Ln) : Prop := nmB L.n = true ∧ txB L.v = true ∧ L.v.length ≤ 4096 ∧ L.ps.length ≤ 16 ∧ (∀ i, i < L.ps.length → parOK (L.ps.getD i ([], []))) ∧ ∀ i, i < L.ps.length → ∀ k, k < i → (L.ps.getD k ([], [])).1 ≠ (L.ps.getD i ([], [])).1
noncomputable def rtB (L : Ln) : Bool := @decide (rtP L) (Classical.propDecidable _)
theorem rtB_true {L : Ln} (h : rtP L) : rtB L = true := by unfold rtB; simp [h]
theorem rtB_false {L : Ln} (h : ¬ rtP L) : rtB L = false := by unfold rtB; simp [h]

def At (s : St) (b : Nat) (cs : List PV) : Prop := s.boxes[b]? = some cs
theorem At.alloc {b : Nat} {cs z : List PV} {T : List Bool} {Lp : List LoopS} {lo : Nat} (h : At s b cs) : At ⟨s.boxes ++ [z], T, Lp, lo⟩ b cs := by
  unfold At at *
  have := (List.getElem?_eq_some_iff.1 h).1
  show (s.boxes ++ [z])[b]? = _
  rw [List.getElem?_append_left this]; exact h
theorem At.last {z : List PV} {T : List Bool} {Lp : List LoopS} {lo : Nat} : At ⟨s.boxes ++ [z], T, Lp, lo⟩ s.boxes.length z := by
  unfold At; simp
theorem At.load {b k : Nat} {cs : List PV} {v : PV} {r : List PV} (h : At s b cs) (hk : cs.drop k = v :: r) : loadPV s false 1 (.ptr b k) = some v := by
  unfold At at h
  simp [loadPV, h, hk, readCells]
theorem slc_vs {x : PV} {xs : List PV} {esz : Nat} {k : IntKind} {c : Nat} (h : x.vs esz = some xs) (he : esz ≠ 0) (hc : c ≤ xs.length) : ∃ y, slcPV esz x none (some (.int k (c : Int))) none = some y ∧ y.vs esz = some (xs.take c) := by
  rcases vs_cases h with ⟨rfl, rfl⟩ | ⟨t, rfl⟩
  · simp at hc; subst hc
    exact ⟨.nils, by simp [slcPV, bnd, intOf, he], by simp [PV.vs]⟩
  · exact ⟨.sl esz .no (xs.take c), by simp [slcPV, bnd, intOf, he, sufTok, hc], by simp [PV.vs]⟩

theorem box_l {L : Ln} (h : L.okR) {n : Nat} : (lV L).inB n = true ∧ (lV L).cells.all leafOk = true := by
  constructor
  · simp [lV, PV.inB, PV.inB.inBAll, h.ib]
  · show (leafOk (.str L.n) && (leafOk L.pv && (leafOk (.str L.v) && true))) = true
    rw [h.lf]; rfl

set_option maxHeartbeats 1000000 in
theorem sRightR_spec {L : Ln} (h : L.okR) : call prog (.fn 50 []) [lV L] st = some (.bool (rtB L), st) := by
  refine call_of_W prog_50 ?_
  unfold F_sheet_Right; dsimp only
  have hbx := box_l h (n := st.boxes.length)
  obtain ⟨q, hq⟩ : ∃ q, q = lV L := ⟨_, rfl⟩
  rw [← hq] at hbx
  have hqc : q.cells = [.str L.n, L.pv, .str L.v] := by rw [hq]; rfl
  rw [hqc] at hbx
  have hll := len_vs h.vs
  rw [List.length_map] at hll
  have hl3 := h.l3
  obtain ⟨b0, hb0⟩ : ∃ b0, b0 = st.boxes.length := ⟨_, rfl⟩
  refine W_cut (fun E S => Kept st S ∧ At S b0 [.str L.n, L.pv, .str L.v] ∧ E 1 = .ptr b0 0) ?_ ?_
  · rw [← hq]
    simp (maxSteps := 1000000) (disch := omega) only [hbx.1, hbx.2, and_self, allocPV, hqc, qabz, qajz, qalz, evOp, qaoz, qapz, qarz, qatz, qavz,
 ↓reduceIte, Nat.reduceEqDiff, List.append_nil, qawz, true_and]
    refine ⟨Kept.start.alloc, ?_, by rw [hb0]⟩
    rw [hb0]; exact At.last
  clear hbx hqc hq
  rintro e S ⟨hk, hA, h1⟩
  have fin : ∀ (E : Env) (S : St) (b : Bool), Kept st S → rtB L = b → E 2 = .bool b → ∃ rv, resOf E S [.tmp 2] = some rv ∧ leave st S rv = (.bool (rtB L), st) := fun E S b k1 hb k2 =>
    ⟨.bool b, by simp [resOf, rvAll, rv1, k2, notTup, packRes], by rw [hb]; exact k1.leave rfl (fun _ _ => rfl)⟩
  have hld1 := fun (S : St) (hA : At S b0 [.str L.n, L.pv, .str L.v]) => hA.load (k := 1) (v := L.pv) (r := [.str L.v]) rfl
  have hld0 := fun (S : St) (hA : At S b0 [.str L.n, L.pv, .str L.v]) => hA.load (k := 0) (v := .str L.n) (r := [L.pv, .str L.v]) rfl
  have hld2 := fun (S : St) (hA : At S b0 [.str L.n, L.pv, .str L.v]) => hA.load (k := 2) (v := .str L.v) (r := []) rfl
  simp (maxSteps := 1000000) (disch := omega) only [h1, faddrPV, Nat.zero_add, hld1 S hA, hll, qaaz, qabz, qadz, qajz, qalz, evOp, qaoz, qapz, qarz, qatz, qavz,
 ↓reduceIte, Option.map_some, qazz]
  obtain ⟨I, hI⟩ : ∃ I : Nat → Env → St → Prop, I = fun z E S => ∃ i, z = L.ps.length - i ∧ i ≤ L.ps.length ∧ Kept st S ∧ At S b0 [.str L.n, L.pv, .str L.v] ∧ (∀ j, j < i → parOK (L.ps.getD j ([], [])) ∧ ∀ k, k < j → (L.ps.getD k ([], [])).1 ≠ (L.ps.getD j ([], [])).1) ∧ E 1 = .ptr b0 0 ∧ E 8 = L.pv ∧ E 9 = .int .i64 (L.ps.length : Int) ∧ E 10 = .int .i64 (i : Int) := ⟨_, rfl⟩
  refine W_loop I ?_ (n := L.ps.length) (by
    rw [hI]
    exact ⟨0, rfl, by omega, hk, hA, fun j hj => by omega, h1, rfl, rfl, rfl⟩)
  clear hk hA h1
  intro z e S hh
  rw [hI] at hh
  obtain ⟨i, rfl, hi, hk, hA, hall, h1, h8, h9, h10⟩ := hh
  by_cases hlt : i < L.ps.length
  · obtain ⟨f, hfe⟩ : ∃ f, f = L.ps.getD i ([], []) := ⟨_, rfl⟩
    have hfm : f ∈ L.ps := by rw [hfe]; simp [List.getD, hlt]
    have hf4 := h.l4 f hfm
    have hnot : ¬ parOK f → ¬ rtP L := fun hn hp => hn (by rw [hfe]; exact hp.2.2.2.2.1 i hlt)
    have hnm : ∀ S : St, call prog (.fn 64 []) [.str f.1] S = some (.bool (nmB f.1), S) := fun S => sName_spec (by omega)
    have htx : ∀ S : St, call prog (.fn 65 []) [.str f.2, .int .i64 256] S = some (.bool (txB f.2 && decide (f.2.length ≤ 256)), S) := fun S => sText_spec (m := 256) (by omega)
    have hco : ∀ S : St, call prog (.fn 66 []) [.str f.2, .str [34]] S = some (.bool (hasB f.2 [34]), S) := fun S => Contains_spec (by omega)
    have hk2 := hk.alloc' (z := [.str f.1, .str f.2])
    have hA2 := hA.alloc (z := [.str f.1, .str f.2]) (T := S.toks) (Lp := S.loops) (lo := S.low)
    cases q1 : nmB f.1 with
    | false =>
      rw [q1] at hnm
      simp (maxSteps := 1000000) (disch := omega) only [h8, h9, h10, hlt, iaddr_f h.vs, ← hfe, load_f2, allocPV, store_f, faddrPV, Nat.add_zero, load_b0, hnm, qaaz, qabz, qacz, qadz, qaez, qaiz, qajz, qakz, qalz, qamz, qanz, evOp, qaoz, qapz, qaqz, qarz, qatz, qauz, qavz,
 ↓reduceIte, Nat.reduceEqDiff, List.map_cons, List.map_nil, Option.map_some, qazz, qbaz, qbez, qbhz, qbiz, qblz, qbpz, qcfz, beq_false, decide_true, Int.toNat_natCast, Int.ofNat_lt, Bool.false_eq_true, Bool.not_true, Bool.not_false]
      exact fin _ _ false hk2 (rtB_false (hnot fun hp => by rw [hp.1] at q1; cases q1)) rfl
    | true =>
    rw [q1] at hnm
    cases q2 : (txB f.2 && decide (f.2.length ≤ 256)) with
    | false =>
      rw [q2] at htx
      simp (maxSteps := 1000000) (disch := omega) only [h8, h9, h10, hlt, iaddr_f h.vs, ← hfe, load_f2, allocPV, store_f, faddrPV, Nat.add_zero, Nat.zero_add, load_b0, load_b1, hnm, htx, qaaz, qabz, qacz, qadz, qaez, qaiz, qajz, qakz, qalz, qamz, qanz, evOp, qaoz, qapz, qaqz, qarz, qatz, qauz, qavz,
 ↓reduceIte, Nat.reduceEqDiff, List.map_cons, List.map_nil, Option.map_some, qazz, qbaz, qbez, qbhz, qbiz, qblz, qbpz, qcfz, beq_false, decide_true, Int.toNat_natCast, Int.ofNat_lt, Bool.false_eq_true, Bool.not_true, Bool.not_false]
      exact fin _ _ false hk2 (rtB_false (hnot fun hp => by rw [hp.2.1] at q2; simp [hp.2.2.1] at q2)) rfl
    | true =>
    rw [q2] at htx
    cases q3 : hasB f.2 [34] with
    | true =>
      rw [q3] at hco
      simp (maxSteps := 1000000) (disch := omega) only [h8, h9, h10, hlt, iaddr_f h.vs, ← hfe, load_f2, allocPV, store_f, faddrPV, Nat.add_zero, Nat.zero_add, load_b0, load_b1, hnm, htx, hco, qaaz, qabz, qacz, qadz, qaez, qaiz, qajz, qakz, qalz, qamz, qanz, evOp, qaoz, qapz, qaqz, qarz, qatz, qauz, qavz,
 ↓reduceIte, Nat.reduceEqDiff, List.map_cons, List.map_nil, Option.map_some, qazz, qbaz, qbez, qbhz, qbiz, qblz, qbpz, qcfz, beq_false, decide_true, Int.toNat_natCast, Int.ofNat_lt, Bool.false_eq_true, Bool.not_true, Bool.not_false]
      exact fin _ _ false hk2 (rtB_false (hnot fun hp => by rw [hp.2.2.2] at q3; cases q3)) rfl
    | false =>
    rw [q3] at hco
    have hpar : parOK f := by
      simp only [Bool.and_eq_true, decide_eq_true_eq] at q2
      exact ⟨q1, q2.1, q2.2, q3⟩
    obtain ⟨y, hy1, hy2⟩ := slc_vs (k := .i64) (c := i) h.vs (by omega) (by simpa using hi)
    rw [← List.map_take] at hy2
    have hly := len_vs hy2
    rw [List.length_map, List.length_take, Nat.min_eq_left hi] at hly
    simp (maxSteps := 1000000) (disch := omega) only [h1, h8, h9, h10, hlt, iaddr_f h.vs, ← hfe, load_f2, allocPV, store_f, faddrPV, Nat.add_zero, Nat.zero_add, load_b0, load_b1, hnm, htx, hco, hld1 _ hA2, hy1, hly, qaaz, qabz, qacz, qadz, qaez, qajz, qakz, qalz, qamz, qanz, evOp, qaoz, qapz, qaqz, qarz, qatz, qauz, qavz,
 ↓reduceIte, Nat.reduceEqDiff, List.map_cons, List.map_nil, Option.map_some, Option.map_none, qazz, qbhz, qbpz, qcfz, beq_false, decide_true, Int.toNat_natCast, Int.ofNat_lt, Bool.false_eq_true, Bool.not_true, Bool.not_false]
    obtain ⟨b1, hb1⟩ : ∃ b1, b1 = S.boxes.length := ⟨_, rfl⟩
    obtain ⟨II, hII⟩ : ∃ II : Nat → Env → St → Prop, II = fun z E S => ∃ k, z = i - k ∧ k ≤ i ∧ Kept st S ∧ At S b0 [.str L.n, L.pv, .str L.v] ∧ At S b1 [.str f.1, .str f.2] ∧ (∀ j, j < k → (L.ps.getD j ([], [])).1 ≠ f.1) ∧ E 1 = .ptr b0 0 ∧ E 4 = .ptr b1 0 ∧ E 8 = L.pv ∧ E 9 = .int .i64 (L.ps.length : Int) ∧ E 10 = .int .i64 (i : Int) ∧ E 33 = y ∧ E 34 = .int .i64 (i : Int) ∧ E 35 = .int .i64 (k : Int) := ⟨_, rfl⟩
    refine W_loop II ?_ (n := i) (by
      rw [hII]
      exact ⟨0, rfl, by omega, hk2, hA2, by rw [hb1]; exact At.last, fun j hj => by omega, h1, by rw [hb1]; rfl, h8, h9, h10, rfl, rfl, rfl⟩)
    clear hk hA hk2 hA2 h1 h8 h9 h10
    intro z e S hh
    rw [hII] at hh
    obtain ⟨k, rfl, hki, hk, hA, hB, hdif, h1, h4, h8, h9, h10, h33, h34, h35⟩ := hh
    have hldB := hB.load (k := 0) (v := .str f.1) (r := [.str f.2]) rfl
    by_cases hkt : k < i
    · obtain ⟨g, hge⟩ : ∃ g, g = L.ps.getD k ([], []) := ⟨_, rfl⟩
      have hgt : (L.ps.take i).getD k ([], []) = g := by
        rw [hge]; simp [List.getD, hkt]
      have hiy := iaddr_f (k := .i64) (c := (k : Int)) hy2 (by omega) (by rw [Int.toNat_natCast, List.length_take, Nat.min_eq_left hi]; exact hkt)
      rw [Int.toNat_natCast, hgt] at hiy
      have hk3 := hk.alloc' (z := [.str g.1, .str g.2])
      have hA3 := hA.alloc (z := [.str g.1, .str g.2]) (T := S.toks) (Lp := S.loops) (lo := S.low)
      have hB3 := hB.alloc (z := [.str g.1, .str g.2]) (T := S.toks) (Lp := S.loops) (lo := S.low)
      have hldB3 := hB3.load (k := 0) (v := .str f.1) (r := [.str f.2]) rfl
      by_cases hgf : g.1 = f.1
      · simp (maxSteps := 1000000) (disch := omega) only [h4, h33, h34, h35, hkt, hiy, load_f2, allocPV, store_f, faddrPV, Nat.add_zero, load_b0, hldB3, eq_true hgf, qaaz, qabz, qacz, qadz, qaez, qaiz, qajz, qalz, evOp, qaoz, qapz, qarz, qatz, qauz, qavz,
 ↓reduceIte, Nat.reduceEqDiff, Option.map_some, qazz, qbaz, qbez, qbhz, qbiz, qblz, qbpz, qcbz, decide_true, Int.ofNat_lt]
        exact fin _ _ false hk3 (rtB_false fun hp => hp.2.2.2.2.2 i hlt k hkt (by rw [← hge, ← hfe]; exact hgf)) rfl
      · simp (maxSteps := 1000000) (disch := omega) only [h4, h33, h34, h35, hkt, hiy, load_f2, allocPV, store_f, faddrPV, Nat.add_zero, load_b0, hldB3, hgf, add_n, qaaz, qabz, qacz, qadz, qaez, qajz, qalz, evOp, qaoz, qapz, qarz, qatz, qauz, qavz,
 ↓reduceIte, Nat.reduceEqDiff, Option.map_some, qazz, qbdz, qbhz, qbpz, qcbz, decide_true, decide_false,
 Int.ofNat_lt, Bool.false_eq_true, Int.reduceToNat]
        refine loopQ_intro (m := i - (k + 1)) (by omega) ?_
        rw [hII]
        refine ⟨k + 1, rfl, by omega, hk3, hA3, hB3, fun j hj => ?_, h1, h4, h8, h9, h10, h33, h34, rfl⟩
        by_cases hjk : j = k
        · subst hjk; rw [← hge]; exact hgf
        · exact hdif j (by omega)
    · obtain rfl : k = i := by omega
      simp (maxSteps := 1000000) (disch := omega) only [h10, h34, h35, hkt, add_n, qaaz, qabz, qacz, qagz, qajz, qalz, evOp, qaoz, qapz, qarz, qatz, qavz,
 ↓reduceIte, Nat.reduceEqDiff, Option.map_some, qazz, qbbz, qbdz, qbfz, qbhz, qbjz, qbpz, decide_false,
 Int.ofNat_lt, Bool.false_eq_true, Int.reduceToNat]
      refine loopQ_intro (m := L.ps.length - (k + 1)) (by omega) ?_
      rw [hI]
      refine ⟨k + 1, rfl, by omega, hk, hA, fun j hj => ?_, h1, h8, h9, rfl⟩
      by_cases hji : j = k
      · subst hji
        refine ⟨by rw [← hfe]; exact hpar, fun k' hk' => by rw [← hfe]; exact hdif k' hk'⟩
      · exact hall j (by omega)
  · obtain rfl : i = L.ps.length := by omega
    have hnm : ∀ S : St, call prog (.fn 64 []) [.str L.n] S = some (.bool (nmB L.n), S) := fun S => sName_spec (by have := h.l1; omega)
    have htx : ∀ S : St, call prog (.fn 65 []) [.str L.v, .int .i64 4096] S = some (.bool (txB L.v && decide (L.v.length ≤ 4096)), S) := fun S => sText_spec (m := 4096) (by have := h.l2; omega)
    cases q1 : nmB L.n with
    | false =>
      rw [q1] at hnm
      simp (maxSteps := 1000000) (disch := omega) only [h1, h9, h10, hlt, faddrPV, Nat.zero_add, hld0 S hA, hnm, qaaz, qabz, qacz, qagz, qaiz, qajz, qakz, qalz, qamz, qanz, evOp, qaoz, qapz, qaqz, qarz, qatz, qavz,
 ↓reduceIte, Nat.reduceEqDiff, List.map_cons, List.map_nil, Option.map_some, qazz, qbbz, qbfz, qbhz, qbjz, qblz, qbpz, beq_true, decide_false,
 Int.ofNat_lt, Bool.false_eq_true]
      exact fin _ _ false hk (rtB_false fun hp => by rw [hp.1] at q1; cases q1) rfl
    | true =>
    rw [q1] at hnm
    cases q2 : (txB L.v && decide (L.v.length ≤ 4096)) with
    | false =>
      rw [q2] at htx
      simp (maxSteps := 1000000) (disch := omega) only [h1, h9, h10, hlt, faddrPV, Nat.zero_add, hld0 S hA, hld2 S hA, hnm, htx, qaaz, qabz, qacz, qagz, qaiz, qajz, qakz, qalz, qamz, qanz, evOp, qaoz, qapz, qaqz, qarz, qatz, qavz,
 ↓reduceIte, Nat.reduceEqDiff, List.map_cons, List.map_nil, Option.map_some, qazz, qbbz, qbfz, qbhz, qbjz, qblz, qbpz, beq_true, decide_false,
 Int.ofNat_lt, Bool.false_eq_true]
      exact fin _ _ false hk (rtB_false fun hp => by rw [hp.2.1] at q2; simp [hp.2.2.1] at q2) rfl
    | true =>
    rw [q2] at htx
    simp only [Bool.and_eq_true, decide_eq_true_eq] at q2
    by_cases q3 : L.ps.length ≤ 16
    · have e3 : (L.ps.length : Int) ≤ 16 := by omega
      simp (maxSteps := 1000000) (disch := omega) only [h1, h9, h10, hlt, faddrPV, Nat.zero_add, hld0 S hA, hld1 S hA, hld2 S hA, hnm, htx, hll, e3, qaaz, qabz, qacz, qagz, qaiz, qajz, qakz, qalz, qamz, qanz, evOp, qaoz, qapz, qaqz, qarz, qatz, qavz,
 ↓reduceIte, Nat.reduceEqDiff, List.map_cons, List.map_nil, Option.map_some, qazz, qbbz, qbfz, qbhz, qbjz, qblz, qbpz, qbqz, beq_true, decide_true, decide_false,
 Int.ofNat_lt, Bool.false_eq_true]
      exact fin _ _ true hk (rtB_true ⟨q1, q2.1, q2.2, q3, fun i hi => (hall i hi).1, fun i hi => (hall i hi).2⟩) rfl
    · have e3 : ¬ (L.ps.length : Int) ≤ 16 := by omega
      simp (maxSteps := 1000000) (disch := omega) only [h1, h9, h10, hlt, faddrPV, Nat.zero_add, hld0 S hA, hld1 S hA, hld2 S hA, hnm, htx, hll, e3, qaaz, qabz, qacz, qagz, qaiz, qajz, qakz, qalz, qamz, qanz, evOp, qaoz, qapz, qaqz, qarz, qatz, qavz,
 ↓reduceIte, Nat.reduceEqDiff, List.map_cons, List.map_nil, Option.map_some, qazz, qbbz, qbfz, qbhz, qbjz, qblz, qbpz, qbqz, beq_true, decide_false,
 Int.ofNat_lt, Bool.false_eq_true]
      exact fin _ _ false hk (rtB_false fun hp => q3 hp.2.2.2.1) rfl
theorem sRight_spec {L : Ln} (h : L.ok) : call prog (.fn 50 []) [lV L] st = some (.bool (rtB L), st) := sRightR_spec h.r
end Go.Ab
/-
  Lines that may be, by the document.
-/
namespace Go.Ab
variable {st s : St} {e : Env}

theorem load_ch {a : PV} {r : List PV} : loadPV st false 1 (.cp (a :: r)) = some a := rfl

set_option maxHeartbeats 1000000 in
theorem rRightR_spec {L : Ln} (h : L.okR) : call prog (.fn 51 []) [lV L] st = some (.bool (rtB L), st) := by
  refine call_of_W prog_51 ?_
  unfold F_posthornref10_Right; dsimp only
  have hbx := box_l h (n := st.boxes.length)
  obtain ⟨q, hq⟩ : ∃ q, q = lV L := ⟨_, rfl⟩
  rw [← hq] at hbx
  have hqc : q.cells = [.str L.n, L.pv, .str L.v] := by rw [hq]; rfl
  rw [hqc] at hbx
  have hll := len_vs h.vs
  rw [List.length_map] at hll
  have hl3 := h.l3
  obtain ⟨b0, hb0⟩ : ∃ b0, b0 = st.boxes.length := ⟨_, rfl⟩
  refine W_cut (fun E S => Kept st S ∧ At S b0 [.str L.n, L.pv, .str L.v] ∧ E 1 = .ptr b0 0) ?_ ?_
  · rw [← hq]
    simp (maxSteps := 1000000) (disch := omega) only [hbx.1, hbx.2, and_self, allocPV, hqc, qabz, qajz, qalz, evOp, qaoz, qapz, qarz, qatz, qavz,
 ↓reduceIte, Nat.reduceEqDiff, List.append_nil, qawz, true_and]
    refine ⟨Kept.start.alloc, ?_, by rw [hb0]⟩
    rw [hb0]; exact At.last
  clear hbx hqc hq
  rintro e S ⟨hk, hA, h1⟩
  have fin : ∀ (E : Env) (S : St) (b : Bool), Kept st S → rtB L = b → E 2 = .bool b → ∃ rv, resOf E S [.tmp 2] = some rv ∧ leave st S rv = (.bool (rtB L), st) := fun E S b k1 hb k2 =>
    ⟨.bool b, by simp [resOf, rvAll, rv1, k2, notTup, packRes], by rw [hb]; exact k1.leave rfl (fun _ _ => rfl)⟩
  have hld1 := fun (S : St) (hA : At S b0 [.str L.n, L.pv, .str L.v]) => hA.load (k := 1) (v := L.pv) (r := [.str L.v]) rfl
  have hld0 := fun (S : St) (hA : At S b0 [.str L.n, L.pv, .str L.v]) => hA.load (k := 0) (v := .str L.n) (r := [L.pv, .str L.v]) rfl
  have hld2 := fun (S : St) (hA : At S b0 [.str L.n, L.pv, .str L.v]) => hA.load (k := 2) (v := .str L.v) (r := []) rfl
  have hnm : ∀ S : St, call prog (.fn 67 []) [.str L.n] S = some (.bool (nmB L.n), S) := fun S => rNm_spec (by have := h.l1; omega)
  have htx : ∀ S : St, call prog (.fn 68 []) [.str L.v] S = some (.bool (txB L.v), S) := fun S => rText_spec (by have := h.l2; omega)
  cases q1 : nmB L.n with
  | false =>
    rw [q1] at hnm
    simp (maxSteps := 1000000) (disch := omega) only [h1, faddrPV, Nat.zero_add, hld0 S hA, hnm, qaaz, qabz, qacz, qaiz, qajz, qakz, qalz, qamz, qanz, evOp, qaoz, qapz, qaqz, qarz, qatz, qavz,
 ↓reduceIte, Nat.reduceEqDiff, List.map_cons, List.map_nil, Option.map_some, qazz, qbaz, qbhz, qblz, qcfz, beq_false, Bool.false_eq_true, Bool.not_true, Bool.not_false]
    exact fin _ _ false hk (rtB_false fun hp => by rw [hp.1] at q1; cases q1) rfl
  | true =>
  rw [q1] at hnm
  cases q2 : txB L.v with
  | false =>
    rw [q2] at htx
    simp (maxSteps := 1000000) (disch := omega) only [h1, faddrPV, Nat.zero_add, hld0 S hA, hld2 S hA, hnm, htx, qaaz, qabz, qacz, qaiz, qajz, qakz, qalz, qamz, qanz, evOp, qaoz, qapz, qaqz, qarz, qatz, qavz,
 ↓reduceIte, Nat.reduceEqDiff, List.map_cons, List.map_nil, Option.map_some, qazz, qbaz, qbhz, qblz, qcfz, beq_false, Bool.false_eq_true, Bool.not_true, Bool.not_false]
    exact fin _ _ false hk (rtB_false fun hp => by rw [hp.2.1] at q2; cases q2) rfl
  | true =>
  rw [q2] at htx
  by_cases q3 : 4096 < L.v.length
  · have e3 : (4096 : Int) < (L.v.length : Int) := by omega
    simp (maxSteps := 1000000) (disch := omega) only [h1, faddrPV, Nat.zero_add, hld0 S hA, hld2 S hA, hnm, htx, len_s, e3, qaaz, qabz, qacz, qaiz, qajz, qakz, qalz, qamz, qanz, evOp, qaoz, qapz, qaqz, qarz, qatz, qavz,
 ↓reduceIte, Nat.reduceEqDiff, List.map_cons, List.map_nil, Option.map_some, qazz, qbaz, qbhz, qblz, qbrz, qcfz, beq_false, decide_true, Bool.false_eq_true, Bool.not_true, Bool.not_false]
    exact fin _ _ false hk (rtB_false fun hp => by have := hp.2.2.1; omega) rfl
  have e3 : ¬ (4096 : Int) < (L.v.length : Int) := by omega
  by_cases q4 : 16 < L.ps.length
  · have e4 : (16 : Int) < (L.ps.length : Int) := by omega
    simp (maxSteps := 1000000) (disch := omega) only [h1, faddrPV, Nat.zero_add, hld0 S hA, hld1 S hA, hld2 S hA, hnm, htx, hll, len_s, e3, e4, qaaz, qabz, qacz, qaiz, qajz, qakz, qalz, qamz, qanz, evOp, qaoz, qapz, qaqz, qarz, qatz, qavz,
 ↓reduceIte, Nat.reduceEqDiff, List.map_cons, List.map_nil, Option.map_some, qazz, qbaz, qbhz, qblz, qbrz, qcfz, beq_false, decide_true, decide_false,
 Bool.false_eq_true, Bool.not_true, Bool.not_false]
    exact fin _ _ false hk (rtB_false fun hp => by have := hp.2.2.2.1; omega) rfl
  have e4 : ¬ (16 : Int) < (L.ps.length : Int) := by omega
  simp (maxSteps := 1000000) (disch := omega) only [h1, faddrPV, Nat.zero_add, hld0 S hA, hld1 S hA, hld2 S hA, hnm, htx, hll, len_s, e3, e4, qaaz, qabz, qacz, qadz, qaez, qajz, qakz, qalz, qamz, qanz, evOp, qaoz, qapz, qaqz, qarz, qatz, qavz,
 ↓reduceIte, Nat.reduceEqDiff, List.map_cons, List.map_nil, Option.map_some, qazz, qbhz, qbrz, qcfz, beq_false, decide_false,
 Bool.false_eq_true, Bool.not_true, Bool.not_false]
  obtain ⟨I, hI⟩ : ∃ I : Nat → Env → St → Prop, I = fun z E S => ∃ i, z = L.ps.length - i ∧ i ≤ L.ps.length ∧ Kept st S ∧ At S b0 [.str L.n, L.pv, .str L.v] ∧ (∀ j, j < i → parOK (L.ps.getD j ([], [])) ∧ ∀ k, k < j → (L.ps.getD k ([], [])).1 ≠ (L.ps.getD j ([], [])).1) ∧ E 1 = .ptr b0 0 ∧ E 3 = .int .i64 (i : Int) := ⟨_, rfl⟩
  refine W_loop I ?_ (n := L.ps.length) (by
    rw [hI]
    exact ⟨0, rfl, by omega, hk, hA, fun j hj => by omega, h1, rfl⟩)
  clear hk hA h1
  intro z e S hh
  rw [hI] at hh
  obtain ⟨i, rfl, hi, hk, hA, hall, h1, h3⟩ := hh
  by_cases hlt : i < L.ps.length
  · obtain ⟨f, hfe⟩ : ∃ f, f = L.ps.getD i ([], []) := ⟨_, rfl⟩
    have hfm : f ∈ L.ps := by rw [hfe]; simp [List.getD, hlt]
    have hf4 := h.l4 f hfm
    have hnot : ¬ parOK f → ¬ rtP L := fun hn hp => hn (by rw [hfe]; exact hp.2.2.2.2.1 i hlt)
    have hnm2 : ∀ S : St, call prog (.fn 67 []) [.str f.1] S = some (.bool (nmB f.1), S) := fun S => rNm_spec (by omega)
    have htx2 : ∀ S : St, call prog (.fn 68 []) [.str f.2] S = some (.bool (txB f.2), S) := fun S => rText_spec (by omega)
    have hco : ∀ S : St, call prog (.fn 56 []) [.str f.2, .str [34]] S = some (.bool (hasB f.2 [34]), S) := fun S => Has_spec (by omega) (by simp)
    have hk2 := hk.alloc' (z := [.str f.1, .str f.2])
    have hA2 := hA.alloc (z := [.str f.1, .str f.2]) (T := S.toks) (Lp := S.loops) (lo := S.low)
    cases p1 : nmB f.1 with
    | false =>
      rw [p1] at hnm2
      simp (maxSteps := 1000000) (disch := omega) only [h1, h3, hld1 S hA, hll, hlt, iaddr_f h.vs, ← hfe, load_f2, allocPV, store_f, faddrPV, Nat.add_zero, Nat.zero_add, load_b0, hnm2, qaaz, qabz, qacz, qadz, qaez, qaiz, qajz, qakz, qalz, qamz, qanz, evOp, qaoz, qapz, qaqz, qarz, qatz, qauz, qavz,
 ↓reduceIte, Nat.reduceEqDiff, List.map_cons, List.map_nil, Option.map_some, qazz, qbaz, qbez, qbhz, qbiz, qblz, qbpz, qcfz, beq_false, decide_true, Int.toNat_natCast, Int.ofNat_lt, Bool.false_eq_true, Bool.not_true, Bool.not_false]
      exact fin _ _ false hk2 (rtB_false (hnot fun hp => by rw [hp.1] at p1; cases p1)) rfl
    | true =>
    rw [p1] at hnm2
    cases p2 : txB f.2 with
    | false =>
      rw [p2] at htx2
      simp (maxSteps := 1000000) (disch := omega) only [h1, h3, hld1 S hA, hll, hlt, iaddr_f h.vs, ← hfe, load_f2, allocPV, store_f, faddrPV, Nat.add_zero, Nat.zero_add, load_b0, load_b1, hnm2, htx2, qaaz, qabz, qacz, qadz, qaez, qaiz, qajz, qakz, qalz, qamz, qanz, evOp, qaoz, qapz, qaqz, qarz, qatz, qauz, qavz,
 ↓reduceIte, Nat.reduceEqDiff, List.map_cons, List.map_nil, Option.map_some, qazz, qbaz, qbez, qbhz, qbiz, qblz, qbpz, qcfz, beq_false, decide_true, Int.toNat_natCast, Int.ofNat_lt, Bool.false_eq_true, Bool.not_true, Bool.not_false]
      exact fin _ _ false hk2 (rtB_false (hnot fun hp => by rw [hp.2.1] at p2; cases p2)) rfl
    | true =>
    rw [p2] at htx2
    by_cases p3 : 256 < f.2.length
    · have g3 : (256 : Int) < (f.2.length : Int) := by omega
      simp (maxSteps := 1000000) (disch := omega) only [h1, h3, hld1 S hA, hll, hlt, iaddr_f h.vs, ← hfe, load_f2, allocPV, store_f, faddrPV, Nat.add_zero, Nat.zero_add, load_b0, load_b1, hnm2, htx2, len_s, g3, qaaz, qabz, qacz, qadz, qaez, qaiz, qajz, qakz, qalz, qamz, qanz, evOp, qaoz, qapz, qaqz, qarz, qatz, qauz, qavz,
 ↓reduceIte, Nat.reduceEqDiff, List.map_cons, List.map_nil, Option.map_some, qazz, qbaz, qbez, qbhz, qbiz, qblz, qbpz, qbrz, qcfz, beq_false, decide_true, Int.toNat_natCast, Int.ofNat_lt, Bool.false_eq_true, Bool.not_true, Bool.not_false]
      exact fin _ _ false hk2 (rtB_false (hnot fun hp => by have := hp.2.2.1; omega)) rfl
    have g3 : ¬ (256 : Int) < (f.2.length : Int) := by omega
    cases p4 : hasB f.2 [34] with
    | true =>
      rw [p4] at hco
      simp (maxSteps := 1000000) (disch := omega) only [h1, h3, hld1 S hA, hll, hlt, iaddr_f h.vs, ← hfe, load_f2, allocPV, store_f, faddrPV, Nat.add_zero, Nat.zero_add, load_b0, load_b1, hnm2, htx2, len_s, g3, hco, qaaz, qabz, qacz, qadz, qaez, qaiz, qajz, qakz, qalz, qamz, qanz, evOp, qaoz, qapz, qaqz, qarz, qatz, qauz, qavz,
 ↓reduceIte, Nat.reduceEqDiff, List.map_cons, List.map_nil, Option.map_some, qazz, qbaz, qbez, qbhz, qbiz, qblz, qbpz, qbrz, qcfz, beq_false, decide_true, decide_false,
 Int.toNat_natCast, Int.ofNat_lt, Bool.false_eq_true, Bool.not_true, Bool.not_false]
      exact fin _ _ false hk2 (rtB_false (hnot fun hp => by rw [hp.2.2.2] at p4; cases p4)) rfl
    | false =>
    rw [p4] at hco
    have hpar : parOK f := ⟨p1, p2, by omega, p4⟩
    simp (maxSteps := 1000000) (disch := omega) only [h1, h3, hld1 S hA, hll, hlt, iaddr_f h.vs, ← hfe, load_f2, allocPV, store_f, faddrPV, Nat.add_zero, Nat.zero_add, load_b0, load_b1, hnm2, htx2, len_s, g3, hco, qaaz, qabz, qacz, qadz, qaez, qajz, qakz, qalz, qamz, qanz, evOp, qaoz, qapz, qaqz, qarz, qatz, qauz, qavz,
 ↓reduceIte, Nat.reduceEqDiff, List.map_cons, List.map_nil, Option.map_some, qazz, qbhz, qbpz, qbrz, qcfz, beq_false, decide_true, decide_false,
 Int.toNat_natCast, Int.ofNat_lt, Bool.false_eq_true, Bool.not_true, Bool.not_false]
    obtain ⟨b1, hb1⟩ : ∃ b1, b1 = S.boxes.length := ⟨_, rfl⟩
    obtain ⟨II, hII⟩ : ∃ II : Nat → Env → St → Prop, II = fun z E S => ∃ k, z = i - k ∧ k ≤ i ∧ Kept st S ∧ At S b0 [.str L.n, L.pv, .str L.v] ∧ At S b1 [.str f.1, .str f.2] ∧ (∀ j, j < k → (L.ps.getD j ([], [])).1 ≠ f.1) ∧ E 1 = .ptr b0 0 ∧ E 4 = .ptr b1 0 ∧ E 3 = .int .i64 (i : Int) ∧ E 5 = .int .i64 (k : Int) := ⟨_, rfl⟩
    refine W_loop II ?_ (n := i) (by
      rw [hII]
      exact ⟨0, rfl, by omega, hk2, hA2, by rw [hb1]; exact At.last, fun j hj => by omega, h1, by rw [hb1]; rfl, h3, rfl⟩)
    clear hk hA hk2 hA2 h1 h3
    intro z e S hh
    rw [hII] at hh
    obtain ⟨k, rfl, hki, hk, hA, hB, hdif, h1, h4, h3, h5⟩ := hh
    have hldB := hB.load (k := 0) (v := .str f.1) (r := [.str f.2]) rfl
    by_cases hkt : k < i
    · obtain ⟨g, hge⟩ : ∃ g, g = L.ps.getD k ([], []) := ⟨_, rfl⟩
      have hiy := iaddr_f (k := .i64) (c := (k : Int)) h.vs (by omega) (by rw [Int.toNat_natCast]; omega)
      rw [Int.toNat_natCast, ← hge] at hiy
      by_cases hgf : g.1 = f.1
      · simp (maxSteps := 1000000) (disch := omega) only [h1, h3, h4, h5, hkt, hld1 S hA, hiy, faddrPV, List.drop_zero, load_ch, Nat.add_zero, Nat.zero_add, hldB, eq_true hgf, qaaz, qabz, qacz, qadz, qaez, qaiz, qajz, qalz, evOp, qaoz, qapz, qarz, qatz, qavz,
 ↓reduceIte, Nat.reduceEqDiff, Option.map_some, qazz, qbaz, qbez, qbhz, qbiz, qblz, qbpz, qcbz, decide_true, Int.ofNat_lt]
        exact fin _ _ false hk (rtB_false fun hp => hp.2.2.2.2.2 i hlt k hkt (by rw [← hge, ← hfe]; exact hgf)) rfl
      · simp (maxSteps := 1000000) (disch := omega) only [h1, h3, h4, h5, hkt, hld1 S hA, hiy, faddrPV, List.drop_zero, load_ch, Nat.add_zero, Nat.zero_add, hldB, hgf, add_n, qaaz, qabz, qacz, qadz, qaez, qajz, qalz, evOp, qaoz, qapz, qarz, qatz, qavz,
 ↓reduceIte, Nat.reduceEqDiff, Option.map_some, qazz, qbdz, qbhz, qbpz, qcbz, decide_true, decide_false,
 Int.ofNat_lt, Bool.false_eq_true, Int.reduceToNat]
        refine loopQ_intro (m := i - (k + 1)) (by omega) ?_
        rw [hII]
        refine ⟨k + 1, rfl, by omega, hk, hA, hB, fun j hj => ?_, h1, h4, h3, rfl⟩
        by_cases hjk : j = k
        · subst hjk; rw [← hge]; exact hgf
        · exact hdif j (by omega)
    · obtain rfl : k = i := by omega
      simp (maxSteps := 1000000) (disch := omega) only [h3, h5, hkt, add_n, qaaz, qabz, qacz, qagz, qajz, qalz, evOp, qaoz, qapz, qarz, qatz, qavz,
 ↓reduceIte, Nat.reduceEqDiff, Option.map_some, qazz, qbbz, qbdz, qbfz, qbhz, qbjz, qbpz, decide_false,
 Int.ofNat_lt, Bool.false_eq_true, Int.reduceToNat]
      refine loopQ_intro (m := L.ps.length - (k + 1)) (by omega) ?_
      rw [hI]
      refine ⟨k + 1, rfl, by omega, hk, hA, fun j hj => ?_, h1, rfl⟩
      by_cases hji : j = k
      · subst hji
        exact ⟨by rw [← hfe]; exact hpar, fun k' hk' => by rw [← hfe]; exact hdif k' hk'⟩
      · exact hall j (by omega)
  · obtain rfl : i = L.ps.length := by omega
    simp (maxSteps := 1000000) (disch := omega) only [h1, h3, faddrPV, Nat.zero_add, hld1 S hA, hll, hlt, qaaz, qabz, qacz, qagz, qaiz, qajz, qalz, evOp, qaoz, qapz, qarz, qatz, qavz,
 ↓reduceIte, Nat.reduceEqDiff, Option.map_some, qazz, qbbz, qbfz, qbhz, qbjz, qblz, qbpz, decide_false,
 Int.ofNat_lt, Bool.false_eq_true]
    exact fin _ _ true hk (rtB_true ⟨q1, q2, by omega, by omega, fun i hi => (hall i hi).1, fun i hi => (hall i hi).2⟩) rfl

def quoteOf (v : List UInt8) : List UInt8 := if hasB v [59] = true ∨ hasB v [58] = true ∨ hasB v [44] = true then 34 :: (v ++ [34]) else v
def parOf (p : Fld) : List UInt8 := 59 :: (p.1 ++ 61 :: quoteOf p.2)
def textOfL (L : Ln) : List UInt8 := L.n ++ L.ps.flatMap parOf ++ 58 :: L.v
theorem rRight_spec {L : Ln} (h : L.ok) : call prog (.fn 51 []) [lV L] st = some (.bool (rtB L), st) := rRightR_spec h.r
end Go.Ab
/-
  A line as a text.
-/
namespace Go.Ab
variable {st s : St} {e : Env}

theorem quote_len {v : List UInt8} : (quoteOf v).length ≤ v.length + 2 := by
  unfold quoteOf; split <;> simp
theorem parOf_len {p : Fld} : (parOf p).length ≤ p.1.length + p.2.length + 4 := by
  have := quote_len (v := p.2)
  unfold parOf; simp; omega
theorem pars_len : ∀ {ps : List Fld}, (∀ p ∈ ps, p.1.length + p.2.length ≤ 500) → (ps.flatMap parOf).length ≤ ps.length * 600 := by
  intro ps
  induction ps with
  | nil => intro _; simp
  | cons p r ih =>
    intro h
    have h1 := h p (by simp)
    have h2 := parOf_len (p := p)
    have h3 := ih (fun q hq => h q (by simp [hq]))
    simp only [List.flatMap_cons, List.length_append, List.length_cons]
    omega
theorem textL_len {L : Ln} (h : L.ok) : (textOfL L).length ≤ 23400 := by
  have h1 := pars_len h.l4
  have h2 := h.l1; have h3 := h.l2; have h4 := h.l3
  unfold textOfL
  simp only [List.length_append, List.length_cons]
  omega

set_option maxHeartbeats 1000000 in
theorem line_spec {L : Ln} (h : L.ok) : call prog (.fn 60 []) [lV L] st = some (.str (textOfL L), st) := by
  refine call_of_W prog_60 ?_
  unfold F_sheet_line; dsimp only
  have hbx := box_l h.r (n := st.boxes.length)
  obtain ⟨q, hq⟩ : ∃ q, q = lV L := ⟨_, rfl⟩
  rw [← hq] at hbx
  have hqc : q.cells = [.str L.n, L.pv, .str L.v] := by rw [hq]; rfl
  rw [hqc] at hbx
  have hll := len_vs h.vs
  rw [List.length_map] at hll
  have hl1 := h.l1; have hl2 := h.l2; have hl3 := h.l3
  obtain ⟨b0, hb0⟩ : ∃ b0, b0 = st.boxes.length := ⟨_, rfl⟩
  refine W_cut (fun E S => Kept st S ∧ At S b0 [.str L.n, L.pv, .str L.v] ∧ E 1 = .ptr b0 0) ?_ ?_
  · rw [← hq]
    simp (maxSteps := 1000000) (disch := omega) only [hbx.1, hbx.2, and_self, allocPV, hqc, qabz, qajz, qalz, evOp, qaoz, qapz, qarz, qatz, qavz,
 ↓reduceIte, Nat.reduceEqDiff, List.append_nil, qawz, true_and]
    refine ⟨Kept.start.alloc, ?_, by rw [hb0]⟩
    rw [hb0]; exact At.last
  clear hbx hqc hq
  rintro e S ⟨hk, hA, h1⟩
  have hld1 := fun (S : St) (hA : At S b0 [.str L.n, L.pv, .str L.v]) => hA.load (k := 1) (v := L.pv) (r := [.str L.v]) rfl
  have hld0 := fun (S : St) (hA : At S b0 [.str L.n, L.pv, .str L.v]) => hA.load (k := 0) (v := .str L.n) (r := [L.pv, .str L.v]) rfl
  have hld2 := fun (S : St) (hA : At S b0 [.str L.n, L.pv, .str L.v]) => hA.load (k := 2) (v := .str L.v) (r := []) rfl
  simp (maxSteps := 1000000) (disch := omega) only [h1, faddrPV, Nat.zero_add, hld0 S hA, hld1 S hA, hll, qaaz, qabz, qadz, qajz, qalz, evOp, qaoz, qapz, qarz, qatz, qavz,
 ↓reduceIte, Nat.reduceEqDiff, Option.map_some, qazz]
  obtain ⟨I, hI⟩ : ∃ I : Nat → Env → St → Prop, I = fun z E S => ∃ i, z = L.ps.length - i ∧ i ≤ L.ps.length ∧ Kept st S ∧ At S b0 [.str L.n, L.pv, .str L.v] ∧ E 1 = .ptr b0 0 ∧ E 3 = .str (L.n ++ (L.ps.take i).flatMap parOf) ∧ E 10 = L.pv ∧ E 11 = .int .i64 (L.ps.length : Int) ∧ E 12 = .int .i64 (i : Int) := ⟨_, rfl⟩
  refine W_loop I ?_ (n := L.ps.length) (by
    rw [hI]
    exact ⟨0, rfl, by omega, hk, hA, h1, by simp [upd], rfl, rfl, rfl⟩)
  clear hk hA h1
  intro z e S hh
  rw [hI] at hh
  obtain ⟨i, rfl, hi, hk, hA, h1, h3, h10, h11, h12⟩ := hh
  obtain ⟨out, hout⟩ : ∃ out, out = L.n ++ (L.ps.take i).flatMap parOf := ⟨_, rfl⟩
  rw [← hout] at h3
  have hol : out.length ≤ 20000 := by
    have := pars_len (ps := L.ps.take i) (fun p hp => h.l4 p (List.mem_of_mem_take hp))
    rw [hout, List.length_append]
    have h6 : (L.ps.take i).length ≤ 30 := by simp; omega
    omega
  by_cases hlt : i < L.ps.length
  · obtain ⟨f, hfe⟩ : ∃ f, f = L.ps.getD i ([], []) := ⟨_, rfl⟩
    have hfm : f ∈ L.ps := by rw [hfe]; simp [List.getD, hlt]
    have hf4 := h.l4 f hfm
    have hco : ∀ (c : UInt8) (S : St), call prog (.fn 66 []) [.str f.2, .str [c]] S = some (.bool (hasB f.2 [c]), S) := fun c S => Contains_spec (by omega)
    obtain ⟨b1, hb1⟩ : ∃ b1, b1 = S.boxes.length := ⟨_, rfl⟩
    obtain ⟨J, hJ⟩ : ∃ J : Env → St → Prop, J = fun E S => Kept st S ∧ At S b0 [.str L.n, L.pv, .str L.v] ∧ E 1 = .ptr b0 0 ∧ E 3 = .str out ∧ E 10 = L.pv ∧ E 11 = .int .i64 (L.ps.length : Int) ∧ E 12 = .int .i64 (i : Int) := ⟨_, rfl⟩
    refine W_cut (fun E S => J E S ∧ E 13 = .bool true) ?_ ?_
    · simp (maxSteps := 1000000) (disch := omega) only [h1, h3, h10, h11, h12, hlt, hJ, qabz, qajz, qalz, evOp, qaoz, qarz, qatz, qavz,
 ↓reduceIte, Nat.reduceEqDiff, Option.map_some, qbpz, decide_true, Int.ofNat_lt, true_and, and_true]
      exact ⟨hk, hA⟩
    rintro e' S' ⟨hj, h13⟩
    have hSb : True := trivial
    refine W_cut J ?_ ?_
    · simp (maxSteps := 1000000) (disch := omega) only [h13, qacz, qaez, qaoz, ↓reduceIte, qbhz, true_and]
      exact hj
    clear hk hA h1 h3 h10 h11 h12 hj h13 hb1
    intro e S hj
    rw [hJ] at hj
    obtain ⟨hk, hA, h1, h3, h10, h11, h12⟩ := hj
    rw [qaaz, qadz]
    refine W_cut (fun E S => J E S ∧ ∃ b1, At S b1 [.str f.1, .str f.2] ∧ E 5 = .ptr b1 0) ?_ ?_
    · simp (maxSteps := 1000000) (disch := omega) only [h1, h3, h10, h11, h12, iaddr_f h.vs, ← hfe, load_f2, allocPV, store_f, hJ, qabz, qajz, qalz, evOp, qaoz, qarz, qatz, qauz, qavz,
 ↓reduceIte, Nat.reduceEqDiff, Option.map_some, Int.toNat_natCast, true_and, and_true]
      exact ⟨⟨hk.alloc', hA.alloc⟩, S.boxes.length, At.last, rfl⟩
    clear hk hA h1 h3 h10 h11 h12
    rintro e S ⟨hj, b1, hB, h5⟩
    rw [hJ] at hj
    obtain ⟨hk, hA, h1, h3, h10, h11, h12⟩ := hj
    have hB0 := hB.load (k := 0) (v := .str f.1) (r := [.str f.2]) rfl
    have hB1 := hB.load (k := 1) (v := .str f.2) (r := []) rfl
    refine W_cut (fun E S' => S' = S ∧ J E S' ∧ E 5 = .ptr b1 0 ∧ E 6 = .str f.2) ?_ ?_
    · simp (maxSteps := 1000000) (disch := omega) only [h1, h3, h5, h10, h11, h12, faddrPV, Nat.zero_add, hB1, hJ, qabz, qajz, qalz, evOp, qaoz, qarz, qatz, qavz,
 ↓reduceIte, Nat.reduceEqDiff, Option.map_some, true_and, and_true]
      exact ⟨hk, hA⟩
    clear hk hA h1 h3 h5 h10 h11 h12
    rintro e S' ⟨rfl, hj, h5, h6⟩
    rw [hJ] at hj
    obtain ⟨hk, hA, h1, h3, h10, h11, h12⟩ := hj
    have ha1 : ∀ ek, binPV .add ek (.str [34]) (.str f.2) = some (.str (34 :: f.2)) := fun ek => adds (a := [34]) (b := f.2) (by simp; omega)
    have ha2 : ∀ ek, binPV .add ek (.str (34 :: f.2)) (.str [34]) = some (.str (34 :: (f.2 ++ [34]))) := fun ek => adds (a := 34 :: f.2) (b := [34]) (by simp; omega)
    refine W_cut (fun E S2 => S2 = S' ∧ J E S2 ∧ E 5 = .ptr b1 0 ∧ E 6 = .str (quoteOf f.2)) ?_ ?_
    · cases p1 : hasB f.2 [59] with
      | true =>
        have hqo : quoteOf f.2 = 34 :: (f.2 ++ [34]) := by simp [quoteOf, p1]
        rw [hqo]
        simp (maxSteps := 1000000) (disch := omega) only [h1, h3, h5, h6, h10, h11, h12, hco, p1, ha1, ha2, hJ, qaaz, qabz, qacz, qajz, qakz, qalz, qamz, qanz, evOp, qaoz, qapz, qaqz, qarz, qatz, qavz,
 ↓reduceIte, Nat.reduceEqDiff, List.map_cons, List.map_nil, Option.map_some, qazz, qbhz, beq_false, Bool.false_eq_true, true_and, and_true, Bool.not_true]
        exact ⟨hk, hA⟩
      | false =>
        cases p2 : hasB f.2 [58] with
        | true =>
          have hqo : quoteOf f.2 = 34 :: (f.2 ++ [34]) := by simp [quoteOf, p2]
          rw [hqo]
          simp (maxSteps := 1000000) (disch := omega) only [h1, h3, h5, h6, h10, h11, h12, hco, p1, p2, ha1, ha2, hJ, qaaz, qabz, qacz, qajz, qakz, qalz, qamz, qanz, evOp, qaoz, qapz, qaqz, qarz, qatz, qavz,
 ↓reduceIte, Nat.reduceEqDiff, List.map_cons, List.map_nil, Option.map_some, qazz, qbhz, beq_false, Bool.false_eq_true, true_and, and_true, Bool.not_true, Bool.not_false]
          exact ⟨hk, hA⟩
        | false =>
          cases p3 : hasB f.2 [44] with
          | true =>
            have hqo : quoteOf f.2 = 34 :: (f.2 ++ [34]) := by simp [quoteOf, p3]
            rw [hqo]
            simp (maxSteps := 1000000) (disch := omega) only [h1, h3, h5, h6, h10, h11, h12, hco, p1, p2, p3, ha1, ha2, hJ, qaaz, qabz, qacz, qajz, qakz, qalz, qamz, qanz, evOp, qaoz, qapz, qaqz, qarz, qatz, qavz,
 ↓reduceIte, Nat.reduceEqDiff, List.map_cons, List.map_nil, Option.map_some, qazz, qbhz, beq_false, Bool.false_eq_true, true_and, and_true, Bool.not_false]
            exact ⟨hk, hA⟩
          | false =>
            have hqo : quoteOf f.2 = f.2 := by simp [quoteOf, p1, p2, p3]
            rw [hqo]
            simp (maxSteps := 1000000) (disch := omega) only [h1, h3, h5, h6, h10, h11, h12, hco, p1, p2, p3, hJ, qaaz, qabz, qacz, qaez, qajz, qakz, qalz, qamz, qanz, evOp, qaoz, qapz, qaqz, qarz, qatz, qavz,
 ↓reduceIte, Nat.reduceEqDiff, List.map_cons, List.map_nil, qazz, qbhz, beq_false, Bool.false_eq_true, true_and, and_true, Bool.not_false]
            exact ⟨hk, hA⟩
    clear hk hA h1 h3 h5 h6 h10 h11 h12
    rintro e S2 ⟨rfl, hj, h5, h6⟩
    rw [hJ] at hj
    obtain ⟨hk, hA, h1, h3, h10, h11, h12⟩ := hj
    have hql := quote_len (v := f.2)
    have hb1' : ∀ ek, binPV .add ek (.str [59]) (.str f.1) = some (.str (59 :: f.1)) := fun ek => adds (a := [59]) (b := f.1) (by simp; omega)
    have hb2' : ∀ ek, binPV .add ek (.str (59 :: f.1)) (.str [61]) = some (.str (59 :: (f.1 ++ [61]))) := fun ek => adds (a := 59 :: f.1) (b := [61]) (by simp; omega)
    have hb3' : ∀ ek, binPV .add ek (.str (59 :: (f.1 ++ [61]))) (.str (quoteOf f.2)) = some (.str (parOf f)) := fun ek => by
      rw [adds (by simp; omega)]; simp [parOf]
    have hpl := parOf_len (p := f)
    have hb4' : ∀ ek, binPV .add ek (.str out) (.str (parOf f)) = some (.str (out ++ parOf f)) := fun ek => adds (by omega)
    simp (maxSteps := 1000000) (disch := omega) only [h3, h5, h6, h12, faddrPV, Nat.zero_add, hB0, hb1', hb2', hb3', hb4', add_n, qabz, qajz, qalz, evOp, qaoz, qapz, qarz, qatz, qavz,
 ↓reduceIte, Nat.reduceEqDiff, Option.map_some, qazz, qbdz, Int.reduceToNat]
    refine loopQ_intro (m := L.ps.length - (i + 1)) (by omega) ?_
    rw [hI]
    refine ⟨i + 1, rfl, by omega, hk, hA, h1, ?_, h10, h11, rfl⟩
    show PV.str (out ++ parOf f) = _
    rw [hout, take_getD' hlt, ← hfe, List.flatMap_append]
    simp
  · obtain rfl : i = L.ps.length := by omega
    have ha1 : ∀ ek, binPV .add ek (.str out) (.str [58]) = some (.str (out ++ [58])) := fun ek => adds (by simp; omega)
    have ha2 : ∀ ek, binPV .add ek (.str (out ++ [58])) (.str L.v) = some (.str (textOfL L)) := fun ek => by
      rw [adds (by simp; omega), hout, List.take_length]; simp [textOfL]
    simp (maxSteps := 1000000) (disch := omega) only [h1, h3, h11, h12, hlt, faddrPV, Nat.zero_add, hld2 S hA, ha1, ha2, qaaz, qabz, qacz, qagz, qaiz, qajz, qalz, evOp, qaoz, qapz, qarz, qatz, qavz,
 ↓reduceIte, Nat.reduceEqDiff, Option.map_some, qazz, qbbz, qbfz, qbhz, qbjz, qblz, qbpz, decide_false,
 Int.ofNat_lt, Bool.false_eq_true]
    exact ⟨.str (textOfL L), rfl, hk.leave rfl (fun _ _ => rfl)⟩
end Go.Ab
/-
  A line as a text, by the document.
-/
namespace Go.Ab
variable {st s : St} {e : Env}

end Go.Ab
/-
  Lines are written, folded.
-/
namespace Go.Ab
variable {st s : St} {e : Env}

theorem next_le4 {l : List UInt8} {p n : Nat} (h : nextOf l = some (p, n)) : n ≤ 4 := by
  by_cases hc : (l.getD 0 0).toNat < 128
  · unfold nextOf at h
    split at h
    · cases h
    · cases h; omega
  · obtain ⟨h1, -, -⟩ := next_succ hc h
    omega
theorem near {l : List UInt8} {m : Nat} (hm : m < l.length) : ∀ (k i : Nat), l.length + 1 - i ≤ k → i ≤ m → (∃ r, ptsOf k l i = .ok r) → ∃ j, i ≤ j ∧ j ≤ m ∧ m < j + 4 ∧ ¬ isCont (l.getD j 0) := by
  intro k
  induction k with
  | zero => intro i h1 h2; omega
  | succ k ih =>
    intro i h1 h2 ⟨r, hr⟩
    simp only [ptsOf] at hr
    rw [if_pos (by omega)] at hr
    cases hno : nextOf (l.drop i) with
    | none => rw [hno] at hr; cases hr
    | some pn =>
      obtain ⟨p, n⟩ := pn
      rw [hno] at hr
      simp only at hr
      obtain ⟨hn1, hn2, hn3⟩ := next_pos hno
      have hn4 := next_le4 hno
      obtain ⟨c1, -⟩ := next_cont hno
      rw [drop_get, Nat.add_zero] at c1
      by_cases hmi : m < i + n
      · exact ⟨i, Nat.le_refl _, h2, by omega, c1⟩
      · have hr2 : ∃ r, ptsOf k l (i + n) = .ok r := by
          cases h : ptsOf k l (i + n) with
          | ok r => exact ⟨r, rfl⟩
          | error j => rw [h] at hr; cases hr
        obtain ⟨j, j1, j2, j3, j4⟩ := ih (i + n) (by omega) (by omega) hr2
        exact ⟨j, by omega, j2, j3, j4⟩
theorem back_ge {l : List UInt8} {j : Nat} (hj : ¬ isCont (l.getD j 0)) : ∀ m, j ≤ m → j ≤ back l m := by
  intro m
  induction m with
  | zero => intro h; simp [back]; omega
  | succ m ih =>
    intro h
    simp only [back]
    split
    · rename_i hc
      by_cases hjm : j = m + 1
      · subst hjm; exact absurd hc.2 hj
      · exact ih (by omega)
    · exact h
theorem cut75 {l : List UInt8} (h : 75 < l.length) : 72 ≤ cutOf l 75 ∧ cutOf l 75 ≤ 75 := by
  unfold cutOf
  rw [Nat.min_eq_left (by omega)]
  split
  · rename_i hv
    have hok : ∃ r, ptsOf (l.length + 1) l 0 = .ok r := by
      unfold validOf at hv
      cases h : ptsOf (l.length + 1) l 0 with
      | ok r => exact ⟨r, rfl⟩
      | error j => rw [h] at hv; cases hv
    obtain ⟨j, -, j2, j3, j4⟩ := near h (l.length + 1) 0 (by omega) (by omega) hok
    have := back_ge j4 75 j2
    have := back_le (l := l) 75
    omega
  · omega

def crW (x : List UInt8) : List UInt8 := x ++ [13, 10]
def foldW : Nat → List UInt8 → List (List UInt8)
  | 0, l => [l]
  | k + 1, l => if 75 < l.length then l.take (cutOf l 75) :: foldW k (32 :: l.drop (cutOf l 75)) else [l]
def outL (L : Ln) : List UInt8 := (foldW (textOfL L).length (textOfL L)).flatMap crW
theorem foldW_len : ∀ (k : Nat) (l : List UInt8), l.length ≤ k → ((foldW k l).flatMap crW).length ≤ 2 * l.length + 2 := by
  intro k
  induction k with
  | zero => intro l h; simp [foldW, crW]; omega
  | succ k ih =>
    intro l h
    simp only [foldW]
    split
    · rename_i h75
      obtain ⟨c1, c2⟩ := cut75 h75
      have := ih (32 :: l.drop (cutOf l 75)) (by simp; omega)
      simp only [List.flatMap_cons, List.length_append, crW, List.length_cons, List.length_nil, List.length_take, List.length_drop] at this ⊢
      omega
    · simp [crW]; omega
theorem outL_len {L : Ln} (h : L.ok) : (outL L).length ≤ 50000 := by
  have h1 := foldW_len _ (textOfL L) (Nat.le_refl _)
  have h2 := textL_len h
  unfold outL; omega

theorem app32 {S : St} {v y : PV} {l d : List UInt8} (hk : Kept st S) (hm : Mine st S v l) (hy : y.by = some d) (hl : d.length + 1 ≤ room) :
    ∃ v' S', app8 S.tok1 (.bys (.own S.toks.length) [32]) y = some (v', S') ∧ Kept st S' ∧ Mine st S' v l ∧ v'.by = some (32 :: d) := by
  have hlive : Live S.tok1 (.bys (.own S.toks.length) [32]) [32] := .inr ⟨_, rfl, by simp [St.tok1]⟩
  have htl := hk.tl
  have hlt : S.tok1.toks.length = S.toks.length + 1 := by simp [St.tok1]
  obtain ⟨v', S', a1, a2, a3, a4, a5, a6, a7, a8, a9⟩ := app8_live hlive (src8_by (st := S.tok1) hy) (by simpa [Nat.add_comm] using hl)
  have hkeep : ∀ i, i < S.toks.length → S'.toks[i]? = S.tok1.toks[i]? := fun i hi => a7 i (by omega) (by simp [tokOf]; omega)
  refine ⟨v', S', a1, hk.tok1.of (by rw [a2]) a3 (by rw [a4]; exact hk.tok1.lw) (fun i hi => hkeep i (by omega)) (by omega), ⟨?_, hm.2⟩, a5.by⟩
  refine hm.tok1.1.move fun i hi => hkeep i ?_
  exact (hm.1.lt hi).1

def okLs (Ls : List Ln) : Prop := (∀ L ∈ Ls, L.ok) ∧ Ls.length ≤ 60
noncomputable def writeL (Ls : List Ln) : Int × List UInt8 := if Ls.all rtB = true then (0, Ls.flatMap outL) else (90, [])
def outW (st : St) (r : Int × List UInt8) : PV × St := if r.2 = [] then (.tup [.nils, .int .i64 r.1], st) else (.tup [.bys (.own st.toks.length) r.2, .int .i64 r.1], st.tok1)
theorem leave_outW {S : St} {v : PV} {l : List UInt8} {n : Int} (hk : Kept st S) (hm : Mine st S v l) (hn : l = [] → v = .nils) : leave st S (.tup [v, .int .i64 n]) = outW st (n, l) := by
  unfold outW
  by_cases hl : l = []
  · rw [if_pos hl, hn hl]
    exact hk.leave rfl (fun _ _ => rfl)
  · rw [if_neg hl]
    exact leave_mine2 hk hm hl
theorem outs_len : ∀ {Ls : List Ln}, (∀ L ∈ Ls, L.ok) → (Ls.flatMap outL).length ≤ Ls.length * 50000 := by
  intro Ls
  induction Ls with
  | nil => intro _; simp
  | cons L r ih =>
    intro h
    have h1 := outL_len (h L (by simp))
    have h2 := ih (fun g hg => h g (by simp [hg]))
    simp only [List.flatMap_cons, List.length_append, List.length_cons]
    omega
theorem Mine.alloc' {v : PV} {l : List UInt8} {B : List (List PV)} {Lp : List LoopS} {lo : Nat} (h : Mine st s v l) : Mine st ⟨B, s.toks, Lp, lo⟩ v l := ⟨h.1.move fun _ _ => rfl, h.2⟩
end Go.Ab
/-
  Lines are written, folded: the program's function.
-/
namespace Go.Ab
variable {st s : St} {e : Env}

def L0 : Ln := ⟨[], .nils, [], []⟩
theorem iaddr_L {x : PV} {Ls : List Ln} {k : IntKind} {c : Int} (h : x.vs 3 = some (Ls.map lV)) (h1 : 0 ≤ c) (h2 : c.toNat < Ls.length) : iaddrPV 3 x (.int k c) = some (.cp [.str (Ls.getD c.toNat L0).n, (Ls.getD c.toNat L0).pv, .str (Ls.getD c.toNat L0).v]) := by
  rw [iaddr_vs h h1 (by simpa using h2)]
  simp [List.getD, h2, lV, PV.cells]
theorem load_3 {a b c : PV} : loadPV st true 3 (.cp [a, b, c]) = some (.agg [a, b, c]) := rfl
theorem store_L {B : List (List PV)} {T : List Bool} {Lp : List LoopS} {lo : Nat} {L : Ln} (h : L.ok) : storePV ⟨B ++ [[.str [], .nils, .str []]], T, Lp, lo⟩ 3 (.ptr B.length 0) (.agg [.str L.n, L.pv, .str L.v]) = some ⟨B ++ [[.str L.n, L.pv, .str L.v]], T, Lp, lo⟩ := by
  unfold storePV
  simp only [get_app0]
  have h1 : (PV.agg [PV.str L.n, L.pv, PV.str L.v]).inB (B.length + 1) = true := (box_l h.r (n := B.length + 1)).1
  have h2 : (PV.agg [PV.str L.n, L.pv, PV.str L.v]).cells.all leafOk = true := (box_l h.r (n := 0)).2
  rw [if_pos ⟨rfl, by simp, h1, h2⟩]
  have h3 : hasTok (PV.agg [PV.str L.n, L.pv, PV.str L.v]).cells = false := by
    show ((tokOf (.str L.n)).isSome || ((tokOf L.pv).isSome || ((tokOf (.str L.v)).isSome || false))) = false
    rw [h.tk]; rfl
  rw [h3]
  simp [PV.cells, setCells]
theorem load_L {B : List (List PV)} {T : List Bool} {Lp : List LoopS} {lo : Nat} {a b c : PV} : loadPV ⟨B ++ [[a, b, c]], T, Lp, lo⟩ true 3 (.ptr B.length 0) = some (.agg [a, b, c]) := by
  simp [loadPV, readCells]
theorem take_getDL {l : List Ln} {i : Nat} (h : i < l.length) : l.take (i + 1) = l.take i ++ [l.getD i L0] := take_getD' h

set_option maxHeartbeats 1000000 in
theorem sWrite_big {x : PV} {Ls : List Ln} (hx : x.vs 3 = some (Ls.map lV)) (h : (∀ L ∈ Ls, L.ok) ∧ Ls.length ≤ 4096) : call prog (.fn 48 []) [x] st = some (outW st (writeL Ls)) := by
  refine call_of_W prog_48 ?_
  unfold F_sheet_Write; dsimp only
  have hlen := len_vs hx
  rw [List.length_map] at hlen
  have h60 := h.2
  have e4096 : ¬ (4096 : Int) < (Ls.length : Int) := by omega
  simp (maxSteps := 1000000) (disch := omega) only [hlen, e4096, qaaz, qabz, qacz, qadz, qaez, qajz, qalz, evOp, qaoz, qapz, qarz, qatz, qavz,
 ↓reduceIte, List.append_nil, qawz, Option.map_some, qazz, qbhz, qbrz, decide_false,
 Bool.false_eq_true, reduceCtorEq]
  obtain ⟨I, hI⟩ : ∃ I : Nat → Env → St → Prop, I = fun z E S => ∃ i v, z = Ls.length - i ∧ i ≤ Ls.length ∧ Kept st S ∧ Mine st S v ((Ls.take i).flatMap outL) ∧ ((Ls.take i).flatMap outL = [] → v = .nils) ∧ (∀ j, j < i → rtB (Ls.getD j L0) = true) ∧ E 4 = v ∧ E 12 = x ∧ E 13 = .int .i64 (Ls.length : Int) ∧ E 14 = .int .i64 (i : Int) := ⟨_, rfl⟩
  refine W_loop I ?_ (n := Ls.length) (by
    rw [hI]
    exact ⟨0, .nils, rfl, by omega, Kept.start, Mine.nil, fun _ => rfl, fun j hj => by omega, rfl, rfl, rfl, rfl⟩)
  intro z e S hh
  rw [hI] at hh
  obtain ⟨i, v, rfl, hi, hk, hm, hnil, hall, h4, h12, h13, h14⟩ := hh
  have hbl := outs_len (Ls := Ls.take i) (fun f hfm => h.1 f (List.mem_of_mem_take hfm))
  have hbl2 : ((Ls.take i).flatMap outL).length ≤ 300000000 := by
    have h0 : (Ls.take i).length ≤ 4096 := by simp; omega
    exact Nat.le_trans hbl (Nat.le_trans (Nat.mul_le_mul_right 50000 h0) (by decide))
  clear hbl
  by_cases hlt : i < Ls.length
  · obtain ⟨L, hLe⟩ : ∃ L, L = Ls.getD i L0 := ⟨_, rfl⟩
    have hLm : L ∈ Ls := by rw [hLe]; simp [List.getD, hlt]
    have hL := h.1 L hLm
    have hia := iaddr_L (k := .i64) (c := (i : Int)) hx (by omega) (by rw [Int.toNat_natCast]; exact hlt)
    rw [Int.toNat_natCast, ← hLe] at hia
    have hrt : ∀ S : St, call prog (.fn 50 []) [.agg [.str L.n, L.pv, .str L.v]] S = some (.bool (rtB L), S) := fun S => sRight_spec hL
    have hln : ∀ S : St, call prog (.fn 60 []) [.agg [.str L.n, L.pv, .str L.v]] S = some (.str (textOfL L), S) := fun S => line_spec hL
    have hk2 := hk.alloc' (z := [.str L.n, L.pv, .str L.v])
    cases hr : rtB L with
    | false =>
      rw [hr] at hrt
      have hw : writeL Ls = (90, []) := by
        have : Ls.all rtB = false := by
          rw [List.all_eq_false]; exact ⟨L, hLm, by rw [hr]; simp⟩
        simp [writeL, this]
      simp (maxSteps := 1000000) (disch := omega) only [h12, h13, h14, hlt, hia, load_3, allocPV, store_L hL, load_L, hrt, qaaz, qabz, qacz, qadz, qaez, qaiz, qajz, qalz, evOp, qaoz, qapz, qaqz, qarz, qatz, qauz, qavz,
 ↓reduceIte, Nat.reduceEqDiff, List.map_cons, List.map_nil, Option.map_some, qazz, qbaz, qbez, qbhz, qbiz, qblz, qbpz, qcfz, decide_true, Int.ofNat_lt, Bool.not_false]
      refine ⟨.tup [.nils, .int .i64 90], rfl, ?_⟩
      rw [hw]; exact hk2.leave rfl (fun _ _ => rfl)
    | true =>
    rw [hr] at hrt
    obtain ⟨T, hT⟩ : ∃ T, T = foldW (textOfL L).length (textOfL L) := ⟨_, rfl⟩
    obtain ⟨base, hbase⟩ : ∃ base, base = (Ls.take i).flatMap outL := ⟨_, rfl⟩
    rw [← hbase] at hm hbl2
    have htl := textL_len hL
    have hsn : (Ls.take (i + 1)).flatMap outL = base ++ T.flatMap crW := by
      rw [take_getDL hlt, ← hLe, List.flatMap_append, hbase, hT]; simp [outL]
    clear hbase hnil
    simp (maxSteps := 1000000) (disch := omega) only [h12, h13, h14, hlt, hia, load_3, allocPV, store_L hL, load_L, hrt, hln, freshT_eq, qaaz, qabz, qacz, qadz, qaez, qajz, qalz, evOp, qaoz, qaqz, qarz, qatz, qauz, qavz,
 ↓reduceIte, Nat.reduceEqDiff, List.map_cons, List.map_nil, Option.map_some, qazz, qbhz, qbpz, qcfz, decide_true, Int.ofNat_lt, Bool.false_eq_true, Bool.not_true]
    obtain ⟨II, hII⟩ : ∃ II : Nat → Env → St → Prop, II = fun z E S => ∃ m k v y acc, m.length = z ∧ m.length ≤ k ∧ (acc.flatMap crW).length + 2 * m.length ≤ 46800 ∧ Kept st S ∧ Mine st S v (base ++ acc.flatMap crW) ∧ T = acc ++ foldW k m ∧ y.by = some m ∧ E 4 = v ∧ E 7 = y ∧ E 12 = x ∧ E 13 = .int .i64 (Ls.length : Int) ∧ E 14 = .int .i64 (i : Int) := ⟨_, rfl⟩
    refine W_loop II ?_ (n := (textOfL L).length) (by
      rw [hII]
      exact ⟨textOfL L, (textOfL L).length, v, _, [], rfl, Nat.le_refl _, by simp; omega, hk2.tok1, by simpa using hm.alloc'.tok1, by rw [hT]; rfl, qcgz, h4, rfl, h12, h13, h14⟩)
    clear hk hk2 hm h4 h12 h13 h14
    intro z e S hh
    rw [hII] at hh
    obtain ⟨m, k, v, y, acc, rfl, hmk, hbd, hk, hm, hTT, hy, h4, h7, h12, h13, h14⟩ := hh
    by_cases h75 : 75 < m.length
    · have e75 : (75 : Int) < (m.length : Int) := by omega
      obtain ⟨k, rfl⟩ : ∃ k', k = k' + 1 := ⟨k - 1, by omega⟩
      simp only [foldW, h75, if_true] at hTT
      obtain ⟨c1, c2⟩ := cut75 h75
      obtain ⟨c, hc⟩ : ∃ c, c = cutOf m 75 := ⟨_, rfl⟩
      have hcut : ∀ S : St, call prog (.fn 61 []) [y, .int .i64 75] S = some (.int .i64 (c : Int), S) := fun S => by
        rw [hc]; exact uCut_spec (m := 75) hy (by omega)
      rw [← hc] at c1 c2 hTT
      have hhi := slc_hi (k := .i64) (c := (c : Int)) hy (by omega) (by rw [Int.toNat_natCast]; omega)
      have hlo := slc_lo (k := .i64) (c := (c : Int)) hy (by omega) (by rw [Int.toNat_natCast]; omega)
      rw [Int.toNat_natCast] at hhi hlo
      obtain ⟨v1, S1, a1, k1, m1⟩ := hk.app8 (y := y.takeB c) (m := m.take c) hm (src8_by (takeB_by hy)) (by simp only [List.length_append, List.length_take, room]; omega)
      obtain ⟨v2, S2, a2, k2, m2⟩ := k1.app8 (y := .str [13, 10]) (m := [13, 10]) m1 rfl (by simp only [List.length_append, List.length_take, List.length_cons, List.length_nil, room]; omega)
      obtain ⟨y3, S3, a3, k3, m3, hy3⟩ := app32 k2 m2 (dropB_by (i := c) hy) (by simp only [List.length_drop, room]; omega)
      simp (maxSteps := 1000000) (disch := omega) only [h4, h7, len_by hy, e75, hcut, hhi, hlo, a1, a2, lit8_1, freshT_eq, a3, qaaz, qabz, qacz, qadz, qaez, qajz, qalz, evOp, qaoz, qapz, qaqz, qarz, qatz, qavz,
 ↓reduceIte, Nat.reduceEqDiff, List.map_cons, List.map_nil, Option.map_some, Option.map_none, qazz, qbdz, qbhz, qbrz, decide_true]
      refine loopQ_intro (m := (32 :: m.drop c).length) (by simp; omega) ?_
      rw [hII]
      refine ⟨32 :: m.drop c, k, v2, y3, acc ++ [m.take c], rfl, by simp; omega, ?_, k3, ?_, ?_, hy3, rfl, rfl, h12, h13, h14⟩
      · simp only [List.flatMap_append, List.flatMap_cons, List.flatMap_nil, List.append_nil, crW, List.length_append, List.length_cons, List.length_nil, List.length_take, List.length_drop]; omega
      · rw [List.flatMap_append]; simpa [crW] using m3
      · rw [hTT]; simp
    · have e75 : ¬ (75 : Int) < (m.length : Int) := by omega
      have hTf : T = acc ++ [m] := by
        rw [hTT]
        cases k with
        | zero => rfl
        | succ k => simp only [foldW, h75, if_false]
      obtain ⟨v1, S1, a1, k1, m1⟩ := hk.app8 (y := y) (m := m) hm (src8_by hy) (by simp only [List.length_append, room]; omega)
      obtain ⟨v2, S2, a2, k2, m2⟩ := k1.app8 (y := .str [13, 10]) (m := [13, 10]) m1 rfl (by simp only [List.length_append, List.length_cons, List.length_nil, room]; omega)
      simp (maxSteps := 1000000) (disch := omega) only [h4, h7, h14, len_by hy, e75, a1, a2, add_n, qaaz, qabz, qacz, qagz, qajz, qalz, evOp, qaoz, qapz, qarz, qatz, qavz,
 ↓reduceIte, Nat.reduceEqDiff, Option.map_some, qazz, qbbz, qbdz, qbfz, qbhz, qbjz, qbrz, decide_false,
 Bool.false_eq_true, Int.reduceToNat]
      refine loopQ_intro (m := Ls.length - (i + 1)) (by omega) ?_
      rw [hI]
      have hfin : base ++ T.flatMap crW = base ++ acc.flatMap crW ++ m ++ [13, 10] := by rw [hTf]; simp [crW]
      refine ⟨i + 1, v2, rfl, by omega, k2, by rw [hsn, hfin]; exact m2, fun hz => ?_, fun j hj => ?_, rfl, h12, h13, rfl⟩
      · rw [hsn, hfin] at hz
        have := congrArg List.length hz
        simp at this
      · by_cases hji : j = i
        · subst hji; rw [← hLe]; exact hr
        · exact hall j (by omega)
  · obtain rfl : i = Ls.length := by omega
    rw [List.take_length] at hm hnil
    have hw : writeL Ls = (0, Ls.flatMap outL) := by
      have : Ls.all rtB = true := by
        rw [List.all_eq_true]
        intro L hL
        obtain ⟨j, hj, rfl⟩ := List.mem_iff_getElem.1 hL
        have := hall j hj
        simpa [List.getD, hj] using this
      simp [writeL, this]
    simp (maxSteps := 1000000) (disch := omega) only [h4, h13, h14, hlt, qaaz, qabz, qacz, qagz, qaiz, qajz, qalz, evOp, qaoz, qapz, qarz, qatz, qavz,
 ↓reduceIte, Nat.reduceEqDiff, Option.map_some, qazz, qbbz, qbfz, qbhz, qbjz, qblz, qbpz, decide_false,
 Int.ofNat_lt, Bool.false_eq_true]
    refine ⟨.tup [v, .int .i64 0], ?_, ?_⟩
    · have hnt : notTup v = true := by rcases hm.1 with ⟨rfl, _⟩ | ⟨i, rfl, _⟩ <;> rfl
      simp [resOf, rvAll, rv1, qavz, hnt, packRes]
      rfl
    · rw [hw]; exact leave_outW hk hm hnil
theorem sWrite_spec {x : PV} {Ls : List Ln} (hx : x.vs 3 = some (Ls.map lV)) (h : okLs Ls) : call prog (.fn 48 []) [x] st = some (outW st (writeL Ls)) := sWrite_big hx ⟨h.1, by have := h.2; omega⟩
end Go.Ab
/-
  Lines are written, folded: the document's function.
-/
namespace Go.Ab
variable {st s : St} {e : Env}

end Go.Ab
/-
  How big lines are; the law SheetWrites.
-/
namespace Go.Ab
variable {st s : St} {e : Env}

structure Ln.raw (L : Ln) : Prop where
  vs : L.pv.vs 2 = some (L.ps.map fV)
  ib : ∀ n, L.pv.inB n = true
  lf : leafOk L.pv = true
  tk : tokOf L.pv = none
  l1 : L.n.length ≤ 4000000000000000000
  l2 : L.v.length ≤ 4000000000000000000
  l3 : L.ps.length ≤ 9223372036854775807
  l4 : ∀ p ∈ L.ps, p.1.length ≤ 4000000000000000000 ∧ p.2.length ≤ 4000000000000000000
end Go.Ab
/-
  The law SheetWrites.
-/
namespace Go.Ab
variable {st s : St} {e : Env}

end Go.Ab
/-
  An argument of lines, opened.
-/
namespace Go.Ab

def strs2 (P : Program) (t : TypeId) : Bool := match fieldsT P t with
  | some fs => fs.toList.map (fun f => isStrT P f.type) == [true, true]
  | none => false
theorem HasTy.two {P : Program} {t : TypeId} {q : PV} (h : HasTy P t q) (hs0 : strs2 P t = true) : ∃ f : Fld, q = fV f ∧ f.1.length ≤ reachBytes ∧ f.2.length ≤ reachBytes := by
  unfold strs2 fieldsT at hs0
  obtain ⟨fs, ht⟩ : ∃ fs, P.underlying t = some (.struct fs) := by
    cases ht : P.underlying t with
    | none => simp [ht] at hs0
    | some d => cases d <;> first | exact ⟨_, rfl⟩ | (simp [ht] at hs0; done)
  simp only [ht, beq_iff_eq] at hs0
  obtain ⟨fl⟩ := fs
  have hlen : fl.length = 2 := by simpa using congrArg List.length hs0
  match fl, hlen, hs0 with
  | [f0, f1], _, hs0 =>
    simp only [List.map_cons, List.map_nil, List.cons.injEq, and_true] at hs0
    have hs := And.intro (isStrT_eq hs0.1) (isStrT_eq hs0.2)
    cases h with
    | agg xs ht' hl hx =>
      rw [ht] at ht'; cases ht'
      match xs, hl with
      | [x0, x1], _ =>
        obtain ⟨a, rfl, ha⟩ := HasTy.strR (hx 0 f0 x0 rfl rfl) hs.1
        obtain ⟨b, rfl, hb⟩ := HasTy.strR (hx 1 f1 x1 rfl rfl) hs.2
        exact ⟨(a, b), rfl, ha, hb⟩
    | bool _ ht' => rw [ht] at ht'; cases ht'
    | int _ ht' => rw [ht] at ht'; cases ht'
    | u8 _ ht' => rw [ht] at ht'; cases ht'
    | str _ ht' => rw [ht] at ht'; cases ht'
    | nils ht' => rw [ht] at ht'; cases ht'
    | bys _ ht' => rw [ht] at ht'; cases ht'
    | sl _ ht' => rw [ht] at ht'; cases ht'
theorem HasTy.twos {P : Program} {t e : TypeId} {q : PV} (h : HasTy P t q) (ht : P.underlying t = some (.slice e)) (hc : P.cellsOf e = 2) (hs : strs2 P e = true) :
    ∃ l : List Fld, q.vs 2 = some (l.map fV) ∧ (∀ f ∈ l, f.1.length ≤ reachBytes ∧ f.2.length ≤ reachBytes) ∧ l.length ≤ maxLen ∧ (∀ n, q.inB n = true) ∧ leafOk q = true ∧ tokOf q = none ∧ q.cells = [q] := by
  cases h with
  | nils ht' => exact ⟨[], rfl, fun f h => (by cases h), by simp, fun n => rfl, rfl, rfl, rfl⟩
  | bys _ ht' he' => rw [ht] at ht'; cases ht'; simp [strs2, fieldsT, he'] at hs
  | sl xs ht' he' hl hx =>
    rw [ht] at ht'; cases ht'
    have : ∀ xs : List PV, (∀ x ∈ xs, HasTy P e x) → ∃ l : List Fld, xs = l.map fV ∧ ∀ f ∈ l, f.1.length ≤ reachBytes ∧ f.2.length ≤ reachBytes := by
      intro xs
      induction xs with
      | nil => intro _; exact ⟨[], rfl, fun f h => (by cases h)⟩
      | cons x r ih =>
        intro hx
        obtain ⟨f, rfl, hf⟩ := HasTy.two (hx x (by simp)) hs
        obtain ⟨l, rfl, hl⟩ := ih (fun y hy => hx y (by simp [hy]))
        refine ⟨f :: l, rfl, fun g hg => ?_⟩
        rcases List.mem_cons.1 hg with rfl | hg
        · exact hf
        · exact hl g hg
    obtain ⟨l, rfl, hl2⟩ := this xs hx
    exact ⟨l, by simp [PV.vs, hc], hl2, by simpa using hl, fun n => rfl, rfl, rfl, rfl⟩
  | bool _ ht' => rw [ht] at ht'; cases ht'
  | int _ ht' => rw [ht] at ht'; cases ht'
  | u8 _ ht' => rw [ht] at ht'; cases ht'
  | str _ ht' => rw [ht] at ht'; cases ht'
  | agg _ ht' => rw [ht] at ht'; cases ht'

def lineT (P : Program) (t ep : TypeId) : Bool := match fieldsT P t with
  | some fs => match fs.toList with
    | [f0, f1, f2] => isStrT P f0.type && (sliceElem P f1.type == some ep) && isStrT P f2.type && strs2 P ep && (P.cellsOf ep == 2)
    | _ => false
  | none => false
theorem HasTy.line {P : Program} {t ep : TypeId} {q : PV} (h : HasTy P t q) (hs0 : lineT P t ep = true) : ∃ L : Ln, q = lV L ∧ L.raw := by
  unfold lineT fieldsT at hs0
  obtain ⟨fs, ht⟩ : ∃ fs, P.underlying t = some (.struct fs) := by
    cases ht : P.underlying t with
    | none => simp [ht] at hs0
    | some d => cases d <;> first | exact ⟨_, rfl⟩ | (simp [ht] at hs0; done)
  simp only [ht] at hs0
  obtain ⟨fl⟩ := fs
  match fl, hs0 with
  | [f0, f1, f2], hs0 =>
    simp only [Bool.and_eq_true, beq_iff_eq] at hs0
    obtain ⟨⟨⟨⟨s0, s1⟩, s2⟩, s3⟩, s4⟩ := hs0
    have hu1 : P.underlying f1.type = some (.slice ep) := by
      unfold sliceElem at s1
      split at s1
      · rename_i e he; rw [he]; cases s1; rfl
      · cases s1
    cases h with
    | agg xs ht' hl hx =>
      rw [ht] at ht'; cases ht'
      match xs, hl with
      | [x0, x1, x2], _ =>
        obtain ⟨a, rfl, ha⟩ := HasTy.strR (hx 0 f0 x0 rfl rfl) (isStrT_eq s0)
        obtain ⟨l, l1, l2, l3, l4, l5, l6, l7⟩ := HasTy.twos (hx 1 f1 x1 rfl rfl) hu1 s4 s3
        obtain ⟨b, rfl, hb⟩ := HasTy.strR (hx 2 f2 x2 rfl rfl) (isStrT_eq s2)
        have hR : reachBytes ≤ 4000000000000000000 := by decide
        refine ⟨⟨a, x1, l, b⟩, ?_, ⟨l1, l4, l5, l6, Nat.le_trans ha hR, Nat.le_trans hb hR, Nat.le_trans l3 (by decide), fun p hp => ⟨Nat.le_trans (l2 p hp).1 hR, Nat.le_trans (l2 p hp).2 hR⟩⟩⟩
        simp only [lV, flat, List.flatMap_cons, List.flatMap_nil, l7]
        rfl
    | bool _ ht' => rw [ht] at ht'; cases ht'
    | int _ ht' => rw [ht] at ht'; cases ht'
    | u8 _ ht' => rw [ht] at ht'; cases ht'
    | str _ ht' => rw [ht] at ht'; cases ht'
    | nils ht' => rw [ht] at ht'; cases ht'
    | bys _ ht' => rw [ht] at ht'; cases ht'
    | sl _ ht' => rw [ht] at ht'; cases ht'
theorem HasTy.lines {P : Program} {t e ep : TypeId} {q : PV} (h : HasTy P t q) (ht : P.underlying t = some (.slice e)) (hc : P.cellsOf e = 3) (hs : lineT P e ep = true) :
    ∃ l : List Ln, q.vs 3 = some (l.map lV) ∧ (∀ L ∈ l, L.raw) ∧ l.length ≤ 9223372036854775807 := by
  cases h with
  | nils ht' => exact ⟨[], rfl, fun f h => (by cases h), by simp⟩
  | bys _ ht' he' => rw [ht] at ht'; cases ht'; simp [lineT, fieldsT, he'] at hs
  | sl xs ht' he' hl hx =>
    rw [ht] at ht'; cases ht'
    have : ∀ xs : List PV, (∀ x ∈ xs, HasTy P e x) → ∃ l : List Ln, xs = l.map lV ∧ ∀ L ∈ l, L.raw := by
      intro xs
      induction xs with
      | nil => intro _; exact ⟨[], rfl, fun f h => (by cases h)⟩
      | cons x r ih =>
        intro hx
        obtain ⟨f, rfl, hf⟩ := HasTy.line (hx x (by simp)) hs
        obtain ⟨l, rfl, hl⟩ := ih (fun y hy => hx y (by simp [hy]))
        refine ⟨f :: l, rfl, fun g hg => ?_⟩
        rcases List.mem_cons.1 hg with rfl | hg
        · exact hf
        · exact hl g hg
    obtain ⟨l, rfl, hl2⟩ := this xs hx
    exact ⟨l, by simp [PV.vs, hc], hl2, Nat.le_trans (by simpa using hl) (by decide)⟩
  | bool _ ht' => rw [ht] at ht'; cases ht'
  | int _ ht' => rw [ht] at ht'; cases ht'
  | u8 _ ht' => rw [ht] at ht'; cases ht'
  | str _ ht' => rw [ht] at ht'; cases ht'
  | agg _ ht' => rw [ht] at ht'; cases ht'
end Go.Ab
/-
  Texts without blanks at their ends; values of fields.
-/
namespace Go.Ab
variable {st s : St} {e : Env}

end Go.Ab
/-
  The document's trimming; values; small letters; fields of a name, by the document.
-/
namespace Go.Ab
variable {st s : St} {e : Env}

end Go.Ab
/-
  Values of fields; small letters and fields of a name, by the document.
-/
namespace Go.Ab
variable {st s : St} {e : Env}

theorem Grew.kept (h : Grew st s) : Kept st s := ⟨by rw [h.bx]; simp, h.lp, by rw [h.lw]; exact Nat.le_refl _, h.tk⟩
end Go.Ab
/-
  Rules that part the ways of a run: each way under what it was taken for.
-/
namespace Go.Ab
variable {A : AP} {st : St} {e : Env}

end Go.Ab
/-
  strings.Cut.
-/
namespace Go.Ab
variable {st : St} {e : Env}

theorem faP {n k b : Nat} : faddrPV n (.ptr b k) = some (.ptr b (k + n)) := rfl
end Go.Ab
/-
  Helpers: how a call ends, cuts of which a first part may return.
-/
namespace Go.Ab
variable {st s : St} {e : Env}

theorem ret1 {a : Nat} {v : PV} (ha : e a = v) (hnt : notTup v = true) (hk : Kept st s) (hf : Flat v) : ∃ rv, resOf e s [.tmp a] = some rv ∧ leave st s rv = (v, st) :=
  ⟨v, by simp [resOf, rvAll, rv1, ha, hnt, packRes], hk.leave' hf⟩
theorem retB {a : Nat} {b c : Bool} (ha : e a = .bool b) (hk : Kept st s) (hb : b = c) : ∃ rv, resOf e s [.tmp a] = some rv ∧ leave st s rv = (.bool c, st) := by
  subst hb; exact ret1 ha rfl hk ⟨fun _ => rfl, fun _ _ => rfl⟩
theorem retI {a : Nat} {k : IntKind} {b c : Int} (ha : e a = .int k b) (hk : Kept st s) (hb : b = c) : ∃ rv, resOf e s [.tmp a] = some rv ∧ leave st s rv = (.int k c, st) := by
  subst hb; exact ret1 ha rfl hk ⟨fun _ => rfl, fun _ _ => rfl⟩
theorem ret3 {a b c : Nat} {v w u : PV} (ha : e a = v) (hb : e b = w) (hc : e c = u) (h1 : notTup v = true) (h2 : notTup w = true) (h3 : notTup u = true) (hk : Kept st s) (hf : Flat (.tup [v, w, u])) : ∃ rv, resOf e s [.tmp a, .tmp b, .tmp c] = some rv ∧ leave st s rv = (.tup [v, w, u], st) :=
  ⟨.tup [v, w, u], by simp [resOf, rvAll, rv1, ha, hb, hc, h1, h2, h3, packRes], hk.leave' hf⟩
def endX (st : St) (rs : List RV) (R : PV × St → Prop) : Ex → Env → St → Prop := fun x e1 st1 => (x = .normal ∨ x = .ret) ∧ ∃ rv, resOf e1 st1 rs = some rv ∧ R (leave st st1 rv)
theorem call_ex {f : Nat} {args : List PV} {fn : ACFn} {R : PV × St → Prop} (hA : prog f = some (.code fn))
    (h : W prog fn.body (env0 args) { st with low := st.boxes.length } (endX st fn.results R)) : ∃ r, call prog (.fn f []) args st = some r ∧ R r := by
  obtain ⟨⟨x, e1, st1⟩, h1, h2, rv, h3, h4⟩ := h
  refine ⟨_, ?_, h4⟩
  rw [call_fn hA, List.append_nil, h1]
  rcases h2 with rfl | rfl
  · simp only [finish]; simp only at h3 h4; rw [h3]; rfl
  · simp only [finish]; simp only at h3 h4; rw [h3]; rfl
theorem Kept.box {S : St} {z : List PV} (h : Kept st S) (hbx : S.boxes.length = st.boxes.length + 1) : Kept st ⟨st.boxes ++ [z], S.toks, S.loops, S.low⟩ := ⟨by simp, h.lp, h.lw, h.tk⟩
theorem Kept.toks {T : List Bool} (h : Kept st s) : Kept st ⟨s.boxes, s.toks ++ T, s.loops, s.low⟩ := by
  refine ⟨h.bx, h.lp, h.lw, ?_⟩
  have h1 := h.tk
  have h2 : st.toks.length ≤ s.toks.length := by have := congrArg List.length h1; simp at this; omega
  simp only [List.take_append_of_le_length h2]
  exact h1
end Go.Ab
/-
  Rows of one's own in a state that keeps what the caller has.
-/
namespace Go.Ab
variable {st s : St} {e : Env}

theorem Kept.appV {esz : Nat} {v u w : PV} {xs : List PV} (hk : Kept st s) (h : Own st s esz v xs) (hl : xs.length + 1 ≤ room) :
    ∃ v' s', Ab.appV esz s.tok1 v (.sl esz (.own s.toks.length) [u]) = some (v', s') ∧ Kept st s' ∧ Own st s' esz v' (xs ++ [u]) ∧ s'.boxes = s.boxes := by
  have hk1 := hk.tok1
  have hg : GrewAt s.tok1.boxes st.toks s.tok1.loops s.tok1.low s.tok1 := ⟨rfl, rfl, rfl, hk1.tk⟩
  have h1 := h.tok1
  obtain ⟨g2, o2⟩ := Own.app (ys := xs ++ [u]) hg h1
  refine ⟨_, _, appV_own h1 hl, ⟨?_, ?_, ?_, g2.tk⟩, o2, g2.bx⟩
  · rw [g2.bx]; exact hk1.bx
  · rw [g2.lp]; exact hk1.lp
  · rw [g2.lw]; exact hk1.lw
theorem Kept.leaveOwn1 {esz : Nat} {v : PV} {xs : List PV} (hk : Kept st s) (h : Own st s esz v xs) (hne : xs = [] → v = .nils) : Ab.leave st s v = (newSl st esz xs, newS st xs.isEmpty) := by
  have e1 := hk.bx; have e2 := hk.lp; have e3 := hk.tk
  rcases h with ⟨rfl, rfl⟩ | ⟨i, rfl, h2, h3⟩
  · simp [Ab.leave, PV.inB, hk.lw, keepRes, keepVal, keepLeaf, newSl, newS, e1, e2, e3]
  · by_cases hx : xs = []
    · have := hne hx; cases this
    · simp [Ab.leave, PV.inB, hk.lw, keepRes, keepVal, keepLeaf, keepTok, newSl, newS, hx, h3, show ¬ i < st.toks.length by omega, e1, e2, e3, St.tok1]
theorem own_nt {esz : Nat} {v : PV} {xs : List PV} (h : Own st s esz v xs) : notTup v = true := by rcases h with ⟨rfl, _⟩ | ⟨i, rfl, _⟩ <;> rfl
end Go.Ab
/-
  Addresses: plain.
-/
namespace Go.Ab

abbrev Bs := List UInt8
def alnC (c : UInt8) : Bool := (decide (97 ≤ c) && decide (c ≤ 122)) || (decide (65 ≤ c) && decide (c ≤ 90)) || (decide (48 ≤ c) && decide (c ≤ 57))
def signs : Bs := [33, 35, 36, 37, 38, 39, 42, 43, 45, 47, 61, 63, 94, 95, 123, 124, 125, 126, 96]
def atC (c : UInt8) : Bool := alnC c || signs.contains c
def labC (c : UInt8) : Bool := alnC c || decide (c = 45)
abbrev Adr := Bs × Bs × Bs
def locC (c : UInt8) : Prop := atC c = true ∨ c = 46
def domC (c : UInt8) : Prop := labC c = true ∨ c = 46
structure RightA (a : Adr) : Prop where
  lc : ∀ c ∈ a.2.1, locC c
  ln : a.2.1 ≠ []
  dc : ∀ c ∈ a.2.2, domC c
  dn : a.2.2 ≠ []
  nl : a.1.length ≤ 128
  ll : a.2.1.length ≤ 64
  dl : a.2.2.length ≤ 253
end Go.Ab
/-
  Lines' folds are undone: bytes are replaced.
-/
namespace Go.Ab
set_option maxRecDepth 20000
variable {st s : St} {e : Env}

def rep3 (x : UInt8) (q : Bs) : Bs → Bs
  | a :: b :: c :: r => if a = 13 ∧ b = 10 ∧ c = x then q ++ rep3 x q r else a :: rep3 x q (b :: c :: r)
  | l => l
termination_by l => l.length
def cnt3 (x : UInt8) : Bs → Nat
  | a :: b :: c :: r => if a = 13 ∧ b = 10 ∧ c = x then 1 + cnt3 x r else cnt3 x (b :: c :: r)
  | _ => 0
termination_by l => l.length
theorem rep3_yes {x : UInt8} {q r : Bs} : rep3 x q (13 :: 10 :: x :: r) = q ++ rep3 x q r := by rw [rep3, if_pos ⟨rfl, rfl, rfl⟩]
theorem rep3_no {x a b c : UInt8} {q r : Bs} (h : ¬ (a = 13 ∧ b = 10 ∧ c = x)) : rep3 x q (a :: b :: c :: r) = a :: rep3 x q (b :: c :: r) := by rw [rep3, if_neg h]
theorem rep3_nil {x : UInt8} {q : Bs} : rep3 x q [] = [] := by unfold rep3; rfl
theorem rep3_one {x a : UInt8} {q : Bs} : rep3 x q [a] = [a] := by unfold rep3; rfl
theorem rep3_two {x a b : UInt8} {q : Bs} : rep3 x q [a, b] = [a, b] := by unfold rep3; rfl
theorem cnt3_yes {x : UInt8} {r : Bs} : cnt3 x (13 :: 10 :: x :: r) = 1 + cnt3 x r := by rw [cnt3, if_pos ⟨rfl, rfl, rfl⟩]
theorem cnt3_no {x a b c : UInt8} {r : Bs} (h : ¬ (a = 13 ∧ b = 10 ∧ c = x)) : cnt3 x (a :: b :: c :: r) = cnt3 x (b :: c :: r) := by rw [cnt3, if_neg h]
theorem cnt3_nil {x : UInt8} : cnt3 x [] = 0 := by unfold cnt3; rfl
theorem cnt3_one {x a : UInt8} : cnt3 x [a] = 0 := by unfold cnt3; rfl
theorem cnt3_two {x a b : UInt8} : cnt3 x [a, b] = 0 := by unfold cnt3; rfl

theorem pre3 {x a b c : UInt8} {r : Bs} : ([13, 10, x] : Bs).isPrefixOf (a :: b :: c :: r) = decide (a = 13 ∧ b = 10 ∧ c = x) := by
  by_cases h : a = 13 ∧ b = 10 ∧ c = x
  · obtain ⟨rfl, rfl, rfl⟩ := h
    simp [List.isPrefixOf]
  · rw [decide_eq_false h, Bool.eq_false_iff]
    intro q
    simp only [List.isPrefixOf, Bool.and_true, Bool.and_eq_true, beq_iff_eq] at q
    exact h ⟨q.1.symm, q.2.1.symm, q.2.2.symm⟩
theorem idx3 {x : UInt8} {q : Bs} : ∀ (k : Nat) (l : Bs), l.length ≤ k → (Lib.index l [13, 10, x] = -1 ∧ rep3 x q l = l ∧ cnt3 x l = 0) ∨
    (∃ i : Nat, Lib.index l [13, 10, x] = (i : Int) ∧ i + 3 ≤ l.length ∧ rep3 x q l = l.take i ++ (q ++ rep3 x q (l.drop (i + 3))) ∧ cnt3 x l = 1 + cnt3 x (l.drop (i + 3))) := by
  intro k
  induction k with
  | zero =>
    intro l h
    have : l = [] := List.eq_nil_of_length_eq_zero (by omega)
    subst this
    exact .inl ⟨rfl, rep3_nil, cnt3_nil⟩
  | succ k ih =>
    intro l h
    match l with
    | [] => exact .inl ⟨rfl, rep3_nil, cnt3_nil⟩
    | [a] => exact .inl ⟨by simp [Lib.index, List.isPrefixOf], rep3_one, cnt3_one⟩
    | [a, b] => exact .inl ⟨by simp [Lib.index, List.isPrefixOf], rep3_two, cnt3_two⟩
    | a :: b :: c :: r =>
      by_cases hp : a = 13 ∧ b = 10 ∧ c = x
      · obtain ⟨rfl, rfl, rfl⟩ := hp
        refine .inr ⟨0, ?_, by simp, by rw [rep3_yes]; simp, by rw [cnt3_yes]; simp⟩
        rw [Lib.index, pre3, if_pos (by simp)]; rfl
      · have hx : Lib.index (a :: b :: c :: r) [13, 10, x] = if Lib.index (b :: c :: r) [13, 10, x] == -1 then -1 else Lib.index (b :: c :: r) [13, 10, x] + 1 := by
          rw [Lib.index, pre3, if_neg (by simpa using hp)]
        rw [hx, rep3_no hp, cnt3_no hp]
        rcases ih (b :: c :: r) (by simp at h ⊢; omega) with ⟨h1, h2, h3⟩ | ⟨i, h1, h2, h3, h4⟩
        · exact .inl ⟨by rw [h1]; rfl, by rw [h2], h3⟩
        · refine .inr ⟨i + 1, ?_, by simp at h2 ⊢; omega, ?_, ?_⟩
          · rw [h1, if_neg (by simp)]; first | rfl | omega
          · rw [h3]; rfl
          · rw [h4]; rfl
theorem rep3_len {x : UInt8} {q : Bs} : ∀ (k : Nat) (l : Bs), l.length ≤ k → (rep3 x q l).length + 3 * cnt3 x l = l.length + q.length * cnt3 x l := by
  intro k
  induction k with
  | zero =>
    intro l h
    have : l = [] := List.eq_nil_of_length_eq_zero (by omega)
    subst this
    rw [rep3_nil, cnt3_nil]; simp
  | succ k ih =>
    intro l h
    match l with
    | [] => rw [rep3_nil, cnt3_nil]; simp
    | [a] => rw [rep3_one, cnt3_one]; simp
    | [a, b] => rw [rep3_two, cnt3_two]; simp
    | a :: b :: c :: r =>
      by_cases hp : a = 13 ∧ b = 10 ∧ c = x
      · obtain ⟨rfl, rfl, rfl⟩ := hp
        have := ih r (by simp at h; omega)
        rw [rep3_yes, cnt3_yes, List.length_append]; simp only [Nat.mul_add, Nat.mul_one, List.length_cons]; omega
      · have := ih (b :: c :: r) (by simp at h ⊢; omega)
        rw [rep3_no hp, cnt3_no hp]; simp at this ⊢; omega

def unfV : Bs → Bs
  | a :: b :: c :: r => if a = 13 ∧ b = 10 ∧ (c = 32 ∨ c = 9) then unfV r else a :: unfV (b :: c :: r)
  | l => l
termination_by l => l.length
theorem rep9_head {l : Bs} {c : UInt8} {t : Bs} (h : rep3 9 [13, 10, 32] l = c :: t) : ∃ t', l = c :: t' := by
  match l with
  | [] => rw [rep3_nil] at h; cases h
  | [a] => rw [rep3_one] at h; exact ⟨[], by rw [(List.cons.inj h).1]⟩
  | [a, b] => rw [rep3_two] at h; exact ⟨[b], by rw [(List.cons.inj h).1]⟩
  | a :: b :: d :: r =>
    by_cases hp : a = 13 ∧ b = 10 ∧ d = 9
    · obtain ⟨rfl, rfl, rfl⟩ := hp
      rw [rep3_yes] at h; exact ⟨_, by rw [← (List.cons.inj h).1]⟩
    · rw [rep3_no hp] at h; exact ⟨_, by rw [(List.cons.inj h).1]⟩
theorem rep9_cons {a : UInt8} {l : Bs} (h : a ≠ 13) : rep3 9 [13, 10, 32] (a :: l) = a :: rep3 9 [13, 10, 32] l := by
  match l with
  | [] => rw [rep3_nil, rep3_one]
  | [b] => rw [rep3_one, rep3_two]
  | b :: c :: r => rw [rep3_no (fun q => h q.1)]
theorem unf_eq : ∀ (k : Nat) (l : Bs), l.length ≤ k → rep3 32 [] (rep3 9 [13, 10, 32] l) = unfV l := by
  intro k
  induction k with
  | zero =>
    intro l h
    have : l = [] := List.eq_nil_of_length_eq_zero (by omega)
    subst this
    rw [rep3_nil, rep3_nil]; unfold unfV; rfl
  | succ k ih =>
    intro l h
    match l with
    | [] => rw [rep3_nil, rep3_nil]; unfold unfV; rfl
    | [a] => rw [rep3_one, rep3_one]; unfold unfV; rfl
    | [a, b] => rw [rep3_two, rep3_two]; unfold unfV; rfl
    | a :: b :: c :: r =>
      rw [unfV]
      have ihr := ih r (by simp at h; omega)
      by_cases hp : a = 13 ∧ b = 10 ∧ (c = 32 ∨ c = 9)
      · rw [if_pos hp]
        obtain ⟨rfl, rfl, rfl | rfl⟩ := hp
        · rw [rep3_no (by decide), rep9_cons (by decide), rep9_cons (by decide), rep3_yes, List.nil_append]; exact ihr
        · rw [rep3_yes]
          show rep3 32 [] (13 :: 10 :: 32 :: _) = _
          rw [rep3_yes, List.nil_append]; exact ihr
      · rw [if_neg hp]
        have ih2 := ih (b :: c :: r) (by simp at h ⊢; omega)
        rw [rep3_no (fun q => hp ⟨q.1, q.2.1, .inr q.2.2⟩), ← ih2]
        generalize hR : rep3 9 [13, 10, 32] (b :: c :: r) = R
        match R, hR with
        | [], _ => rw [rep3_one, rep3_nil]
        | [x], _ => rw [rep3_two, rep3_one]
        | x :: y :: t, hR =>
          rw [rep3_no]
          rintro ⟨q1, q2, q3⟩
          subst q1 q2 q3
          obtain ⟨t1, h1⟩ := rep9_head hR
          obtain ⟨rfl, rfl⟩ := List.cons.inj h1
          rw [rep9_cons (by decide)] at hR
          obtain ⟨t2, h2⟩ := rep9_head (List.cons.inj hR).2
          exact hp ⟨rfl, rfl, .inl (List.cons.inj h2).1⟩
end Go.Ab
/-
  Lines' folds are undone, walked.
-/
namespace Go.Ab
set_option maxRecDepth 20000
variable {st s : St} {e : Env}

theorem bIndex_spec {y v : PV} {l p : Bs} (hy : y.by = some l) (hv : v.by = some p) (hl : l.length ≤ 100000000) (hp : p.length ≤ 100) : call prog (.fn 32 []) [y, v] st = some (.int .i64 (Lib.index l p), st) := by
  rw [call_prim prog_32]
  simp only [List.append_nil, pBytesIndex, hy, hv]
  rw [if_pos ⟨by omega, by omega⟩]; rfl

set_option maxHeartbeats 2000000 in
theorem Count_spec {y v : PV} {l : Bs} {x : UInt8} (hy : y.by = some l) (hv : v.by = some [13, 10, x]) (hl : l.length ≤ 10000000) : call prog (.fn 104 []) [y, v] st = some (.int .i64 ((cnt3 x l : Nat) : Int), st) := by
  refine call_of_W prog_104 ?_
  unfold F_bytes_Count; dsimp only
  have hlp : lenPV false v = some (.int .i64 3) := by rw [len_by hv]; rfl
  simp (maxSteps := 1000000) (disch := omega) only [hlp, qaaz, qabz, qacz, qadz, qaez, qajz, qalz, evOp, qaoz, qapz, qarz, qatz, qavz,
 ↓reduceIte, Nat.reduceEqDiff, List.append_nil, qawz, qaxz, Option.map_some, qazz, qbhz, qbtz, decide_false,
 Bool.false_eq_true, Int.reduceEq]
  obtain ⟨Q0, hQ0⟩ : ∃ Q0 : Ex → Env → St → Prop, Q0 = endQ st [.tmp 4] (.int .i64 ((cnt3 x l : Nat) : Int), st) := ⟨_, rfl⟩
  rw [← hQ0]
  obtain ⟨I, hI⟩ : ∃ I : Nat → Env → St → Prop, I = fun k E S => ∃ (r : Bs) (z : PV) (n : Nat), k = r.length ∧ r.length ≤ l.length ∧ S = (⟨st.boxes, st.toks, st.loops, st.boxes.length⟩ : St) ∧ z.by = some r ∧ n + cnt3 x r = cnt3 x l ∧ n + r.length ≤ l.length ∧ E 0 = z ∧ E 1 = v ∧ E 5 = .int .i64 (n : Int) := ⟨_, rfl⟩
  refine W_loop I ?_ (n := l.length) (by
    rw [hI]; exact ⟨l, y, 0, rfl, Nat.le_refl _, rfl, hy, by omega, by omega, rfl, rfl, rfl⟩)
  intro k E S hh
  rw [hI] at hh
  obtain ⟨r, z, n, rfl, hr, hS, hz, hc, hn, h0, h1, h5⟩ := hh
  rw [hS]; clear hS S
  have hix := fun S : St => bIndex_spec (st := S) hz hv (by omega) (by simp)
  rcases idx3 (x := x) (q := []) r.length r (Nat.le_refl _) with ⟨i1, i2, i3⟩ | ⟨i, i1, i2, i3, i4⟩
  · rw [i1] at hix
    simp (maxSteps := 1000000) (disch := omega) only [h0, h1, h5, hix, Int.reduceNeg, qaaz, qabz, qacz, qadz, qaiz, qajz, qalz, evOp, qaoz, qapz, qaqz, qarz, qatz, qavz,
 ↓reduceIte, Nat.reduceEqDiff, List.map_cons, List.map_nil, Option.map_some, qazz, qbaz, qbez, qbhz, qbiz, qbtz, decide_true]
    rw [hQ0, qblz]
    exact retI rfl Kept.start (by omega)
  · rw [i1] at hix
    have hi0 : ¬ (i : Int) = -1 := by omega
    have hsl : slcPV 1 z (some (.int .i64 ((i + 3 : Nat) : Int))) none none = some (z.dropB (i + 3)) := by rw [slc_lo hz (by omega) (by omega), Int.toNat_natCast]
    have ad : binPV .add .no (.int .i64 (i : Int)) (.int .i64 3) = some (.int .i64 ((i + 3 : Nat) : Int)) := by rw [add_i (by omega) (by omega)]; congr 2
    simp (maxSteps := 1000000) (disch := omega) only [h0, h1, h5, hix, hi0, hlp, ad, hsl, add_n, loopQ_normal, Int.reduceNeg, qaaz, qabz, qacz, qadz, qaez, qajz, qalz, evOp, qaoz, qapz, qaqz, qarz, qatz, qavz,
 ↓reduceIte, Nat.reduceEqDiff, List.map_cons, List.map_nil, Option.map_some, Option.map_none, qazz, qbdz, qbhz, qbtz, decide_false,
 Bool.false_eq_true, Int.reduceToNat, reduceCtorEq]
    refine ⟨(r.drop (i + 3)).length, by simp; omega, ?_⟩
    rw [hI]
    exact ⟨r.drop (i + 3), z.dropB (i + 3), n + 1, rfl, by simp; omega, rfl, dropB_by hz, by omega, by simp; omega, rfl, h1, rfl⟩

def fillB (done : Bs) (k : Nat) : List PV := done.map .b8 ++ List.replicate k (.b8 0)
theorem setCells_mid (vs : List PV) : ∀ (a b : List PV), vs.length ≤ b.length → setCells (a ++ b) a.length vs = a ++ vs ++ b.drop vs.length := by
  induction vs with
  | nil => intro a b _; simp [setCells]
  | cons v vs ih =>
    intro a b h
    match b, h with
    | w :: b, h =>
      rw [setCells]
      have e1 : (a ++ w :: b).set a.length v = (a ++ [v]) ++ b := by
        rw [List.set_append_right _ _ (Nat.le_refl _)]; simp
      have := ih (a ++ [v]) b (by simpa using h)
      rw [List.length_append] at this
      rw [e1]
      show setCells (a ++ [v] ++ b) (a.length + 1) vs = _
      rw [show a.length + 1 = a.length + [v].length from rfl, this]; simp
theorem copy_fit {B : List (List PV)} {tk : List Bool} {lp : List LoopS} {lo : Nat} {done m : Bs} {k : Nat} {y : PV} (hy : y.by = some m) (hm : m.length ≤ k) :
    copyPV ⟨B ++ [fillB done k], tk, lp, lo⟩ (.ms B.length done.length k) y = some (.int .i64 ((m.length : Nat) : Int), ⟨B ++ [fillB (done ++ m) (k - m.length)], tk, lp, lo⟩) := by
  have hlen : (fillB done k).length = done.length + k := by simp [fillB]
  have hset : setCells (fillB done k) done.length (m.map .b8) = fillB (done ++ m) (k - m.length) := by
    unfold fillB
    have := setCells_mid (m.map .b8) (done.map .b8) (List.replicate k (.b8 0)) (by simpa using hm)
    rw [List.length_map] at this
    rw [this]; simp
  simp only [copyPV, src8_by hy]
  simp only [List.getElem?_append_right (Nat.le_refl _), Nat.sub_self, List.getElem?_cons_zero, hlen, Nat.le_refl, if_true, Nat.min_eq_left hm, List.take_of_length_le hm, hset]
  simp
theorem slc_ms {b N w : Nat} (h : w ≤ N) : slcPV 1 (.ms b 0 N) (some (.int .i64 (w : Int))) none none = some (.ms b w (N - w)) := by
  simp [slcPV, bnd, intOf, h]
theorem slc_ms0 {b N : Nat} : slcPV 1 (.ms b 0 N) (some (.int .i64 0)) (some (.int .i64 (N : Int))) none = some (.ms b 0 N) := by
  simp [slcPV, bnd, intOf]
theorem mulI {ek : EK} {a c : Int} (h1 : -9223372036854775808 ≤ a * c) (h2 : a * c < 9223372036854775808) : binPV .mul ek (.int .i64 a) (.int .i64 c) = some (.int .i64 (a * c)) := by
  simp only [binPV, binI, reduceIte, Option.some.injEq]
  rw [wrap64 h1 h2]

def repOK (st : St) (m : Bs) (r : PV × St) : Prop := ∃ T, r.2 = ⟨st.boxes, st.toks ++ T, st.loops, st.low⟩ ∧ r.1.by = some m
theorem leaveB1 {S : St} {w : PV} {l : Bs} (hg : Grew st S) (hw : OwnB st S w l) : repOK st l (leave st S w) := by
  obtain ⟨hb, hl, hlw, ht⟩ := hg
  rcases hw with ⟨rfl, rfl⟩ | ⟨i, rfl, hi1, hi2⟩
  · refine ⟨[], ?_, ?_⟩
    · simp [leave, PV.inB, hlw, hb, hl, ht, keepRes, keepVal, keepLeaf]
    · simp [leave, PV.inB, hlw, hb, hl, ht, keepRes, keepVal, keepLeaf, PV.by]
  · refine ⟨[true], ?_, ?_⟩
    · simp [leave, PV.inB, hlw, hb, hl, ht, keepRes, keepVal, keepLeaf, keepTok, hi2, show ¬ i < st.toks.length by omega]
    · simp [leave, PV.inB, hlw, hb, hl, ht, keepRes, keepVal, keepLeaf, keepTok, hi2, show ¬ i < st.toks.length by omega, PV.by]
theorem leaveB2 {w : PV} {l : Bs} {T : List Bool} (hw : w.by = some l) : repOK st l (leave st ⟨st.boxes, st.toks ++ T, st.loops, st.boxes.length⟩ w) := by
  rcases by_cases' hw with ⟨rfl, rfl⟩ | ⟨t, rfl⟩
  · refine ⟨[], ?_, ?_⟩
    · simp [leave, PV.inB, keepRes, keepVal, keepLeaf]
    · simp [leave, PV.inB, keepRes, keepVal, keepLeaf, PV.by]
  · have hb : (leave st ⟨st.boxes, st.toks ++ T, st.loops, st.boxes.length⟩ (.bys t l)).2.toks.take st.toks.length = st.toks ∧ (leave st ⟨st.boxes, st.toks ++ T, st.loops, st.boxes.length⟩ (.bys t l)).2.boxes = st.boxes ∧ (leave st ⟨st.boxes, st.toks ++ T, st.loops, st.boxes.length⟩ (.bys t l)).2.loops = st.loops ∧ (leave st ⟨st.boxes, st.toks ++ T, st.loops, st.boxes.length⟩ (.bys t l)).2.low = st.low ∧ (leave st ⟨st.boxes, st.toks ++ T, st.loops, st.boxes.length⟩ (.bys t l)).1.by = some l := by
      simp [leave, PV.inB, keepRes, keepVal, keepLeaf, PV.by]
    obtain ⟨b1, b2, b3, b4, b5⟩ := hb
    generalize leave st ⟨st.boxes, st.toks ++ T, st.loops, st.boxes.length⟩ (.bys t l) = r at *
    obtain ⟨v, B, K, L, lo⟩ := r
    simp only at b1 b2 b3 b4 b5
    subst b2 b3 b4
    refine ⟨K.drop st.toks.length, ?_, b5⟩
    have := List.take_append_drop st.toks.length K
    rw [b1] at this
    rw [this]
theorem bytes_fill (l : Bs) : bytesOf (fillB l 0) = some l := by
  unfold fillB
  simp only [List.replicate_zero, List.append_nil]
  induction l with
  | nil => rfl
  | cons c l ih => simp [bytesOf, ih]
theorem leave_fill {m : Bs} {T : List Bool} : repOK st m (leave st ⟨st.boxes ++ [fillB m 0], st.toks ++ T, st.loops, st.boxes.length⟩ (.ms st.boxes.length 0 m.length)) := by
  have h1 : (PV.ms st.boxes.length 0 m.length).inB st.boxes.length = false := by simp [PV.inB]
  have h3 : (fillB m 0).length = m.length := by simp [fillB]
  have h2 : src8 ⟨st.boxes ++ [fillB m 0], st.toks ++ T, st.loops, st.boxes.length⟩ (.ms st.boxes.length 0 m.length) = some m := by
    simp only [src8, List.getElem?_append_right (Nat.le_refl _), Nat.sub_self, List.getElem?_cons_zero, h3, Nat.zero_add, Nat.le_refl, if_true, List.drop_zero]
    rw [← h3, List.take_length]; exact bytes_fill m
  refine ⟨[], ?_, ?_⟩
  · simp only [leave, h1, h2, Nat.le_refl, if_true]; simp
  · simp only [leave, h1, h2, Nat.le_refl, if_true]; simp [PV.by]

set_option maxHeartbeats 8000000 in
theorem Replace_spec {y v u : PV} {l q : Bs} {x : UInt8} (hy : y.by = some l) (hv : v.by = some [13, 10, x]) (hu : u.by = some q) (hq : q.length = 3 ∨ q = []) (hl : l.length ≤ 10000000) :
    ∃ r, call prog (.fn 103 []) [y, v, u, .int .i64 (-1)] st = some r ∧ repOK st (rep3 x q l) r := by
  refine call_ex prog_103 ?_
  unfold F_bytes_Replace; dsimp only
  obtain ⟨Q0, hQ0⟩ : ∃ Q0 : Ex → Env → St → Prop, Q0 = endX st [.tmp 8] (repOK st (rep3 x q l)) := ⟨_, rfl⟩
  rw [← hQ0]
  have hlp : lenPV false v = some (.int .i64 3) := by rw [len_by hv]; rfl
  have hcn := fun S : St => Count_spec (st := S) hy hv hl
  have hroom : room = 68719476736 := rfl
  obtain ⟨n, hn⟩ : ∃ n, n = cnt3 x l := ⟨_, rfl⟩
  rw [← hn] at hcn
  have hlen := rep3_len (x := x) (q := q) l.length l (Nat.le_refl _)
  obtain ⟨T, hT⟩ : ∃ T, T = rep3 x q l := ⟨_, rfl⟩
  rw [← hT, ← hn] at hlen
  have hnl : n ≤ l.length := by
    have := rep3_len (x := x) (q := []) l.length l (Nat.le_refl _)
    rw [← hn] at this; simp at this; omega
  have hTl : T.length ≤ l.length := by rcases hq with h | h <;> (rw [h] at hlen; simp at hlen; omega)
  by_cases hn0 : n = 0
  · have hn0' : ((n : Nat) : Int) = 0 := by omega
    have hid : rep3 x q l = l := by
      rcases idx3 (x := x) (q := q) l.length l (Nat.le_refl _) with ⟨_, i2, _⟩ | ⟨i, i1, i2, i3, i4⟩
      · exact i2
      · omega
    have fin : ∀ (E : Env) (w : PV) (S : St), Grew st S → OwnB st S w l → E 8 = w → Q0 .ret E S := fun E w S hg hw h8 => by
      rw [hQ0]
      have hnt : notTup w = true := by rcases hw with ⟨rfl, _⟩ | ⟨i, rfl, _⟩ <;> rfl
      refine ⟨.inr rfl, w, by simp [resOf, rvAll, rv1, h8, hnt, packRes], ?_⟩
      rw [hid]; exact leaveB1 hg hw
    by_cases hl0 : l = []
    · have ha : ∀ S : St, app8 S .nils y = some (.nils, S) := fun S => app8_nil rfl (by rw [hy, hl0])
      simp (maxSteps := 1000000) (disch := omega) only [hcn, eq_true hn0', ha, Int.reduceNeg, qaaz, qabz, qacz, qaiz, qajz, qalz, evOp, qaoz, qapz, qaqz, qarz, qatz, qavz,
 ↓reduceIte, Nat.reduceEqDiff, List.map_cons, List.map_nil, qawz, qaxz, Option.map_some, qazz, qbaz, qbhz, qbtz, qbuz, decide_true, reduceCtorEq, ne_eq, not_false_eq_true]
      exact fin _ .nils _ Grew.start (.inl ⟨rfl, hl0⟩) rfl
    · have ha : app8 ⟨st.boxes, st.toks, st.loops, st.boxes.length⟩ .nils y = some (.bys (.own st.toks.length) ([] ++ l), (⟨st.boxes, st.toks, st.loops, st.boxes.length⟩ : St).tok1) := app8_own (st := st) (.inl ⟨rfl, rfl⟩) hy hl0 (by simp; omega)
      simp (maxSteps := 1000000) (disch := omega) only [hcn, eq_true hn0', ha, Int.reduceNeg, qaaz, qabz, qacz, qaiz, qajz, qalz, evOp, qaoz, qapz, qaqz, qarz, qatz, qavz,
 ↓reduceIte, Nat.reduceEqDiff, List.nil_append, List.map_cons, List.map_nil, qawz, qaxz, Option.map_some, qazz, qbaz, qbhz, qbtz, qbuz, decide_true, reduceCtorEq, ne_eq, not_false_eq_true]
      exact fin _ (.bys (.own st.toks.length) l) _ Grew.start.tok1 (.inr ⟨_, rfl, Nat.le_refl _, by simp [St.tok1]⟩) rfl
  · have hn0' : ¬ ((n : Nat) : Int) = 0 := by omega
    have hpe : (n : Int) * ((q.length : Int) - 3) = (T.length : Int) - (l.length : Int) := by
      rcases hq with h | h
      · rw [h] at hlen ⊢; simp; omega
      · rw [h] at hlen ⊢; simp at hlen ⊢; omega
    have hsub : binPV .sub .no (.int .i64 (q.length : Int)) (.int .i64 3) = some (.int .i64 ((q.length : Int) - 3)) := by
      have : q.length ≤ 3 := by rcases hq with h | h <;> (rw [h]; simp)
      exact sub_i (by omega) (by omega)
    have hmul : binPV .mul .no (.int .i64 (n : Int)) (.int .i64 ((q.length : Int) - 3)) = some (.int .i64 ((T.length : Int) - (l.length : Int))) := by
      rw [mulI (by rw [hpe]; omega) (by rw [hpe]; omega), hpe]
    have hadd : binPV .add .no (.int .i64 (l.length : Int)) (.int .i64 ((T.length : Int) - (l.length : Int))) = some (.int .i64 (T.length : Int)) := by
      rw [add_i (by omega) (by omega)]; congr 2; omega
    have hmk : (0 : Int) ≤ (T.length : Int) ∧ T.length ≤ T.length ∧ T.length ≤ room := ⟨by omega, by omega, by omega⟩
    have h03 : (0 : Int) < 3 := by decide
    simp (maxSteps := 1000000) (disch := omega) only [hcn, hn0', len_by hy, len_by hu, hlp, hsub, hmul, hadd, Int.reduceNeg, qaaz, qabz, qacz, qaez, qajz, qakz, qalz, qamz, qanz, evOp, qaoz, qapz, qaqz, qarz, qatz, qavz,
 ↓reduceIte, Nat.reduceEqDiff, List.map_cons, List.map_nil, qawz, qaxz, Option.map_some, qazz, qbhz, qbpz, qbtz, qbuz, beq_false, decide_true, decide_false,
 Int.toNat_natCast, Int.ofNat_le, Bool.false_eq_true, reduceCtorEq, Bool.not_true, ne_eq, not_false_eq_true, Int.reduceLT]
    rw [if_pos hmk]
    simp (maxSteps := 1000000) (disch := omega) only [hlp, h03, qaaz, qabz, qacz, qadz, qajz, qalz, evOp, qaoz, qapz, qarz, qatz, qavz,
 ↓reduceIte, Nat.reduceEqDiff, qawz, qaxz, Option.map_some, qazz, qbhz, qbrz, decide_true]
    obtain ⟨S0, hS0⟩ : ∃ S0 : Bs → St, S0 = fun d => ⟨st.boxes ++ [fillB d (T.length - d.length)], st.toks, st.loops, st.boxes.length⟩ := ⟨_, rfl⟩
    have hcopy : ∀ (d m : Bs) (z : PV), z.by = some m → d.length + m.length ≤ T.length → copyPV (S0 d) (.ms st.boxes.length d.length (T.length - d.length)) z = some (.int .i64 ((m.length : Nat) : Int), S0 (d ++ m)) := fun d m z hz hh => by
      rw [hS0]; dsimp only
      rw [copy_fit hz (by omega)]
      rw [List.length_append, Nat.sub_sub]
    obtain ⟨I, hI⟩ : ∃ I : Nat → Env → St → Prop, I = fun k E S => ∃ (i a : Nat) (d : Bs), k = n - i ∧ i ≤ n ∧ a ≤ l.length ∧ i + cnt3 x (l.drop a) = n ∧ T = d ++ rep3 x q (l.drop a) ∧ S = S0 d ∧ E 0 = y ∧ E 1 = v ∧ E 2 = u ∧ E 10 = .ms st.boxes.length 0 T.length ∧ E 11 = .int .i64 (d.length : Int) ∧ E 12 = .int .i64 (a : Int) ∧ E 48 = .int .i64 (n : Int) ∧ E 49 = .int .i64 (i : Int) := ⟨_, rfl⟩
    refine W_loop I ?_ (n := n) (by
      rw [hI]
      refine ⟨0, 0, [], rfl, by omega, by omega, by rw [List.drop_zero]; omega, by rw [hT]; rfl, ?_, rfl, rfl, rfl, rfl, rfl, rfl, rfl, rfl⟩
      rw [hS0]; simp [fillB])
    intro k E S hh
    rw [hI] at hh
    obtain ⟨i, a, d, rfl, hi, hal, hic, hTT, hS, h0, h1, h2, h10, h11, h12, h48, h49⟩ := hh
    rw [hS]; clear hS S
    have hdl : d.length ≤ T.length := by rw [hTT]; simp
    have sA : slcPV 1 y (some (.int .i64 (a : Int))) none none = some (y.dropB a) := by rw [slc_lo hy (by omega) (by omega), Int.toNat_natCast]
    have hyA := dropB_by (i := a) hy
    have sB : ∀ d : Bs, d.length ≤ T.length → slcPV 1 (.ms st.boxes.length 0 T.length) (some (.int .i64 (d.length : Int))) none none = some (.ms st.boxes.length d.length (T.length - d.length)) := fun d h => slc_ms h
    by_cases hin : i < n
    · have hix := fun S : St => bIndex_spec (st := S) hyA hv (by simp; omega) (by simp)
      rcases idx3 (x := x) (q := q) (l.drop a).length (l.drop a) (Nat.le_refl _) with ⟨i1, i2, i3⟩ | ⟨b, i1, i2, i3, i4⟩
      · omega
      · rw [i1] at hix
        rw [List.length_drop] at i2
        rw [List.drop_drop] at i3 i4
        have adj : binPV .add .no (.int .i64 (a : Int)) (.int .i64 (b : Int)) = some (.int .i64 ((a + b : Nat) : Int)) := by rw [add_i (by omega) (by omega)]; congr 2
        have sC : slcPV 1 y (some (.int .i64 (a : Int))) (some (.int .i64 ((a + b : Nat) : Int))) none = some (y.midB a (a + b)) := by rw [slc_lohi hy (by omega) (by omega) (by omega), Int.toNat_natCast, Int.toNat_natCast]
        obtain ⟨m, hm⟩ : ∃ m, m = (l.drop a).take b := ⟨_, rfl⟩
        have hyC : (y.midB a (a + b)).by = some m := by rw [midB_by hy, List.drop_take, Nat.add_sub_cancel_left, hm]
        rw [← hm] at i3
        rw [i3] at hTT
        have hTle := congrArg List.length hTT
        simp only [List.length_append] at hTle
        have c1 := hcopy d m _ hyC (by omega)
        have c2 := hcopy (d ++ m) q _ hu (by rw [List.length_append]; omega)
        have s2 := sB (d ++ m) (by rw [List.length_append]; omega)
        have w1 : binPV .add .no (.int .i64 (d.length : Int)) (.int .i64 ((m.length : Nat) : Int)) = some (.int .i64 ((d ++ m).length : Int)) := by rw [add_i (by omega) (by omega), List.length_append]; congr 2
        have w2 : binPV .add .no (.int .i64 ((d ++ m).length : Int)) (.int .i64 ((q.length : Nat) : Int)) = some (.int .i64 ((d ++ m ++ q).length : Int)) := by
          rw [add_i (by rw [List.length_append]; omega) (by rw [List.length_append]; omega), List.length_append (as := d ++ m)]; congr 2
        have w3 : binPV .add .no (.int .i64 ((a + b : Nat) : Int)) (.int .i64 3) = some (.int .i64 ((a + b + 3 : Nat) : Int)) := by rw [add_i (by omega) (by omega)]; congr 2
        obtain ⟨d2, hd2⟩ : ∃ d2, d2 = d ++ m := ⟨_, rfl⟩
        rw [← hd2] at c1 c2 s2 w1 w2
        have hT2 : T = d2 ++ q ++ rep3 x q (l.drop (a + (b + 3))) := by rw [hTT, hd2]; simp
        simp (maxSteps := 1000000) (disch := omega) only [h0, h1, h2, h10, h11, h12, h48, h49, hin, sA, hix, adj, sB d hdl, sC, c1, w1, s2, c2, w2, hlp, w3, add_n, loopQ_normal, qaaz, qabz, qacz, qadz, qaez, qajz, qalz, evOp, qaoz, qapz, qaqz, qarz, qatz, qavz,
 ↓reduceIte, Nat.reduceEqDiff, List.map_cons, List.map_nil, Option.map_some, Option.map_none, qazz, qbdz, qbhz, qbpz, decide_true, Int.ofNat_lt, Int.reduceToNat, reduceCtorEq]
        refine ⟨n - (i + 1), by omega, ?_⟩
        rw [hI]
        exact ⟨i + 1, a + b + 3, d2 ++ q, rfl, by omega, by omega, by rw [show a + b + 3 = a + (b + 3) by omega]; omega, by rw [show a + b + 3 = a + (b + 3) by omega]; exact hT2, rfl, h0, h1, h2, h10, rfl, rfl, h48, rfl⟩
    · have hc0 : cnt3 x (l.drop a) = 0 := by omega
      have hid : rep3 x q (l.drop a) = l.drop a := by
        rcases idx3 (x := x) (q := q) (l.drop a).length (l.drop a) (Nat.le_refl _) with ⟨_, i2, _⟩ | ⟨i, i1, i2, i3, i4⟩
        · exact i2
        · omega
      rw [hid] at hTT
      have hTle := congrArg List.length hTT
      rw [List.length_append] at hTle
      have c1 := hcopy d _ _ hyA (by omega)
      have w1 : binPV .add .no (.int .i64 (d.length : Int)) (.int .i64 (((l.drop a).length : Nat) : Int)) = some (.int .i64 (T.length : Int)) := by rw [add_i (by omega) (by omega), hTle]; congr 2
      have s0 := slc_ms0 (b := st.boxes.length) (N := T.length)
      rw [← hTT] at c1
      simp (maxSteps := 1000000) (disch := omega) only [h0, h10, h11, h12, h48, h49, hin, sA, sB d hdl, c1, w1, s0, qaaz, qabz, qacz, qagz, qaiz, qajz, qalz, evOp, qaoz, qapz, qarz, qatz, qavz,
 ↓reduceIte, Nat.reduceEqDiff, Option.map_some, Option.map_none, qazz, qbbz, qbfz, qbhz, qbjz, qbpz, decide_false,
 Int.ofNat_lt, Bool.false_eq_true, reduceCtorEq]
      rw [hQ0, ← hT]
      refine ⟨.inr rfl, .ms st.boxes.length 0 T.length, by simp [resOf, rvAll, rv1, qavz, notTup, packRes], ?_⟩
      have := leave_fill (st := st) (m := T) (T := [])
      rw [List.append_nil] at this
      rw [hS0]
      simpa using this

theorem repAll_spec {y v u : PV} {l q : Bs} {x : UInt8} (hy : y.by = some l) (hv : v.by = some [13, 10, x]) (hu : u.by = some q) (hq : q.length = 3 ∨ q = []) (hl : l.length ≤ 10000000) :
    ∃ r, call prog (.fn 101 []) [y, v, u] st = some r ∧ repOK st (rep3 x q l) r := by
  refine call_ex prog_101 ?_
  unfold F_bytes_ReplaceAll; dsimp only
  obtain ⟨⟨w, S⟩, d1, T, hT, hw⟩ := Replace_spec (st := ⟨st.boxes, st.toks, st.loops, st.boxes.length⟩) hy hv hu hq hl
  simp only at hT hw
  rw [hT] at d1
  simp (maxSteps := 1000000) (disch := omega) only [d1, qaaz, qabz, qaiz, qajz, qalz, evOp, qaoz, qapz, qaqz, qarz, qatz, qavz,
 ↓reduceIte, Nat.reduceEqDiff, List.map_cons, List.map_nil, qawz, qaxz, qazz, reduceCtorEq]
  have hnt : notTup w = true := by rcases by_cases' hw with ⟨rfl, _⟩ | ⟨t, rfl⟩ <;> rfl
  refine ⟨.inr rfl, w, by simp [resOf, rvAll, rv1, qavz, hnt, packRes], ?_⟩
  exact leaveB2 hw
theorem unfold_spec {y : PV} {l : Bs} (hy : y.by = some l) (hl : l.length ≤ 10000000) : ∃ r, call prog (.fn 96 []) [y] st = some r ∧ repOK st (unfV l) r := by
  refine call_ex prog_96 ?_
  unfold F_sheet_unfold; dsimp only
  have hlit9 : lit8Fill (List.replicate 3 0) [(0, .b8 13), (1, .b8 10), (2, .b8 9)] = some [13, 10, 9] := rfl
  have hlit32 : lit8Fill (List.replicate 3 0) [(0, .b8 13), (1, .b8 10), (2, .b8 32)] = some [13, 10, 32] := rfl
  obtain ⟨⟨w, S⟩, d1, T, hT, hw⟩ := repAll_spec (st := ⟨st.boxes, st.toks ++ [true] ++ [true], st.loops, st.boxes.length⟩) (v := .bys (.own st.toks.length) [13, 10, 9]) (u := .bys (.own (st.toks ++ [true]).length) [13, 10, 32]) (x := 9) hy rfl rfl (.inl rfl) hl
  simp only at hT hw
  rw [hT] at d1
  have hwl : (rep3 9 [13, 10, 32] l).length = l.length := by
    have := rep3_len (x := 9) (q := [13, 10, 32]) l.length l (Nat.le_refl _); simp at this; omega
  obtain ⟨⟨w2, S2⟩, d2, T2, hT2, hw2⟩ := repAll_spec (st := ⟨st.boxes, st.toks ++ [true] ++ [true] ++ T ++ [true], st.loops, st.boxes.length⟩) (v := .bys (.own (st.toks ++ [true] ++ [true] ++ T).length) [13, 10, 32]) (u := .nils) (x := 32) hw rfl rfl (.inr rfl) (by omega)
  simp only at hT2 hw2
  rw [hT2] at d2
  rw [unf_eq _ _ (Nat.le_refl _)] at hw2
  have t1 : (st.toks ++ [true])[st.toks.length]? = some true := by simp
  have t2 : (st.toks ++ [true] ++ [true])[(st.toks ++ [true]).length]? = some true := by simp
  have t3 : (st.toks ++ [true] ++ [true] ++ T ++ [true])[(st.toks ++ [true] ++ [true] ++ T).length]? = some true := by simp
  simp (maxSteps := 1000000) (disch := omega) only [hlit9, hlit32, freshT, if_pos t1, if_pos t2, if_pos t3, d1, d2, qaaz, qabz, qaiz, qajz, qalz, evOp, qaoz, qapz, qaqz, qarz, qatz, qavz,
 ↓reduceIte, Nat.reduceEqDiff, List.map_cons, List.map_nil, qawz, qazz, reduceCtorEq]
  have hnt : notTup w2 = true := by rcases by_cases' hw2 with ⟨rfl, _⟩ | ⟨t, rfl⟩ <;> rfl
  refine ⟨.inr rfl, w2, by simp [resOf, rvAll, rv1, qavz, hnt, packRes], ?_⟩
  simp only [List.append_assoc]
  exact leaveB2 hw2
end Go.Ab
/-
  A line is read: the parts of it.
-/
namespace Go.Ab
set_option maxRecDepth 20000
variable {st s : St} {e : Env}

theorem sub_8u {ek : EK} {a c : UInt8} : binPV .sub ek (.b8 a) (.b8 c) = some (.b8 (a - c)) := rfl
def upC (c : UInt8) : UInt8 := if 97 ≤ c ∧ c ≤ 122 then c - 32 else c
def upOf (s : List UInt8) : List UInt8 := s.map upC

theorem upper_spec {s : List UInt8} (h : s.length ≤ 1000000) : call prog (.fn 71 []) [.str s] st = some (.str (upOf s), st) := by
  refine call_of_W prog_71 ?_
  unfold F_sheet_upper; dsimp only
  simp (maxSteps := 1000000) (disch := omega) only [bst_eq, len_ms, qaaz, qabz, qadz, qajz, qalz, evOp, qaoz, qapz, qarz, qatz, qavz,
 ↓reduceIte, List.append_nil, qawz, Option.map_some, qazz, reduceCtorEq]
  obtain ⟨I, hI⟩ : ∃ I : Nat → Env → St → Prop, I = fun n e s' => ∃ (i : Nat) (l : List UInt8), n = s.length - i ∧ i ≤ s.length ∧ l = upOf (s.take i) ++ s.drop i ∧ s' = bst st l ∧ e 3 = .ms st.boxes.length 0 s.length ∧ e 8 = .ms st.boxes.length 0 s.length ∧ e 9 = .int .i64 (s.length : Int) ∧ e 10 = .int .i64 (i : Int) := ⟨_, rfl⟩
  refine W_loop I ?_ (n := s.length) (by
    rw [hI]
    exact ⟨0, s, rfl, by omega, by simp [upOf], rfl, rfl, rfl, rfl, rfl⟩)
  intro n e s' hh
  rw [hI] at hh
  obtain ⟨i, l, rfl, hi, hl, rfl, h3, h8, h9, h10⟩ := hh
  have hll : l.length = s.length := by rw [hl]; simp [upOf]; omega
  by_cases hlt : i < s.length
  · obtain ⟨c, hc⟩ : ∃ c, c = s.getD i 0 := ⟨_, rfl⟩
    have hlc : l.getD i 0 = c := by
      rw [hl, hc]
      simp only [List.getD]
      rw [List.getElem?_append_right (by simp [upOf]; omega)]
      simp [upOf, Nat.min_eq_left hi]
    have hnext : ∀ (E : Env) (l' : List UInt8), l' = l.set i (upC c) → E 3 = .ms st.boxes.length 0 s.length → E 8 = .ms st.boxes.length 0 s.length → E 9 = .int .i64 (s.length : Int) → E 10 = .int .i64 ((i + 1 : Nat) : Int) → I (s.length - (i + 1)) E (bst st l') := by
      intro E l' k0 k1 k2 k3 k4
      rw [hI]
      refine ⟨i + 1, l', rfl, by omega, ?_, rfl, k1, k2, k3, k4⟩
      rw [k0, hl, take_getD hlt, ← hc, drop_getD hlt]
      have hn : (upOf (s.take i)).length = i := by simp [upOf]; omega
      rw [List.set_append_right _ _ (by omega), hn]
      simp [upOf]
    by_cases h97 : 97 ≤ c
    · by_cases h122 : c ≤ 122
      · simp (maxSteps := 1000000) (disch := omega) only [h3, h8, h9, h10, hlt, iaddr_ms, load_bst (st := st) (l := l) (i := i) (by omega), hlc, h97, h122, sub_8u, store_bst (st := st) (l := l) (i := i) (by omega), add_n, qaaz, qabz, qacz, qadz, qaez, qajz, qakz, qalz, qamz, qanz, evOp, qaoz, qapz, qarz, qatz, qauz, qavz,
 ↓reduceIte, Nat.reduceEqDiff, Option.map_some, qazz, qbdz, qbhz, qbpz, qbyz, qcaz, beq_true, decide_true, Int.toNat_natCast, Int.ofNat_lt, Int.reduceToNat]
        exact loopQ_intro (m := s.length - (i + 1)) (by omega) (hnext _ (l.set i (c - 32)) (by simp [upC, h97, h122]) h3 h8 h9 rfl)
      · simp (maxSteps := 1000000) (disch := omega) only [h8, h9, h10, hlt, iaddr_ms, load_bst (st := st) (l := l) (i := i) (by omega), hlc, h97, h122, add_n, qaaz, qabz, qacz, qadz, qaez, qajz, qakz, qalz, qamz, qanz, evOp, qaoz, qapz, qarz, qatz, qavz,
 ↓reduceIte, Nat.reduceEqDiff, Option.map_some, qazz, qbdz, qbhz, qbpz, qbyz, qcaz, beq_true, decide_true, decide_false,
 Int.toNat_natCast, Int.ofNat_lt, Bool.false_eq_true, Int.reduceToNat]
        exact loopQ_intro (m := s.length - (i + 1)) (by omega) (hnext _ l (by simp only [upC, h122, and_false, if_false]; rw [← hlc, List.getD, List.getElem?_eq_getElem (by omega)]; simp) h3 h8 h9 rfl)
    · simp (maxSteps := 1000000) (disch := omega) only [h8, h9, h10, hlt, iaddr_ms, load_bst (st := st) (l := l) (i := i) (by omega), hlc, h97, add_n, qaaz, qabz, qacz, qadz, qaez, qajz, qakz, qalz, qamz, qanz, evOp, qaoz, qapz, qarz, qatz, qavz,
 ↓reduceIte, Nat.reduceEqDiff, Option.map_some, qazz, qbdz, qbhz, qbpz, qcaz, beq_true, decide_true, decide_false,
 Int.toNat_natCast, Int.ofNat_lt, Bool.false_eq_true, Int.reduceToNat]
      exact loopQ_intro (m := s.length - (i + 1)) (by omega) (hnext _ l (by simp only [upC, h97, false_and, if_false]; rw [← hlc, List.getD, List.getElem?_eq_getElem (by omega)]; simp) h3 h8 h9 rfl)
  · obtain rfl : i = s.length := by omega
    simp (maxSteps := 1000000) (disch := omega) only [h3, h9, h10, hlt, b2s_bst (st := st) (l := l) hll.symm, qaaz, qabz, qacz, qagz, qaiz, qajz, qalz, evOp, qaoz, qarz, qatz, qavz,
 ↓reduceIte, Nat.reduceEqDiff, Option.map_some, qazz, qbbz, qbfz, qbhz, qbjz, qblz, qbpz, decide_false,
 Int.ofNat_lt, Bool.false_eq_true]
    exact ⟨.str (upOf s), by rw [hl]; simp [resOf, rvAll, rv1, qavz, notTup, packRes], leave_bst rfl (fun _ _ => rfl)⟩

theorem upOf_take {l : List UInt8} {i : Nat} (h : i < l.length) : upOf (l.take (i + 1)) = upOf (l.take i) ++ [upC (l.getD i 0)] := by
  rw [take_getD h]; simp [upOf]

theorem rUpper_spec {l : List UInt8} (hl : l.length ≤ 100000000) : call prog (.fn 100 []) [.str l] st = some (.str (upOf l), st) := by
  refine call_of_W prog_100 ?_
  unfold F_posthornref10_Upper; dsimp only
  simp (maxSteps := 1000000) (disch := omega) only [qaaz, qabz, qadz, qajz, qalz, evOp, qapz, qarz, qatz, List.append_nil, qazz]
  obtain ⟨I, hI⟩ : ∃ I : Nat → Env → St → Prop, I = fun k e s' => ∃ (i : Nat) (v : PV), k = l.length - i ∧ i ≤ l.length ∧ Kept st s' ∧ Mine st s' v (upOf (l.take i)) ∧ e 0 = .str l ∧ e 3 = v ∧ e 4 = .int .i64 (i : Int) := ⟨_, rfl⟩
  refine W_loop I ?_ (n := l.length) (by
    rw [hI]
    exact ⟨0, .nils, rfl, by omega, Kept.start, Mine.nil, rfl, rfl, rfl⟩)
  intro k e s' hh
  rw [hI] at hh
  obtain ⟨i, v, rfl, hi, hk, hm, h0, h3, h4⟩ := hh
  by_cases hlt : i < l.length
  · obtain ⟨c, hc⟩ : ∃ c, c = l.getD i 0 := ⟨_, rfl⟩
    have hupp := upOf_take hlt
    rw [← hc] at hupp
    obtain ⟨y, s2, a1, k1, k2⟩ := hk.push (c := upC c) hm (by simp [room, upOf]; omega)
    have hnext : ∀ E : Env, E 0 = .str l → E 3 = y → E 4 = .int .i64 ((i + 1 : Nat) : Int) → I (l.length - (i + 1)) E s2 := fun E q0 q3 q4 => by
      rw [hI]; exact ⟨i + 1, y, rfl, by omega, k1, by rw [hupp]; exact k2, q0, q3, q4⟩
    by_cases h97 : 97 ≤ c
    · by_cases h122 : c ≤ 122
      · rw [show upC c = c - 32 by simp [upC, h97, h122]] at a1
        simp (maxSteps := 1000000) (disch := omega) only [h0, h3, h4, len_s, hlt, idx_s, ← hc, h97, h122, sub_8u, lit8_1, freshT_eq, a1, add_n, qaaz, qabz, qacz, qadz, qaez, qajz, qakz, qalz, qamz, qanz, evOp, qaoz, qapz, qarz, qatz, qavz,
 ↓reduceIte, Nat.reduceEqDiff, List.map_cons, List.map_nil, Option.map_some, qazz, qbdz, qbhz, qbpz, qbyz, qcaz, beq_true, decide_true, Int.toNat_natCast, Int.ofNat_lt, Int.reduceToNat, reduceCtorEq]
        exact loopQ_intro (m := l.length - (i + 1)) (by omega) (hnext _ h0 rfl rfl)
      · rw [show upC c = c by simp [upC, h122]] at a1
        simp (maxSteps := 1000000) (disch := omega) only [h0, h3, h4, len_s, hlt, idx_s, ← hc, h97, h122, lit8_1, freshT_eq, a1, add_n, qaaz, qabz, qacz, qadz, qaez, qajz, qakz, qalz, qamz, qanz, evOp, qaoz, qapz, qarz, qatz, qavz,
 ↓reduceIte, Nat.reduceEqDiff, List.map_cons, List.map_nil, Option.map_some, qazz, qbdz, qbhz, qbpz, qbyz, qcaz, beq_true, decide_true, decide_false,
 Int.toNat_natCast, Int.ofNat_lt, Bool.false_eq_true, Int.reduceToNat, reduceCtorEq]
        exact loopQ_intro (m := l.length - (i + 1)) (by omega) (hnext _ h0 rfl rfl)
    · rw [show upC c = c by simp [upC, h97]] at a1
      simp (maxSteps := 1000000) (disch := omega) only [h0, h3, h4, len_s, hlt, idx_s, ← hc, h97, lit8_1, freshT_eq, a1, add_n, qaaz, qabz, qacz, qadz, qaez, qajz, qakz, qalz, qamz, qanz, evOp, qaoz, qapz, qarz, qatz, qavz,
 ↓reduceIte, Nat.reduceEqDiff, List.map_cons, List.map_nil, Option.map_some, qazz, qbdz, qbhz, qbpz, qcaz, beq_true, decide_true, decide_false,
 Int.toNat_natCast, Int.ofNat_lt, Bool.false_eq_true, Int.reduceToNat, reduceCtorEq]
      exact loopQ_intro (m := l.length - (i + 1)) (by omega) (hnext _ h0 rfl rfl)
  · obtain rfl : i = l.length := by omega
    rw [List.take_length] at hm
    simp (maxSteps := 1000000) (disch := omega) only [h0, h3, h4, len_s, hlt, b2s_by hm.by, qaaz, qabz, qacz, qagz, qaiz, qajz, qalz, evOp, qaoz, qarz, qatz, qavz,
 ↓reduceIte, Nat.reduceEqDiff, Option.map_some, qazz, qbbz, qbfz, qbhz, qbjz, qblz, qbpz, decide_false,
 Int.ofNat_lt, Bool.false_eq_true, reduceCtorEq]
    exact ⟨.str (upOf l), rfl, hk.leave rfl (fun _ _ => rfl)⟩


def endI (e s : Bs) : Nat := s.findIdx fun c => e.contains c
theorem endI_le {e s : Bs} : endI e s ≤ s.length := List.findIdx_le_length
theorem endI_cons {e s : Bs} {c : UInt8} : endI e (c :: s) = if e.contains c then 0 else endI e s + 1 := by
  unfold endI; rw [List.findIdx_cons]; cases e.contains c <;> rfl
def cutV (e s : Bs) : Bs × UInt8 × Bs := (s.take (endI e s), if endI e s < s.length then s.getD (endI e s) 0 else 0, s.drop (endI e s + 1))
theorem idxB_has {e : Bs} {c : UInt8} : (0 ≤ Lib.indexByte e c) = (e.contains c = true) := by
  have key : ∀ e : Bs, -1 ≤ Lib.indexByte e c ∧ (0 ≤ Lib.indexByte e c ↔ e.contains c = true) := by
    intro e
    induction e with
    | nil => simp [Lib.indexByte]
    | cons b l ih =>
      obtain ⟨i1, i2⟩ := ih
      rw [Lib.indexByte, List.contains_cons]
      by_cases hb : b = c
      · subst hb; simp
      · have h1 : (b == c) = false := by simpa using hb
        have h2 : (c == b) = false := by simpa using fun q : c = b => hb q.symm
        rw [h1, h2, Bool.false_or, if_neg (by simp)]
        by_cases hm : Lib.indexByte l c = -1
        · rw [hm, if_pos (by rfl)]
          rw [hm] at i2
          exact ⟨by omega, i2⟩
        · rw [if_neg (by simpa using hm), ← i2]
          exact ⟨by omega, by omega⟩
  exact propext (key e).2

set_option maxHeartbeats 2000000 in
theorem cut_spec {x e : Bs} (hl : x.length ≤ 1000000) (he : e.length ≤ 100) : call prog (.fn 70 []) [.str x, .str e] st = some (.tup [.str (cutV e x).1, .b8 (cutV e x).2.1, .str (cutV e x).2.2], st) := by
  refine call_of_W prog_70 ?_
  unfold F_sheet_cut; dsimp only
  simp (maxSteps := 1000000) (disch := omega) only [len_s, qaaz, qabz, qadz, qajz, qalz, evOp, qaoz, qapz, qarz, qatz, qavz,
 ↓reduceIte, List.append_nil, qawz, Option.map_some, qazz, reduceCtorEq]
  obtain ⟨Q0, hQ0⟩ : ∃ Q0 : Ex → Env → St → Prop, Q0 = endQ st [.tmp 4, .tmp 5, .tmp 6] (.tup [.str (cutV e x).1, .b8 (cutV e x).2.1, .str (cutV e x).2.2], st) := ⟨_, rfl⟩
  rw [← hQ0]
  have fin : ∀ (E : Env) (a b : Bs) (c : UInt8), E 4 = .str a → E 5 = .b8 c → E 6 = .str b → cutV e x = (a, c, b) → Q0 .ret E ⟨st.boxes, st.toks, st.loops, st.boxes.length⟩ := fun E a b c h4 h5 h6 h => by
    rw [hQ0, qblz, h]
    exact ⟨.tup [.str a, .b8 c, .str b], by simp [resOf, rvAll, rv1, h4, h5, h6, notTup, packRes], Kept.start.leave' ⟨fun _ => rfl, fun _ _ => rfl⟩⟩
  obtain ⟨I, hI⟩ : ∃ I : Nat → Env → St → Prop, I = fun k E S => ∃ i : Nat, k = x.length - i ∧ i ≤ x.length ∧ S = (⟨st.boxes, st.toks, st.loops, st.boxes.length⟩ : St) ∧ endI e x = i + endI e (x.drop i) ∧ E 0 = .str x ∧ E 1 = .str e ∧ E 9 = .int .i64 (x.length : Int) ∧ E 10 = .int .i64 (i : Int) := ⟨_, rfl⟩
  refine W_loop I ?_ (n := x.length) (by
    rw [hI]; exact ⟨0, rfl, by omega, rfl, by simp, rfl, rfl, rfl, rfl⟩)
  intro k E S hh
  rw [hI] at hh
  obtain ⟨i, rfl, hi, rfl, hd, h0, h1, h9, h10⟩ := hh
  by_cases hlt : i < x.length
  · obtain ⟨c, hc⟩ : ∃ c, c = x.getD i 0 := ⟨_, rfl⟩
    have hdr : x.drop i = c :: x.drop (i + 1) := by rw [List.drop_eq_getElem_cons hlt, hc]; simp [List.getD, hlt]
    rw [hdr, endI_cons] at hd
    have hix : ∀ S : St, call prog (.fn 78 []) [.str e, .b8 c] S = some (.int .i64 (Lib.indexByte e c), S) := fun S => by rw [call_prim prog_78]; simp [pStrIndexByte]
    cases hcc : e.contains c with
    | true =>
      rw [hcc, if_pos rfl, Nat.add_zero] at hd
      have h0i : 0 ≤ Lib.indexByte e c := by rw [idxB_has]; exact hcc
      have s1 : slcPV 0 (.str x) none (some (.int .i64 (i : Int))) none = some (.str (x.take i)) := by rw [slc_s_hi (by omega) (by omega), Int.toNat_natCast]
      have s2 : slcPV 0 (.str x) (some (.int .i64 ((i + 1 : Nat) : Int))) none none = some (.str (x.drop (i + 1))) := by rw [slc_s_lo (by omega) (by omega), Int.toNat_natCast]
      simp (maxSteps := 1000000) (disch := omega) only [h0, h1, h9, h10, hlt, idx_s, ← hc, hix, h0i, s1, s2, add_n, qaaz, qabz, qacz, qadz, qaez, qaiz, qajz, qalz, evOp, qaoz, qapz, qaqz, qarz, qatz, qavz,
 ↓reduceIte, Nat.reduceEqDiff, List.map_cons, List.map_nil, Option.map_some, Option.map_none, qazz, qbaz, qbez, qbhz, qbiz, qbpz, qbsz, decide_true, Int.toNat_natCast, Int.ofNat_lt, Int.reduceToNat, reduceCtorEq]
      exact fin _ _ _ _ rfl rfl rfl (by unfold cutV; rw [hd, if_pos hlt, ← hc])
    | false =>
      rw [hcc, if_neg (by simp)] at hd
      have h0i : ¬ 0 ≤ Lib.indexByte e c := by rw [idxB_has, hcc]; simp
      simp (maxSteps := 1000000) (disch := omega) only [h0, h1, h9, h10, hlt, idx_s, ← hc, hix, h0i, add_n, loopQ_normal, qaaz, qabz, qacz, qadz, qaez, qajz, qalz, evOp, qaoz, qapz, qaqz, qarz, qatz, qavz,
 ↓reduceIte, Nat.reduceEqDiff, List.map_cons, List.map_nil, Option.map_some, qazz, qbdz, qbhz, qbpz, qbsz, decide_true, decide_false,
 Int.toNat_natCast, Int.ofNat_lt, Bool.false_eq_true, Int.reduceToNat, reduceCtorEq]
      refine ⟨x.length - (i + 1), by omega, ?_⟩
      rw [hI]
      exact ⟨i + 1, rfl, by omega, rfl, by omega, h0, h1, h9, rfl⟩
  · have hdn : x.drop i = [] := List.drop_of_length_le (by omega)
    have he : endI e x = x.length := by rw [hd, hdn]; simp [endI]; omega
    simp (maxSteps := 1000000) (disch := omega) only [h0, h9, h10, hlt, qaaz, qabz, qacz, qagz, qaiz, qajz, qalz, evOp, qaoz, qapz, qarz, qatz, qavz,
 ↓reduceIte, Option.map_some, qazz, qbbz, qbfz, qbhz, qbjz, qbpz, decide_false,
 Int.ofNat_lt, Bool.false_eq_true, reduceCtorEq]
    exact fin _ _ _ _ rfl rfl rfl (by unfold cutV; rw [he, if_neg (by omega), List.take_length, List.drop_of_length_le (by omega)])

theorem has_chr3 {e : Bs} {c : UInt8} : hasB e [c] = e.contains c := by
  have := index_one (l := e) (c := c)
  unfold hasB
  rw [Bool.eq_iff_iff, decide_eq_true_eq, this]; simp

set_option maxHeartbeats 2000000 in
theorem place_spec {x e : Bs} {f : Nat} (hl : x.length ≤ 1000000) (he : e.length ≤ 100) (hf : f ≤ x.length) : call prog (.fn 99 []) [.str x, .int .i64 (f : Int), .str e] st = some (.int .i64 ((f + endI e (x.drop f) : Nat) : Int), st) := by
  refine call_of_W prog_99 ?_
  unfold F_posthornref10_place; dsimp only
  simp (maxSteps := 1000000) (disch := omega) only [qaaz, qabz, qadz, qajz, qalz, evOp, qapz, qarz, qatz, List.append_nil, qazz]
  obtain ⟨Q0, hQ0⟩ : ∃ Q0 : Ex → Env → St → Prop, Q0 = endQ st [.tmp 6] (.int .i64 ((f + endI e (x.drop f) : Nat) : Int), st) := ⟨_, rfl⟩
  rw [← hQ0]
  obtain ⟨I, hI⟩ : ∃ I : Nat → Env → St → Prop, I = fun k E S => ∃ i : Nat, k = x.length - i ∧ i ≤ x.length ∧ S = (⟨st.boxes, st.toks, st.loops, st.boxes.length⟩ : St) ∧ f + endI e (x.drop f) = i + endI e (x.drop i) ∧ E 0 = .str x ∧ E 2 = .str e ∧ E 1 = .int .i64 (i : Int) := ⟨_, rfl⟩
  refine W_loop I ?_ (n := x.length - f) (by
    rw [hI]; exact ⟨f, rfl, hf, rfl, rfl, rfl, rfl, rfl⟩)
  intro k E S hh
  rw [hI] at hh
  obtain ⟨i, rfl, hi, rfl, hd, h0, h2, h1⟩ := hh
  by_cases hlt : i < x.length
  · obtain ⟨c, hc⟩ : ∃ c, c = x.getD i 0 := ⟨_, rfl⟩
    have hdr : x.drop i = c :: x.drop (i + 1) := by rw [List.drop_eq_getElem_cons hlt, hc]; simp [List.getD, hlt]
    have hs : slcPV 0 (.str x) (some (.int .i64 (i : Int))) (some (.int .i64 ((i + 1 : Nat) : Int))) none = some (.str [c]) := by
      rw [slc_s (by omega) (by omega) (by omega), Int.toNat_natCast, Int.toNat_natCast, List.drop_take, hdr, Nat.add_sub_cancel_left]; rfl
    rw [hdr, endI_cons] at hd
    have hh := fun S : St => Has_spec (st := S) (a := e) (b := [c]) (by omega) (by simp)
    rw [has_chr3] at hh
    cases hcc : e.contains c with
    | true =>
      rw [hcc, if_pos rfl, Nat.add_zero] at hd
      rw [hcc] at hh
      simp (maxSteps := 1000000) (disch := omega) only [h0, h1, h2, len_s, hlt, add_n, hs, hh, qaaz, qabz, qacz, qagz, qaiz, qajz, qakz, qalz, qamz, qanz, evOp, qaoz, qapz, qaqz, qarz, qatz, qavz,
 ↓reduceIte, Nat.reduceEqDiff, List.map_cons, List.map_nil, Option.map_some, Option.map_none, qazz, qbbz, qbfz, qbhz, qbjz, qbpz, qcfz, beq_true, decide_true, Int.ofNat_lt, Bool.false_eq_true, Int.reduceToNat, reduceCtorEq, Bool.not_true]
      rw [hQ0, qblz]
      exact retI rfl Kept.start (by rw [hd])
    | false =>
      rw [hcc, if_neg (by simp)] at hd
      rw [hcc] at hh
      simp (maxSteps := 1000000) (disch := omega) only [h0, h1, h2, len_s, hlt, add_n, hs, hh, loopQ_normal, qaaz, qabz, qacz, qadz, qaez, qajz, qakz, qalz, qamz, qanz, evOp, qaoz, qapz, qaqz, qarz, qatz, qavz,
 ↓reduceIte, Nat.reduceEqDiff, List.map_cons, List.map_nil, Option.map_some, Option.map_none, qazz, qbdz, qbhz, qbpz, qcfz, beq_true, decide_true, Int.ofNat_lt, Int.reduceToNat, reduceCtorEq, Bool.not_false]
      refine ⟨x.length - (i + 1), by omega, ?_⟩
      rw [hI]
      exact ⟨i + 1, rfl, by omega, rfl, by omega, h0, h2, rfl⟩
  · have hdn : x.drop i = [] := List.drop_of_length_le (by omega)
    simp (maxSteps := 1000000) (disch := omega) only [h0, h1, len_s, hlt, qaaz, qabz, qacz, qagz, qaiz, qajz, qakz, qalz, qamz, qanz, evOp, qaoz, qapz, qarz, qatz, qavz,
 ↓reduceIte, Nat.reduceEqDiff, Option.map_some, qazz, qbbz, qbfz, qbhz, qbjz, qbpz, beq_true, decide_false,
 Int.ofNat_lt, Bool.false_eq_true, reduceCtorEq]
    rw [hQ0, qblz]
    exact retI rfl Kept.start (by rw [hd, hdn]; simp [endI])
end Go.Ab
/-
  Texts of points: put together, cut.
-/
namespace Go.Ab

theorem accP_congr {l m : List UInt8} {p : Nat} : ∀ k, (∀ j, j ≤ k → l.getD j 0 = m.getD j 0) → accP l p k = accP m p k := by
  intro k
  induction k with
  | zero => intro _; rfl
  | succ k ih =>
    intro h
    simp only [accP]
    rw [ih (fun j hj => h j (by omega)), h (k + 1) (by omega)]
theorem next_congr {l m : List UInt8} {p n : Nat} (h : nextOf l = some (p, n)) (hl : n ≤ m.length) (he : ∀ j, j < n → m.getD j 0 = l.getD j 0) : nextOf m = some (p, n) := by
  obtain ⟨h1, h2, -⟩ := next_pos h
  have h0 := he 0 (by omega)
  have hne : m ≠ [] := by rintro rfl; simp at hl; omega
  by_cases hc : (l.getD 0 0).toNat < 128
  · have h' := h
    unfold nextOf at h'
    split at h'
    · cases h'
    · cases h'
      unfold nextOf
      rw [if_neg hne, h0, if_pos hc]
  · obtain ⟨k1, k2, k3⟩ := next_succ hc h
    have hc2 : ¬ (m.getD 0 0).toNat < 128 := by rw [h0]; exact hc
    have hq : qN m n = qN l n := by
      unfold qN
      rw [h0]
      exact accP_congr _ (fun j hj => he j (by omega))
    have ht : m.take n = l.take n := by
      apply List.ext_getElem
      · simp; omega
      · intro i h1 h2
        simp only [List.length_take] at h1 h2
        have := he i (by omega)
        simp only [List.getElem_take]
        simpa [List.getD, show i < m.length by omega, show i < l.length by omega] using this
    have hs : succN m n := ⟨by rw [hq]; exact k3.1, by rw [hq, ht]; exact k3.2⟩
    have e1 := succ_next k1 hl hc2 hs
    have e2 := succ_next k1 k2 hc k3
    rw [h] at e2
    cases e2
    rw [e1, hq]

inductive Vd : List UInt8 → Prop
  | nil : Vd []
  | cons {l : List UInt8} {p n : Nat} (h : nextOf l = some (p, n)) (hr : Vd (l.drop n)) : Vd l

theorem vd_of_pts : ∀ (k : Nat) (l : List UInt8) (i : Nat), l.length + 1 - i ≤ k → i ≤ l.length → ((∃ r, ptsOf k l i = .ok r) ↔ Vd (l.drop i)) := by
  intro k
  induction k with
  | zero => intro l i h1 h2; omega
  | succ k ih =>
    intro l i h1 h2
    simp only [ptsOf]
    by_cases hlt : i < l.length
    · rw [if_pos hlt]
      have hdl : l.drop i ≠ [] := by intro h; have := congrArg List.length h; simp at this; omega
      cases hno : nextOf (l.drop i) with
      | none =>
        simp only
        constructor
        · rintro ⟨r, hr⟩; cases hr
        · intro h
          exfalso
          generalize hm : l.drop i = m at *
          cases h with
          | nil => exact hdl rfl
          | cons h' _ => rw [hno] at h'; cases h'
      | some pn =>
        obtain ⟨p, n⟩ := pn
        obtain ⟨n1, n2, -⟩ := next_pos hno
        simp only [List.length_drop] at n2
        have := ih l (i + n) (by omega) (by omega)
        simp only
        constructor
        · rintro ⟨r, hr⟩
          refine .cons hno ?_
          rw [List.drop_drop]
          apply this.1
          cases h : ptsOf k l (i + n) with
          | ok r => exact ⟨r, rfl⟩
          | error j => rw [h] at hr; cases hr
        · intro h
          have h3 : Vd ((l.drop i).drop n) := by
            generalize hm : l.drop i = m at *
            cases h with
            | nil => exact absurd rfl hdl
            | cons h' hr => rw [hno] at h'; cases h'; exact hr
          rw [List.drop_drop] at h3
          obtain ⟨r, hr⟩ := this.2 h3
          exact ⟨p :: r, by rw [hr]⟩
    · rw [if_neg hlt]
      have : i = l.length := by omega
      subst this
      rw [List.drop_length]
      exact ⟨fun _ => .nil, fun _ => ⟨[], rfl⟩⟩
theorem valid_iff {l : List UInt8} : validOf l = true ↔ Vd l := by
  have := vd_of_pts (l.length + 1) l 0 (by omega) (by omega)
  rw [List.drop_zero] at this
  rw [← this]
  unfold validOf
  cases ptsOf (l.length + 1) l 0 with
  | ok r => exact ⟨fun _ => ⟨r, rfl⟩, fun _ => rfl⟩
  | error j => exact ⟨fun h => (by cases h), fun h => (by obtain ⟨r, hr⟩ := h; cases hr)⟩

theorem Vd.app {a b : List UInt8} (ha : Vd a) (hb : Vd b) : Vd (a ++ b) := by
  induction ha with
  | nil => exact hb
  | @cons l p n h hr ih =>
    obtain ⟨n1, n2, -⟩ := next_pos h
    refine .cons (p := p) (n := n) (next_congr h (by simp; omega) fun j hj => ?_) ?_
    · simp only [List.getD]; rw [List.getElem?_append_left (by omega)]
    · rw [List.drop_append_of_le_length n2]; exact ih
theorem Vd.cut {l : List UInt8} (h : Vd l) : ∀ c, c ≤ l.length → (c = l.length ∨ ¬ isCont (l.getD c 0)) → Vd (l.take c) ∧ Vd (l.drop c) := by
  induction h with
  | nil => intro c hc _; simp at hc; subst hc; exact ⟨.nil, .nil⟩
  | @cons l p n h hr ih =>
    intro c hc hcc
    obtain ⟨n1, n2, -⟩ := next_pos h
    obtain ⟨-, c2⟩ := next_cont h
    by_cases h0 : c = 0
    · subst h0; exact ⟨.nil, .cons h hr⟩
    · have hnc : n ≤ c := by
        rcases hcc with hcc | hcc
        · omega
        · by_cases hlt : c < n
          · exact absurd (c2 c (by omega) hlt) hcc
          · omega
      have h3 := ih (c - n) (by simp; omega) (by
        rcases hcc with hcc | hcc
        · exact .inl (by simp; omega)
        · right; rw [drop_get, show n + (c - n) = c by omega]; exact hcc)
      have e1 : (l.drop n).drop (c - n) = l.drop c := by rw [List.drop_drop]; congr 1; omega
      have e2 : (l.take c).drop n = (l.drop n).take (c - n) := by rw [List.drop_take]
      refine ⟨.cons (p := p) (n := n) (next_congr h (by simp; omega) fun j hj => ?_) (by rw [e2]; exact h3.1), by rw [← e1]; exact h3.2⟩
      simp [List.getD, show j < c by omega]
theorem Vd.ascii : ∀ {l : List UInt8}, (∀ c ∈ l, c.toNat < 128) → Vd l := by
  intro l
  induction l with
  | nil => intro _; exact .nil
  | cons c r ih =>
    intro h
    refine .cons (p := c.toNat) (n := 1) ?_ (ih (fun d hd => h d (by simp [hd])))
    have := h c (by simp)
    unfold nextOf
    simp [this]
end Go.Ab
/-
  The pieces of a calendar's line: the plain law.
-/
namespace Go.Ab

theorem nmC_asc {c : UInt8} (h : nmC c = true) : c.toNat < 128 ∧ c ≠ 13 ∧ c ≠ 32 := by
  have := all256 (p := fun c => nmC c = true → c.toNat < 128 ∧ c ≠ 13 ∧ c ≠ 32) (by decide +kernel) c
  exact this h
theorem txC_ne {c : UInt8} (h : txC c = true) : c ≠ 13 := by
  have := all256 (p := fun c => txC c = true → c ≠ 13) (by decide +kernel) c
  exact this h
theorem nm_vd {l : List UInt8} (h : nmB l = true) : Vd l ∧ (∀ c ∈ l, c ≠ 13) ∧ 1 ≤ l.length ∧ l.getD 0 0 ≠ 32 := by
  simp only [nmB, Bool.and_eq_true, decide_eq_true_eq, List.all_eq_true] at h
  refine ⟨Vd.ascii fun c hc => (nmC_asc (h.2 c hc)).1, fun c hc => (nmC_asc (h.2 c hc)).2.1, h.1.1, ?_⟩
  refine (nmC_asc (h.2 _ ?_)).2.2
  simp [List.getD, show 0 < l.length by omega]
theorem tx_vd {l : List UInt8} (h : txB l = true) : Vd l ∧ ∀ c ∈ l, c ≠ 13 := by
  simp only [txB, Bool.and_eq_true, List.all_eq_true] at h
  exact ⟨valid_iff.1 h.2, fun c hc => txC_ne (h.1 c hc)⟩
def Fine (l : List UInt8) : Prop := Vd l ∧ ∀ c ∈ l, c ≠ 13
theorem Fine.app {a b : List UInt8} (ha : Fine a) (hb : Fine b) : Fine (a ++ b) := ⟨ha.1.app hb.1, fun c hc => by
  rcases List.mem_append.1 hc with h | h
  · exact ha.2 c h
  · exact hb.2 c h⟩
theorem Fine.one {c : UInt8} (h : c.toNat < 128) (h2 : c ≠ 13) : Fine [c] := ⟨Vd.ascii fun d hd => by simp at hd; subst hd; exact h, fun d hd => by simp at hd; subst hd; exact h2⟩
theorem Fine.nil : Fine [] := ⟨.nil, fun c h => by cases h⟩

theorem quote_fine {v : List UInt8} (h : Fine v) : Fine (quoteOf v) := by
  unfold quoteOf
  split
  · have := (Fine.one (c := 34) (by decide) (by decide)).app (h.app (Fine.one (c := 34) (by decide) (by decide)))
    simpa using this
  · exact h
theorem par_fine {p : Fld} (h : parOK p) : Fine (parOf p) := by
  have h1 := nm_vd h.1
  have h2 := tx_vd h.2.1
  have hF : Fine p.1 := ⟨h1.1, h1.2.1⟩
  have := (Fine.one (c := 59) (by decide) (by decide)).app (hF.app ((Fine.one (c := 61) (by decide) (by decide)).app (quote_fine h2)))
  simpa [parOf] using this
theorem pars_fine : ∀ {ps : List Fld}, (∀ p ∈ ps, parOK p) → Fine (ps.flatMap parOf) := by
  intro ps
  induction ps with
  | nil => intro _; exact .nil
  | cons p r ih =>
    intro h
    simp only [List.flatMap_cons]
    exact (par_fine (h p (by simp))).app (ih fun q hq => h q (by simp [hq]))
theorem rt_of {L : Ln} (h : rtB L = true) : rtP L := by
  apply Classical.byContradiction
  intro hn
  rw [rtB_false hn] at h; cases h
theorem text_fine {L : Ln} (h : rtB L = true) : Fine (textOfL L) ∧ 1 ≤ (textOfL L).length ∧ (textOfL L).getD 0 0 ≠ 32 := by
  have hp := rt_of h
  obtain ⟨n1, n2, n3, n4⟩ := nm_vd hp.1
  have hps : ∀ p ∈ L.ps, parOK p := fun p hpm => by
    obtain ⟨i, hi, rfl⟩ := List.mem_iff_getElem.1 hpm
    have := hp.2.2.2.2.1 i hi
    simpa [List.getD, hi] using this
  have hF : Fine L.n := ⟨n1, n2⟩
  have hT : Fine L.v := tx_vd hp.2.1
  have h1 := (hF.app (pars_fine hps)).app ((Fine.one (c := 58) (by decide) (by decide)).app hT)
  refine ⟨by simpa [textOfL] using h1, by simp [textOfL]; omega, ?_⟩
  unfold textOfL
  simp only [List.getD, List.append_assoc]
  rw [List.getElem?_append_left (by omega)]
  simpa [List.getD] using n4

theorem cut_fine {l : List UInt8} (h : Fine l) (h75 : 75 < l.length) : Fine (l.take (cutOf l 75)) ∧ Fine (l.drop (cutOf l 75)) := by
  have hv := valid_iff.2 h.1
  obtain ⟨c1, c2⟩ := cut75 h75
  have hb : ¬ isCont (l.getD (cutOf l 75) 0) := by
    have hc : cutOf l 75 = back l 75 := by simp only [cutOf, hv, if_true]; rw [Nat.min_eq_left (by omega)]
    rw [hc]
    have : ∀ m, m < l.length → 0 < back l m → ¬ isCont (l.getD (back l m) 0) := by
      intro m
      induction m with
      | zero => intro _ h; simp [back] at h
      | succ m ih =>
        intro hm h
        simp only [back] at h ⊢
        split
        · rename_i hq; rw [if_pos hq] at h; exact ih (by omega) h
        · rename_i hq; exact fun hh => hq ⟨hm, hh⟩
    exact this 75 h75 (by omega)
  obtain ⟨d1, d2⟩ := h.1.cut (cutOf l 75) (by omega) (.inr hb)
  exact ⟨⟨d1, fun c hc => h.2 c (List.mem_of_mem_take hc)⟩, ⟨d2, fun c hc => h.2 c (List.mem_of_mem_drop hc)⟩⟩

def okPiece (p : List UInt8) : Prop := Fine p ∧ 1 ≤ p.length ∧ p.length ≤ 75
theorem foldW_fine : ∀ (k : Nat) (l : List UInt8), l.length ≤ k → Fine l → 1 ≤ l.length → (∀ p ∈ foldW k l, okPiece p) ∧ (∀ i, i + 1 < (foldW k l).length → 72 ≤ ((foldW k l).getD i []).length) ∧ ∃ r, (foldW k l).getD 0 [] ++ r = l ∧ foldW k l ≠ [] := by
  intro k
  induction k with
  | zero => intro l h1 _ h2; omega
  | succ k ih =>
    intro l hl hf h1
    simp only [foldW]
    by_cases h75 : 75 < l.length
    · simp only [if_pos h75]
      obtain ⟨c1, c2⟩ := cut75 h75
      obtain ⟨f1, f2⟩ := cut_fine hf h75
      have hb := (Fine.one (c := 32) (by decide) (by decide)).app f2
      obtain ⟨i1, i2, -⟩ := ih (32 :: l.drop (cutOf l 75)) (by simp; omega) (by simpa using hb) (by simp)
      refine ⟨fun p hp => ?_, fun i hi => ?_, l.drop (cutOf l 75), by simp, by simp⟩
      · rcases List.mem_cons.1 hp with rfl | hp
        · exact ⟨f1, by simp; omega, by simp; omega⟩
        · exact i1 p hp
      · cases i with
        | zero => simp; omega
        | succ i => 
          simp only [List.length_cons] at hi
          simpa using i2 i (by omega)
    · simp only [if_neg h75]
      refine ⟨fun p hp => ?_, fun i hi => by simp at hi, [], by simp, by simp⟩
      simp only [List.mem_singleton] at hp
      subst hp
      exact ⟨hf, h1, by omega⟩
end Go.Ab
/-
  A line's text is read: the plain law.
-/
namespace Go.Ab

def parL (r : Bs) : Option (Fld × UInt8 × Bs) :=
  if (cutV [61, 59, 58] r).2.1 = 61 then
    if [34] <+: (cutV [61, 59, 58] r).2.2 then
      if (cutV [34] ((cutV [61, 59, 58] r).2.2.drop 1)).2.1 = 0 then none
      else some ((upOf (cutV [61, 59, 58] r).1, (cutV [34] ((cutV [61, 59, 58] r).2.2.drop 1)).1), (cutV [34] ((cutV [61, 59, 58] r).2.2.drop 1)).2.2.getD 0 0, (cutV [34] ((cutV [61, 59, 58] r).2.2.drop 1)).2.2.drop 1)
    else some ((upOf (cutV [61, 59, 58] r).1, (cutV [59, 58, 44, 34] (cutV [61, 59, 58] r).2.2).1), (cutV [59, 58, 44, 34] (cutV [61, 59, 58] r).2.2).2.1, (cutV [59, 58, 44, 34] (cutV [61, 59, 58] r).2.2).2.2)
  else none
def goL : Nat → List Fld → UInt8 → Bs → Option (List Fld × Bs)
  | 0, _, _, _ => none
  | n + 1, acc, b, r => if b = 59 then (match parL r with
      | none => none
      | some (p, b', r') => goL n (acc ++ [p]) b' r')
    else if b = 58 then some (acc, r) else none
abbrev LnD := Bs × List Fld × Bs
noncomputable def oneG (n : Bs) : Option (List Fld × Bs) → Option LnD
  | none => none
  | some (ps, v) => if rtB ⟨n, .nils, ps, v⟩ = true then some (n, ps, v) else none
noncomputable def oneL (s : Bs) : Option LnD := oneG (upOf (cutV [59, 58] s).1) (goL (s.length + 1) [] (cutV [59, 58] s).2.1 (cutV [59, 58] s).2.2)

theorem cutV_sum {e s : Bs} : (cutV e s).1.length + (cutV e s).2.2.length ≤ s.length := by
  unfold cutV; simp; omega
theorem cutV_lt {e s : Bs} (h : (cutV e s).2.1 ≠ 0) : (cutV e s).1.length + (cutV e s).2.2.length + 1 = s.length := by
  unfold cutV at *
  simp only at *
  split at h
  · simp; omega
  · exact absurd rfl h
theorem parL_lt {r : Bs} {p : Fld} {b : UInt8} {q : Bs} (h : parL r = some (p, b, q)) : q.length < r.length ∧ p.1.length + p.2.length ≤ r.length := by
  unfold parL at h
  split at h
  · rename_i h61
    have h1 := cutV_lt (e := [61, 59, 58]) (s := r) (by rw [h61]; decide)
    generalize cutV [61, 59, 58] r = c at *
    obtain ⟨c1, c2, c3⟩ := c
    simp only at h1 h h61
    split at h
    · rename_i h34
      split at h
      · cases h
      · have h2 := cutV_sum (e := [34]) (s := c3.drop 1)
        simp only [List.length_drop] at h2
        cases h
        simp only [List.length_drop, upOf, List.length_map]
        omega
    · have h2 := cutV_sum (e := [59, 58, 44, 34]) (s := c3)
      cases h
      simp only [upOf, List.length_map]
      omega
  · cases h
theorem rtB_pv {n : Bs} {u w : PV} {ps : List Fld} {v : Bs} : rtB ⟨n, u, ps, v⟩ = rtB ⟨n, w, ps, v⟩ := rfl
theorem par_mem {L : Ln} (h : rtP L) : ∀ p ∈ L.ps, parOK p := fun p hpm => by
  obtain ⟨i, hi, rfl⟩ := List.mem_iff_getElem.1 hpm
  have := h.2.2.2.2.1 i hi
  simpa [List.getD, hi] using this
theorem quote_le {v : Bs} : (quoteOf v).length ≤ v.length + 2 := by unfold quoteOf; split <;> simp
theorem endI_none {e : Bs} : ∀ {s : Bs}, ∀ c ∈ s.take (endI e s), e.contains c = false := by
  intro s
  induction s with
  | nil => intro c hc; simp at hc
  | cons d r ih =>
    intro c hc
    rw [endI_cons] at hc
    cases hd : e.contains d with
    | true => rw [hd] at hc; simp at hc
    | false =>
      rw [hd, if_neg (by simp), List.take_succ_cons] at hc
      rcases List.mem_cons.1 hc with rfl | hc
      · exact hd
      · exact ih c hc
theorem parL_len {r : Bs} {p : Fld} {b : UInt8} {q : Bs} (h : parL r = some (p, b, q)) (hb : b ≠ 0) : (parOf p).length + q.length ≤ r.length := by
  unfold parL at h
  split at h
  · rename_i h61
    have h1 := cutV_lt (e := [61, 59, 58]) (s := r) (by rw [h61]; decide)
    generalize cutV [61, 59, 58] r = c at *
    obtain ⟨c1, c2, c3⟩ := c
    simp only at h1 h h61
    split at h
    · rename_i h34
      split at h
      · cases h
      · rename_i h0
        have h2 := cutV_lt (e := [34]) (s := c3.drop 1) h0
        obtain ⟨z, hz⟩ := h34
        subst hz
        simp only [List.singleton_append, List.drop_one, List.tail_cons] at h2 h
        generalize cutV [34] z = d at *
        obtain ⟨d1, d2, d3⟩ := d
        simp only at h2 h
        cases h
        have h3 : 1 ≤ d3.length := by
          cases d3 with
          | nil => exact absurd rfl hb
          | cons _ _ => simp
        have h4 := quote_le (v := d1)
        simp only [parOf, List.length_cons, List.length_append, upOf, List.length_map, List.length_tail, List.length_nil] at *
        omega
    · cases h
      have h2 := cutV_lt (e := [59, 58, 44, 34]) (s := c3) hb
      have h3 : quoteOf (cutV [59, 58, 44, 34] c3).1 = (cutV [59, 58, 44, 34] c3).1 := by
        unfold quoteOf
        rw [if_neg]
        have hn := endI_none (e := [59, 58, 44, 34]) (s := c3)
        have hn2 : ∀ x : UInt8, ([59, 58, 44, 34] : Bs).contains x = true → ¬ hasB (cutV [59, 58, 44, 34] c3).1 [x] = true := fun x hx q => by
          rw [hasB_one, decide_eq_true_eq] at q
          rw [hn x q] at hx; cases hx
        rintro (q | q | q)
        · exact hn2 59 (by decide) q
        · exact hn2 58 (by decide) q
        · exact hn2 44 (by decide) q
      simp only [parOf, h3, List.length_cons, List.length_append, upOf, List.length_map]
      omega
  · cases h
theorem goL_len : ∀ (n : Nat) (acc ps : List Fld) (b : UInt8) (r v : Bs), goL n acc b r = some (ps, v) → (ps.flatMap parOf).length + v.length ≤ (acc.flatMap parOf).length + r.length ∧ b ≠ 0 := by
  intro n
  induction n with
  | zero => intro acc ps b r v h; cases h
  | succ n ih =>
    intro acc ps b r v h
    simp only [goL] at h
    split at h
    · rename_i hb
      cases hp : parL r with
      | none => rw [hp] at h; cases h
      | some q =>
        obtain ⟨p, b', r'⟩ := q
        rw [hp] at h
        obtain ⟨i1, i2⟩ := ih _ _ _ _ _ h
        have h2 := parL_len hp i2
        simp only [List.flatMap_append, List.length_append, List.flatMap_cons, List.flatMap_nil, List.append_nil] at i1
        exact ⟨by omega, by rw [hb]; decide⟩
    · split at h
      · rename_i hb
        cases h
        exact ⟨by omega, by rw [hb]; decide⟩
      · cases h
def toLn (d : LnD) : Ln := ⟨d.1, if d.2.1 = [] then .nils else .sl 2 .no (d.2.1.map fV), d.2.1, d.2.2⟩
theorem one_some {s : Bs} {d : LnD} (h : oneL s = some d) : rtB (toLn d) = true ∧ (textOfL (toLn d)).length ≤ s.length := by
  unfold oneL at h
  unfold oneG at h
  split at h
  · cases h
  · rename_i ps v hg
    split at h
    · rename_i hr
      cases h
      refine ⟨by unfold toLn; rw [rtB_pv (w := .nils)]; exact hr, ?_⟩
      obtain ⟨h1, h2⟩ := goL_len _ _ _ _ _ _ hg
      have h3 := cutV_lt h2
      simp only [toLn, textOfL, List.length_append, List.length_cons, upOf, List.length_map, List.flatMap_nil, List.length_nil] at *
      omega
    · cases h
end Go.Ab
/-
  A pair in bytes.
-/
namespace Go.Ab
variable {st : St} {e : Env}

def pairAt (l : List UInt8) (i : Nat) : Bool := decide (i + 1 < l.length ∧ l.getD i 0 = 13 ∧ l.getD (i + 1) 0 = 10)

theorem Pair_spec {x : PV} {l : List UInt8} {i : Nat} (hx : x.by = some l) (hl : i < 4611686018427387904) : call prog (.fn 22 []) [x, .int .i64 (i : Int)] st = some (.bool (pairAt l i), st) := by
  refine call_of_W prog_22 ?_
  unfold F_posthornref03_Pair; dsimp only
  by_cases h1 : i + 1 < l.length
  · by_cases h2 : l.getD i 0 = 13
    · simp (maxSteps := 1000000) (disch := omega) only [len_by hx, h1, h2, add_n, iaddr_by hx, qaaz, qabz, qaiz, qajz, qakz, qalz, qamz, qanz, evOp, qaoz, qapz, qarz, qatz, qavz,
 ↓reduceIte, Nat.reduceEqDiff, List.append_nil, qawz, qaxz, Option.map_some, qazz, qblz, qbpz, qbvz, qciz, beq_true, decide_true, Int.toNat_natCast, Int.ofNat_lt, Int.reduceToNat, reduceCtorEq]
      refine ⟨_, rfl, ?_⟩
      rw [show pairAt l i = decide (l.getD (i + 1) 0 = 10) by simp only [pairAt, h1, h2, true_and]]
      exact leave_pure rfl rfl
    · simp (maxSteps := 1000000) (disch := omega) only [len_by hx, h1, h2, add_n, iaddr_by hx, qaaz, qabz, qaiz, qajz, qakz, qalz, qamz, qanz, evOp, qaoz, qapz, qarz, qatz, qavz,
 ↓reduceIte, Nat.reduceEqDiff, List.append_nil, qawz, qaxz, Option.map_some, qazz, qblz, qbpz, qbvz, qciz, beq_true, decide_true, decide_false,
 Int.toNat_natCast, Int.ofNat_lt, Bool.false_eq_true, Int.reduceToNat, reduceCtorEq]
      refine ⟨_, rfl, ?_⟩
      rw [show pairAt l i = false by simp only [pairAt, h2, false_and, and_false, decide_false]]
      exact leave_pure rfl rfl
  · simp (maxSteps := 1000000) (disch := omega) only [len_by hx, h1, add_n, qaaz, qabz, qaiz, qajz, qakz, qalz, qamz, qanz, evOp, qaoz, qapz, qarz, qatz, qavz,
 ↓reduceIte, Nat.reduceEqDiff, List.append_nil, qawz, qaxz, Option.map_some, qazz, qblz, qbpz, beq_true, decide_false,
 Int.ofNat_lt, Bool.false_eq_true, Int.reduceToNat, reduceCtorEq]
    refine ⟨_, rfl, ?_⟩
    rw [show pairAt l i = false by simp only [pairAt, h1, false_and, decide_false]]
    exact leave_pure rfl rfl

end Go.Ab
