/-
  The document's signs of six digits: written.
-/
import Derived.Test.YtknhnghgmhhjhaaDoorA5
import Derived.Test.YtknhnghgmhhjhaaDoorA2
import Derived.Test.YtknhnghgmhhjhaaDoorA3
import Derived.Shelf.Bytes.SlIndexWhole
import Derived.Shelf.Bytes.IndexByte
import Derived.Shelf.Strings.Builder1
import Derived.Shelf.Strings.Search2
import Derived.Shelf.Small.Strs
import Derived.Shelf.Strings.OnBuilder
import Derived.Shelf.Strings.Split
import Derived.HandedShaped
import Derived.LaidLaws
import Derived.Lay
namespace Go.Ab
set_option linter.unusedVariables false
set_option linter.unusedSimpArgs false
set_option maxRecDepth 20000
variable {st s : St} {e : Env}

/-- The first j digits as a number; those that lack are 0. -/
def vP (d : List Nat) : Nat → Nat
  | 0 => 0
  | j + 1 => 2 * vP d j + d.getD j 0
theorem vP_lt {d : List Nat} (h : ∀ x ∈ d, x ≤ 1) : ∀ j, vP d j < 2 ^ j
  | 0 => by simp [vP]
  | j + 1 => by
    have := vP_lt h j
    have h1 : d.getD j 0 ≤ 1 := by
      rcases Nat.lt_or_ge j d.length with q | q
      · simp only [List.getD, List.getElem?_eq_getElem q, Option.getD_some]; exact h _ (List.getElem_mem q)
      · simp [List.getD, List.getElem?_eq_none q]
    simp only [vP, Nat.pow_succ]; omega
/-- The signs that are still to come: n are written. -/
def encR : Nat → List Nat → Nat → Bs
  | 0, _, _ => []
  | f + 1, d, n => if d = [] then (if n % 4 = 0 then [] else 61 :: encR f [] (n + 1)) else sg (vP d 6) :: encR f (d.drop 6) (n + 1)

theorem byte_parts {a : Nat} (h : a < 256) : 2 * (2 * (2 * (2 * (2 * (a / 128 % 2) + a / 64 % 2) + a / 32 % 2) + a / 16 % 2) + a / 8 % 2) + a / 4 % 2 = a / 4 ∧ 2 * (a / 2 % 2) + a / 1 % 2 = a % 4 ∧
    2 * (2 * (2 * (a / 128 % 2) + a / 64 % 2) + a / 32 % 2) + a / 16 % 2 = a / 16 ∧ 2 * (2 * (2 * (a / 8 % 2) + a / 4 % 2) + a / 2 % 2) + a / 1 % 2 = a % 16 ∧ 2 * (a / 128 % 2) + a / 64 % 2 = a / 64 ∧
    2 * (2 * (2 * (2 * (2 * (a / 32 % 2) + a / 16 % 2) + a / 8 % 2) + a / 4 % 2) + a / 2 % 2) + a / 1 % 2 = a % 64 := by
  refine ⟨?_, ?_, ?_, ?_, ?_, ?_⟩ <;> omega

theorem mix1 {a1 a0 b7 b6 b5 b4 x y : Nat} (h1 : 2 * a1 + a0 = x) (h2 : 2 * (2 * (2 * b7 + b6) + b5) + b4 = y) : 2 * (2 * (2 * (2 * (2 * a1 + a0) + b7) + b6) + b5) + b4 = x * 16 + y := by omega
theorem mix2 {a3 a2 a1 a0 b7 b6 x y : Nat} (h1 : 2 * (2 * (2 * a3 + a2) + a1) + a0 = x) (h2 : 2 * b7 + b6 = y) : 2 * (2 * (2 * (2 * (2 * a3 + a2) + a1) + a0) + b7) + b6 = x * 4 + y := by omega
theorem vP6 {a0 a1 a2 a3 a4 a5 : Nat} {r : List Nat} : vP (a0 :: a1 :: a2 :: a3 :: a4 :: a5 :: r) 6 = 2 * (2 * (2 * (2 * (2 * a0 + a1) + a2) + a3) + a4) + a5 := by
  simp [vP]
theorem vP_four (a b c d : Nat) : vP [a, b, c, d] 6 = (2 * (2 * (2 * a + b) + c) + d) * 4 := by
  simp only [vP, List.getD_cons_zero, List.getD_cons_succ, List.getD_nil]; omega
theorem vP_two (a b : Nat) : vP [a, b] 6 = (2 * a + b) * 16 := by
  simp only [vP, List.getD_cons_zero, List.getD_cons_succ, List.getD_nil]; omega
theorem encR_cons {f n : Nat} {x : Nat} {d : List Nat} : encR (f + 1) (x :: d) n = sg (vP (x :: d) 6) :: encR f ((x :: d).drop 6) (n + 1) := by
  rw [encR, if_neg (by simp)]
theorem encR_pad {f n : Nat} (h : n % 4 ≠ 0) : encR (f + 1) [] n = 61 :: encR f [] (n + 1) := by
  rw [encR, if_pos rfl, if_neg h]
theorem encR_end {f n : Nat} (h : n % 4 = 0) : encR (f + 1) [] n = [] := by
  rw [encR, if_pos rfl, if_pos h]

theorem encR_bits : ∀ (k : Nat) (l : Bs) (f n : Nat), l.length ≤ k → n % 4 = 0 → 4 * l.length + 4 < f → encR f (bitsOf l) n = enc64 l := by
  intro k
  induction k using Nat.strongRecOn with
  | ind k ih =>
    intro l f n hl hn hf
    match l with
    | [] =>
      obtain ⟨f, rfl⟩ : ∃ g, f = g + 1 := ⟨f - 1, by simp at hf; omega⟩
      show encR (f + 1) [] n = _
      rw [encR_end hn]; rfl
    | [a] =>
      obtain ⟨f, rfl⟩ : ∃ g, f = g + 5 := ⟨f - 5, by simp at hf; omega⟩
      obtain ⟨p1, p2, p3, p4, p5, p6⟩ := byte_parts a.toNat_lt
      have hb : bitsOf [a] = bit8 a := by simp [bitsOf]
      rw [hb, bit8_eq]
      show encR (f + 4 + 1) _ n = _
      rw [encR_cons, vP6, p1]
      show _ :: encR (f + 3 + 1) [a.toNat / 2 % 2, a.toNat / 1 % 2] _ = _
      rw [encR_cons, show vP [a.toNat / 2 % 2, a.toNat / 1 % 2] 6 = a.toNat % 4 * 16 from (vP_two _ _).trans (by rw [p2])]
      show _ :: _ :: encR (f + 2 + 1) [] _ = _
      rw [encR_pad (by omega)]
      show _ :: _ :: _ :: encR (f + 1 + 1) [] _ = _
      rw [encR_pad (by omega), encR_end (by omega)]
      rfl
    | [a, b] =>
      obtain ⟨f, rfl⟩ : ∃ g, f = g + 5 := ⟨f - 5, by simp at hf; omega⟩
      obtain ⟨p1, p2, p3, p4, p5, p6⟩ := byte_parts a.toNat_lt
      obtain ⟨q1, q2, q3, q4, q5, q6⟩ := byte_parts b.toNat_lt
      have hb : bitsOf [a, b] = bit8 a ++ bit8 b := by simp [bitsOf]
      rw [hb, bit8_eq, bit8_eq]
      show encR (f + 4 + 1) _ n = _
      simp only [List.cons_append, List.nil_append]
      rw [encR_cons, vP6, p1]
      simp only [List.drop_succ_cons, List.drop_zero]
      show _ :: encR (f + 3 + 1) _ _ = _
      rw [encR_cons, vP6]
      rw [mix1 p2 q3]
      simp only [List.drop_succ_cons, List.drop_zero]
      show _ :: _ :: encR (f + 2 + 1) _ _ = _
      rw [encR_cons]
      rw [show vP [b.toNat / 8 % 2, b.toNat / 4 % 2, b.toNat / 2 % 2, b.toNat / 1 % 2] 6 = b.toNat % 16 * 4 from (vP_four _ _ _ _).trans (by rw [q4])]
      show _ :: _ :: _ :: encR (f + 1 + 1) [] _ = _
      rw [encR_pad (by omega), encR_end (by omega)]
      rfl
    | a :: b :: c :: r =>
      obtain ⟨f, rfl⟩ : ∃ g, f = g + 5 := ⟨f - 5, by simp at hf; omega⟩
      obtain ⟨p1, p2, p3, p4, p5, p6⟩ := byte_parts a.toNat_lt
      obtain ⟨q1, q2, q3, q4, q5, q6⟩ := byte_parts b.toNat_lt
      obtain ⟨r1, r2, r3, r4, r5, r6⟩ := byte_parts c.toNat_lt
      have hb : bitsOf (a :: b :: c :: r) = bit8 a ++ (bit8 b ++ (bit8 c ++ bitsOf r)) := by simp [bitsOf]
      rw [hb, bit8_eq, bit8_eq, bit8_eq]
      simp only [List.cons_append, List.nil_append]
      show encR (f + 4 + 1) _ n = _
      rw [encR_cons, vP6, p1]
      simp only [List.drop_succ_cons, List.drop_zero]
      show _ :: encR (f + 3 + 1) _ _ = _
      rw [encR_cons, vP6]
      rw [mix1 p2 q3]
      simp only [List.drop_succ_cons, List.drop_zero]
      show _ :: _ :: encR (f + 2 + 1) _ _ = _
      rw [encR_cons, vP6]
      rw [mix2 q4 r5]
      simp only [List.drop_succ_cons, List.drop_zero]
      show _ :: _ :: _ :: encR (f + 1 + 1) _ _ = _
      rw [encR_cons, vP6, r6]
      simp only [List.drop_succ_cons, List.drop_zero]
      rw [ih r.length (by simp at hl; omega) r (f + 1) _ (Nat.le_refl _) (by omega) (by simp at hf; omega)]
      rfl

theorem slc_lo_vs {x : PV} {xs : List PV} {k : IntKind} {c : Nat} (h : x.vs 1 = some xs) (hc : c ≤ xs.length) : ∃ y, slcPV 1 x (some (.int k (c : Int))) none none = some y ∧ y.vs 1 = some (xs.drop c) := by
  rcases vs_cases h with ⟨rfl, rfl⟩ | ⟨t, rfl⟩
  · simp at hc; subst hc
    exact ⟨.nils, by simp [slcPV, bnd, intOf], by simp [PV.vs]⟩
  · refine ⟨.sl 1 (sufTok t none none xs.length xs.length) (xs.drop c), by simp [slcPV, bnd, intOf, hc], by simp [PV.vs]⟩
set_option maxHeartbeats 4000000 in
theorem rEncode_spec {x : PV} {l : Bs} (hx : x.by = some l) (hl : l.length ≤ 100000) : call prog (.fn 239 []) [x, .int .i64 0] st = some (.tup [.str (enc64 l), .int .i64 0], st) := by
  refine call_of_W prog_239 ?_
  unfold F_posthornref01_Encode; dsimp only
  have hmay := fun S : St => rMay_spec (st := S) (n := l.length) (by omega)
  have hdig := fun S : St => digitsR_spec (st := S) hx (by omega)
  obtain ⟨D, hD⟩ : ∃ D, D = bitsOf l := ⟨_, rfl⟩
  rw [← hD] at hdig
  have hDl : D.length = 8 * l.length := by rw [hD]; exact bits_len l
  have hD1 : ∀ x ∈ D, x ≤ 1 := by rw [hD]; exact bits_le
  simp (maxSteps := 1000000) (disch := omega) only [len_by hx, hmay, hdig, qaaz, qabz, qacz, qadz, qaez, qafz, qagz, qahz, qaiz, qajz, qakz, qalz, qamz, qanz, evOp, qaoz, qapz, qaqz, qarz, qasz, qatz, qauz, qavz,
 ↓reduceIte, Nat.reduceEqDiff, List.nil_append, List.cons_append, List.append_nil, List.map_cons, List.map_nil, qawz, qaxz, qayz, Option.map_some, Option.map_none, qazz, qbaz, qbbz, qbcz, qbdz, qbez, qbfz, qbgz, qbhz, qbiz, qbjz, qbkz, qblz, qbmz, qbnz, qboz,
 qbpz, qbqz, qbrz, qbsz, qbtz, qbuz, qbvz, qbwz, qbxz, qbyz, qbzz, qcaz, qcbz, qccz, qcdz, qcez, qcfz, qcgz, qchz, qciz, beq_true, beq_false, Bool.not_eq_true', decide_eq_true_eq, decide_eq_false_iff_not, decide_true, decide_false,
 Int.toNat_natCast, Int.ofNat_lt, Int.ofNat_le, Int.natCast_inj, Bool.false_eq_true, Bool.true_eq_false, qcjz, List.getElem?_cons_zero, List.getElem?_cons_succ, qckz, Int.reduceToNat, Int.reduceLE, true_and, and_true, reduceCtorEq, or_false, false_or, or_true, Option.some.injEq, exists_eq_left', Bool.not_true, Bool.not_false, ne_eq, Int.reduceEq, not_true_eq_false, not_false_eq_true, Int.reduceLT, UInt8.reduceLT, UInt8.reduceLE, UInt8.reduceToNat]
  obtain ⟨T, hT⟩ : ∃ T, T = enc64 l := ⟨_, rfl⟩
  rw [← hT]
  have hTl : T.length ≤ 2 * l.length + 4 := by rw [hT, enc64_len l.length l (Nat.le_refl _)]; omega
  obtain ⟨Q0, hQ0⟩ : ∃ Q0 : Ex → Env → St → Prop, Q0 = endQ st [.tmp 4, .tmp 5] (.tup [.str T, .int .i64 0], st) := ⟨_, rfl⟩
  rw [← hQ0]
  have hroom : room = 68719476736 := rfl
  obtain ⟨I, hI⟩ : ∃ I : Nat → Env → St → Prop, I = fun k E S => ∃ (d : List Nat) (acc : Bs) (v w : PV) (f : Nat), k = 4 * d.length + (4 - acc.length % 4) % 4 ∧ k < f ∧ Kept st S ∧ Mine st S w acc ∧ v.vs 1 = some (d.map iV) ∧ (∀ x ∈ d, x ≤ 1) ∧ T = acc ++ encR f d acc.length ∧ E 1 = .int .i64 0 ∧ E 6 = .int .i64 0 ∧ E 7 = v ∧ E 8 = w ∧ E 9 = .int .i64 (acc.length : Int) := ⟨_, rfl⟩
  refine W_mono (Q := fun xx E S => xx = .exit 0 ∧ ∃ w, Kept st S ∧ Mine st S w T ∧ E 8 = w ∧ E 6 = .int .i64 0) ?_ ?_
  · refine W_loop I ?_ (n := 4 * D.length) (by
      rw [hI]
      refine ⟨D, [], newSl _ 1 (D.map iV), .nils, 4 * D.length + 4 * l.length + 5, by simp, by omega, ?_, Mine.nil, newSl_vs, hD1, ?_, rfl, rfl, rfl, rfl, rfl⟩
      · unfold newS; split
        · exact Kept.start
        · exact Kept.start.tok1
      · rw [hT, hD]; exact (encR_bits l.length l _ 0 (Nat.le_refl _) rfl (by omega)).symm)
    intro k E S hh
    rw [hI] at hh
    obtain ⟨d, acc, v, w, f, rfl, hf, hk, hm, hv, hd1, hTT, h1, h6, h7, h8, h9⟩ := hh
    obtain ⟨f, rfl⟩ : ∃ g, f = g + 1 := ⟨f - 1, by omega⟩
    have hal : acc.length ≤ T.length := by rw [hTT]; simp
    have hlv : lenPV false v = some (.int .i64 (d.length : Int)) := by rw [len_vs hv, List.length_map]
    have hrem : binPV .rem .no (.int .i64 (acc.length : Int)) (.int .i64 4) = some (.int .i64 ((acc.length % 4 : Nat) : Int)) := rem_n (c := 4) (by omega)
    by_cases hd : d = []
    · have hd0 : (d.length : Int) = 0 := by rw [hd]; rfl
      have hlv0 : lenPV false v = some (.int .i64 0) := by rw [hlv, hd0]
      by_cases h4 : acc.length % 4 = 0
      · have h4' : ¬ (0 : Int) < ((acc.length % 4 : Nat) : Int) := by omega
        simp (maxSteps := 1000000) (disch := omega) only [h1, h6, h7, h8, h9, hlv0, hrem, h4', qaaz, qabz, qacz, qadz, qaez, qafz, qagz, qahz, qaiz, qajz, qakz, qalz, qamz, qanz, evOp, qaoz, qapz, qaqz, qarz, qasz, qatz, qauz, qavz,
 ↓reduceIte, Nat.reduceEqDiff, List.nil_append, List.cons_append, List.append_nil, List.map_cons, List.map_nil, qawz, qaxz, qayz, Option.map_some, Option.map_none, qazz, qbaz, qbbz, qbcz, qbdz, qbez, qbfz, qbgz, qbhz, qbiz, qbjz, qbkz, qblz, qbmz, qbnz, qboz,
 qbpz, qbqz, qbrz, qbsz, qbtz, qbuz, qbvz, qbwz, qbxz, qbyz, qbzz, qcaz, qcbz, qccz, qcdz, qcez, qcfz, qcgz, qchz, qciz, beq_true, beq_false, Bool.not_eq_true', decide_eq_true_eq, decide_eq_false_iff_not, decide_true, decide_false,
 Int.toNat_natCast, Int.ofNat_lt, Int.ofNat_le, Int.natCast_inj, Bool.false_eq_true, Bool.true_eq_false, qcjz, List.getElem?_cons_zero, List.getElem?_cons_succ, qckz, Int.reduceToNat, Int.reduceLE, true_and, and_true, reduceCtorEq, or_false, false_or, or_true, Option.some.injEq, exists_eq_left', Bool.not_true, Bool.not_false, ne_eq, Int.reduceEq, not_true_eq_false, not_false_eq_true, Int.reduceLT, UInt8.reduceLT, UInt8.reduceLE, UInt8.reduceToNat]
        rw [hd, encR_end h4, List.append_nil] at hTT
        rw [hTT]
        exact ⟨w, hk, hm, rfl⟩
      · have h4' : (0 : Int) < ((acc.length % 4 : Nat) : Int) := by omega
        obtain ⟨w1, S1, a1, k1, m1⟩ := hk.push (c := 61) hm (by omega)
        simp (maxSteps := 1000000) (disch := omega) only [h1, h6, h7, h8, h9, hlv0, hrem, h4', lit8_1, freshT_eq, a1, add_n, loopQ_normal, qaaz, qabz, qacz, qadz, qaez, qafz, qagz, qahz, qaiz, qajz, qakz, qalz, qamz, qanz, evOp, qaoz, qapz, qaqz, qarz, qasz, qatz, qauz, qavz,
 ↓reduceIte, Nat.reduceEqDiff, List.nil_append, List.cons_append, List.append_nil, List.map_cons, List.map_nil, qawz, qaxz, qayz, Option.map_some, Option.map_none, qazz, qbaz, qbbz, qbcz, qbdz, qbez, qbfz, qbgz, qbhz, qbiz, qbjz, qbkz, qblz, qbmz, qbnz, qboz,
 qbpz, qbqz, qbrz, qbsz, qbtz, qbuz, qbvz, qbwz, qbxz, qbyz, qbzz, qcaz, qcbz, qccz, qcdz, qcez, qcfz, qcgz, qchz, qciz, beq_true, beq_false, Bool.not_eq_true', decide_eq_true_eq, decide_eq_false_iff_not, decide_true, decide_false,
 Int.toNat_natCast, Int.ofNat_lt, Int.ofNat_le, Int.natCast_inj, Bool.false_eq_true, Bool.true_eq_false, qcjz, List.getElem?_cons_zero, List.getElem?_cons_succ, qckz, Int.reduceToNat, Int.reduceLE, true_and, and_true, reduceCtorEq, or_false, false_or, or_true, Option.some.injEq, exists_eq_left', Bool.not_true, Bool.not_false, ne_eq, Int.reduceEq, not_true_eq_false, not_false_eq_true, Int.reduceLT, UInt8.reduceLT, UInt8.reduceLE, UInt8.reduceToNat]
        rw [hd] at hTT hf
        rw [encR_pad h4] at hTT
        refine ⟨4 * ([] : List Nat).length + (4 - (acc ++ [61]).length % 4) % 4, by simp; omega, ?_⟩
        rw [hI]
        refine ⟨[], acc ++ [61], v, w1, f, rfl, by simp at hf ⊢; omega, k1, m1, by rw [hv, hd], by simp, by rw [hTT]; simp, h1, h6, h7, rfl, by rw [List.length_append]; rfl⟩
    · have hpos := List.length_pos_iff.2 hd
      have hlp : (0 : Int) < (d.length : Int) := by omega
      have hne0 : ¬ (d.length : Int) = 0 := by omega
      simp (maxSteps := 1000000) (disch := omega) only [h1, h6, h7, h8, h9, hlv, hrem, hlp, hne0, qaaz, qabz, qacz, qadz, qaez, qafz, qagz, qahz, qaiz, qajz, qakz, qalz, qamz, qanz, evOp, qaoz, qapz, qaqz, qarz, qasz, qatz, qauz, qavz,
 ↓reduceIte, Nat.reduceEqDiff, List.nil_append, List.cons_append, List.append_nil, List.map_cons, List.map_nil, qawz, qaxz, qayz, Option.map_some, Option.map_none, qazz, qbaz, qbbz, qbcz, qbdz, qbez, qbfz, qbgz, qbhz, qbiz, qbjz, qbkz, qblz, qbmz, qbnz, qboz,
 qbpz, qbqz, qbrz, qbsz, qbtz, qbuz, qbvz, qbwz, qbxz, qbyz, qbzz, qcaz, qcbz, qccz, qcdz, qcez, qcfz, qcgz, qchz, qciz, beq_true, beq_false, Bool.not_eq_true', decide_eq_true_eq, decide_eq_false_iff_not, decide_true, decide_false,
 Int.toNat_natCast, Int.ofNat_lt, Int.ofNat_le, Int.natCast_inj, Bool.false_eq_true, Bool.true_eq_false, qcjz, List.getElem?_cons_zero, List.getElem?_cons_succ, qckz, Int.reduceToNat, Int.reduceLE, true_and, and_true, reduceCtorEq, or_false, false_or, or_true, Option.some.injEq, exists_eq_left', Bool.not_true, Bool.not_false, ne_eq, Int.reduceEq, not_true_eq_false, not_false_eq_true, Int.reduceLT, UInt8.reduceLT, UInt8.reduceLE, UInt8.reduceToNat]
      refine W_mono (Q := fun xx E2 S2 => xx = .exit 2 ∧ S2 = S ∧ E2 1 = .int .i64 0 ∧ E2 6 = .int .i64 0 ∧ E2 7 = v ∧ E2 8 = w ∧ E2 9 = .int .i64 (acc.length : Int) ∧ E2 10 = .int .i64 ((vP d 6 : Nat) : Int)) ?_ ?_
      · obtain ⟨J, hJ⟩ : ∃ J : Nat → Env → St → Prop, J = fun k E2 S2 => ∃ j : Nat, k = 6 - j ∧ j ≤ 6 ∧ S2 = S ∧ E2 1 = .int .i64 0 ∧ E2 6 = .int .i64 0 ∧ E2 7 = v ∧ E2 8 = w ∧ E2 9 = .int .i64 (acc.length : Int) ∧ E2 10 = .int .i64 ((vP d j : Nat) : Int) ∧ E2 11 = .int .i64 (j : Int) := ⟨_, rfl⟩
        refine W_loop J ?_ (n := 6) (by
          rw [hJ]; exact ⟨0, rfl, by omega, rfl, h1, h6, h7, h8, h9, rfl, rfl⟩)
        intro k E2 S2 hh2
        rw [hJ] at hh2
        obtain ⟨j, rfl, hj, rfl, g1, g6, g7, g8, g9, g10, g11⟩ := hh2
        by_cases hj6 : j < 6
        · have hj6' : (j : Int) < 6 := by omega
          have hv1 := vP_lt hd1 j
          have hp : 2 ^ j ≤ 2 ^ 6 := Nat.pow_le_pow_right (by decide) (by omega)
          have hp2 : 2 ^ 6 = 64 := rfl
          have m2 : binPV .mul .no (.int .i64 2) (.int .i64 ((vP d j : Nat) : Int)) = some (.int .i64 ((2 * vP d j : Nat) : Int)) := mul_n (c := 2) (by omega)
          have next : ∀ E3 : Env, E3 1 = .int .i64 0 → E3 6 = .int .i64 0 → E3 7 = v → E3 8 = w → E3 9 = .int .i64 (acc.length : Int) → E3 10 = .int .i64 ((vP d (j + 1) : Nat) : Int) → E3 11 = .int .i64 ((j + 1 : Nat) : Int) → ∃ m, m < 6 - j ∧ J m E3 S2 := fun E3 e1 e6 e7 e8 e9 e10 e11 => by
            refine ⟨6 - (j + 1), by omega, ?_⟩
            rw [hJ]; exact ⟨j + 1, rfl, by omega, rfl, e1, e6, e7, e8, e9, e10, e11⟩
          by_cases hjd : j < d.length
          · have hia : iaddrPV 1 v (.int .i64 (j : Int)) = some (.cp [.int .i64 ((d.getD j 0 : Nat) : Int)]) := by
              rw [iaddr_vs hv (by omega) (by simpa using hjd)]
              simp [List.getD, hjd, iV, PV.cells]
            have h01 : d.getD j 0 ≤ 1 := by
              simp only [List.getD, List.getElem?_eq_getElem hjd, Option.getD_some]; exact hd1 _ (List.getElem_mem hjd)
            have ad : binPV .add .no (.int .i64 ((2 * vP d j : Nat) : Int)) (.int .i64 ((d.getD j 0 : Nat) : Int)) = some (.int .i64 ((vP d (j + 1) : Nat) : Int)) := by
              rw [add_i (by omega) (by omega), vP]; congr 2
            simp (maxSteps := 1000000) (disch := omega) only [g1, g6, g7, g8, g9, g10, g11, hj6', m2, hlv, hjd, hia, ad, add_n, loopQ_normal, qaaz, qabz, qacz, qadz, qaez, qafz, qagz, qahz, qaiz, qajz, qakz, qalz, qamz, qanz, evOp, qaoz, qapz, qaqz, qarz, qasz, qatz, qauz, qavz,
 ↓reduceIte, Nat.reduceEqDiff, List.nil_append, List.cons_append, List.append_nil, List.map_cons, List.map_nil, qawz, qaxz, qayz, Option.map_some, Option.map_none, qazz, qbaz, qbbz, qbcz, qbdz, qbez, qbfz, qbgz, qbhz, qbiz, qbjz, qbkz, qblz, qbmz, qbnz, qboz,
 qbpz, qbqz, qbrz, qbsz, qbtz, qbuz, qbvz, qbwz, qbxz, qbyz, qbzz, qcaz, qcbz, qccz, qcdz, qcez, qcfz, qcgz, qchz, qciz, beq_true, beq_false, Bool.not_eq_true', decide_eq_true_eq, decide_eq_false_iff_not, decide_true, decide_false,
 Int.toNat_natCast, Int.ofNat_lt, Int.ofNat_le, Int.natCast_inj, Bool.false_eq_true, Bool.true_eq_false, qcjz, List.getElem?_cons_zero, List.getElem?_cons_succ, qckz, Int.reduceToNat, Int.reduceLE, true_and, and_true, reduceCtorEq, or_false, false_or, or_true, Option.some.injEq, exists_eq_left', Bool.not_true, Bool.not_false, ne_eq, Int.reduceEq, not_true_eq_false, not_false_eq_true, Int.reduceLT, UInt8.reduceLT, UInt8.reduceLE, UInt8.reduceToNat]
            exact next _ g1 g6 g7 g8 g9 rfl rfl
          · have h0 : d.getD j 0 = 0 := by simp [List.getD, List.getElem?_eq_none (Nat.le_of_not_lt hjd)]
            simp (maxSteps := 1000000) (disch := omega) only [g1, g6, g7, g8, g9, g10, g11, hj6', m2, hlv, hjd, add_n, loopQ_normal, qaaz, qabz, qacz, qadz, qaez, qafz, qagz, qahz, qaiz, qajz, qakz, qalz, qamz, qanz, evOp, qaoz, qapz, qaqz, qarz, qasz, qatz, qauz, qavz,
 ↓reduceIte, Nat.reduceEqDiff, List.nil_append, List.cons_append, List.append_nil, List.map_cons, List.map_nil, qawz, qaxz, qayz, Option.map_some, Option.map_none, qazz, qbaz, qbbz, qbcz, qbdz, qbez, qbfz, qbgz, qbhz, qbiz, qbjz, qbkz, qblz, qbmz, qbnz, qboz,
 qbpz, qbqz, qbrz, qbsz, qbtz, qbuz, qbvz, qbwz, qbxz, qbyz, qbzz, qcaz, qcbz, qccz, qcdz, qcez, qcfz, qcgz, qchz, qciz, beq_true, beq_false, Bool.not_eq_true', decide_eq_true_eq, decide_eq_false_iff_not, decide_true, decide_false,
 Int.toNat_natCast, Int.ofNat_lt, Int.ofNat_le, Int.natCast_inj, Bool.false_eq_true, Bool.true_eq_false, qcjz, List.getElem?_cons_zero, List.getElem?_cons_succ, qckz, Int.reduceToNat, Int.reduceLE, true_and, and_true, reduceCtorEq, or_false, false_or, or_true, Option.some.injEq, exists_eq_left', Bool.not_true, Bool.not_false, ne_eq, Int.reduceEq, not_true_eq_false, not_false_eq_true, Int.reduceLT, UInt8.reduceLT, UInt8.reduceLE, UInt8.reduceToNat]
            exact next _ g1 g6 g7 g8 g9 (by rw [vP, h0]; rfl) rfl
        · obtain rfl : j = 6 := by omega
          simp (maxSteps := 1000000) (disch := omega) only [g1, g6, g7, g8, g9, g10, g11, qaaz, qabz, qacz, qadz, qaez, qafz, qagz, qahz, qaiz, qajz, qakz, qalz, qamz, qanz, evOp, qaoz, qapz, qaqz, qarz, qasz, qatz, qauz, qavz,
 ↓reduceIte, Nat.reduceEqDiff, List.nil_append, List.cons_append, List.append_nil, List.map_cons, List.map_nil, qawz, qaxz, qayz, Option.map_some, Option.map_none, qazz, qbaz, qbbz, qbcz, qbdz, qbez, qbfz, qbgz, qbhz, qbiz, qbjz, qbkz, qblz, qbmz, qbnz, qboz,
 qbpz, qbqz, qbrz, qbsz, qbtz, qbuz, qbvz, qbwz, qbxz, qbyz, qbzz, qcaz, qcbz, qccz, qcdz, qcez, qcfz, qcgz, qchz, qciz, beq_true, beq_false, Bool.not_eq_true', decide_eq_true_eq, decide_eq_false_iff_not, decide_true, decide_false,
 Int.toNat_natCast, Int.ofNat_lt, Int.ofNat_le, Int.natCast_inj, Bool.false_eq_true, Bool.true_eq_false, qcjz, List.getElem?_cons_zero, List.getElem?_cons_succ, qckz, Int.reduceToNat, Int.reduceLE, true_and, and_true, reduceCtorEq, or_false, false_or, or_true, Option.some.injEq, exists_eq_left', Bool.not_true, Bool.not_false, ne_eq, Int.reduceEq, not_true_eq_false, not_false_eq_true, Int.reduceLT, UInt8.reduceLT, UInt8.reduceLE, UInt8.reduceToNat]
          trivial
      · rintro xx E2 S2 ⟨rfl, rfl, g1, g6, g7, g8, g9, g10⟩
        have hv6 := vP_lt hd1 6
        have hsg := fun S : St => rSign_spec (st := S) (v := vP d 6) hv6
        obtain ⟨c, hc⟩ : ∃ c, c = sg (vP d 6) := ⟨_, rfl⟩
        rw [← hc] at hsg
        obtain ⟨w1, S1, a1, k1, m1⟩ := hk.push (c := c) hm (by omega)
        have hTT2 : T = acc ++ [c] ++ encR f (d.drop 6) (acc ++ [c]).length := by
          rw [hTT]
          obtain ⟨y, r, rfl⟩ : ∃ y r, d = y :: r := by cases d with
            | nil => exact absurd rfl hd
            | cons y r => exact ⟨y, r, rfl⟩
          rw [encR_cons, ← hc]; simp
        have next : ∀ (v2 : PV) (E3 : Env), v2.vs 1 = some ((d.drop 6).map iV) → E3 1 = .int .i64 0 → E3 6 = .int .i64 0 → E3 7 = v2 → E3 8 = w1 → E3 9 = .int .i64 ((acc.length + 1 : Nat) : Int) → ∃ m, m < 4 * d.length + (4 - acc.length % 4) % 4 ∧ I m E3 S1 := fun v2 E3 e0 e1 e6 e7 e8 e9 => by
          refine ⟨4 * (d.drop 6).length + (4 - (acc ++ [c]).length % 4) % 4, by simp; omega, ?_⟩
          rw [hI]
          exact ⟨d.drop 6, acc ++ [c], v2, w1, f, rfl, by simp; omega, k1, m1, e0, fun x hx => hd1 x (List.mem_of_mem_drop hx), hTT2, e1, e6, e7, e8, by rw [e9]; simp⟩
        by_cases h6d : 6 < d.length
        · have h6d' : (6 : Int) < (d.length : Int) := by omega
          obtain ⟨v2, hs, hv2⟩ := slc_lo_vs (k := .i64) (c := 6) hv (by simp; omega)
          have hs' : slcPV 1 v (some (.int .i64 6)) none none = some v2 := hs
          simp (maxSteps := 1000000) (disch := omega) only [g1, g6, g7, g8, g9, g10, hlv, h6d', hs', hsg, lit8_1, freshT_eq, a1, add_n, loopQ_normal, qaaz, qabz, qacz, qadz, qaez, qafz, qagz, qahz, qaiz, qajz, qakz, qalz, qamz, qanz, evOp, qaoz, qapz, qaqz, qarz, qasz, qatz, qauz, qavz,
 ↓reduceIte, Nat.reduceEqDiff, List.nil_append, List.cons_append, List.append_nil, List.map_cons, List.map_nil, qawz, qaxz, qayz, Option.map_some, Option.map_none, qazz, qbaz, qbbz, qbcz, qbdz, qbez, qbfz, qbgz, qbhz, qbiz, qbjz, qbkz, qblz, qbmz, qbnz, qboz,
 qbpz, qbqz, qbrz, qbsz, qbtz, qbuz, qbvz, qbwz, qbxz, qbyz, qbzz, qcaz, qcbz, qccz, qcdz, qcez, qcfz, qcgz, qchz, qciz, beq_true, beq_false, Bool.not_eq_true', decide_eq_true_eq, decide_eq_false_iff_not, decide_true, decide_false,
 Int.toNat_natCast, Int.ofNat_lt, Int.ofNat_le, Int.natCast_inj, Bool.false_eq_true, Bool.true_eq_false, qcjz, List.getElem?_cons_zero, List.getElem?_cons_succ, qckz, Int.reduceToNat, Int.reduceLE, true_and, and_true, reduceCtorEq, or_false, false_or, or_true, Option.some.injEq, exists_eq_left', Bool.not_true, Bool.not_false, ne_eq, Int.reduceEq, not_true_eq_false, not_false_eq_true, Int.reduceLT, UInt8.reduceLT, UInt8.reduceLE, UInt8.reduceToNat]
          exact next v2 _ (by rw [hv2, List.map_drop]) g1 g6 rfl rfl rfl
        · have h6d' : ¬ (6 : Int) < (d.length : Int) := by omega
          simp (maxSteps := 1000000) (disch := omega) only [g1, g6, g7, g8, g9, g10, hlv, h6d', hsg, lit8_1, freshT_eq, a1, add_n, loopQ_normal, qaaz, qabz, qacz, qadz, qaez, qafz, qagz, qahz, qaiz, qajz, qakz, qalz, qamz, qanz, evOp, qaoz, qapz, qaqz, qarz, qasz, qatz, qauz, qavz,
 ↓reduceIte, Nat.reduceEqDiff, List.nil_append, List.cons_append, List.append_nil, List.map_cons, List.map_nil, qawz, qaxz, qayz, Option.map_some, Option.map_none, qazz, qbaz, qbbz, qbcz, qbdz, qbez, qbfz, qbgz, qbhz, qbiz, qbjz, qbkz, qblz, qbmz, qbnz, qboz,
 qbpz, qbqz, qbrz, qbsz, qbtz, qbuz, qbvz, qbwz, qbxz, qbyz, qbzz, qcaz, qcbz, qccz, qcdz, qcez, qcfz, qcgz, qchz, qciz, beq_true, beq_false, Bool.not_eq_true', decide_eq_true_eq, decide_eq_false_iff_not, decide_true, decide_false,
 Int.toNat_natCast, Int.ofNat_lt, Int.ofNat_le, Int.natCast_inj, Bool.false_eq_true, Bool.true_eq_false, qcjz, List.getElem?_cons_zero, List.getElem?_cons_succ, qckz, Int.reduceToNat, Int.reduceLE, true_and, and_true, reduceCtorEq, or_false, false_or, or_true, Option.some.injEq, exists_eq_left', Bool.not_true, Bool.not_false, ne_eq, Int.reduceEq, not_true_eq_false, not_false_eq_true, Int.reduceLT, UInt8.reduceLT, UInt8.reduceLE, UInt8.reduceToNat]
          exact next .nils _ (by rw [List.drop_of_length_le (by omega)]; rfl) g1 g6 rfl rfl rfl
  · rintro xx E S ⟨rfl, w, hk, hm, h8, h6⟩
    have hcs : b2s false S w = some T := by
      rcases by_cases' hm.by with ⟨rfl, h0⟩ | ⟨t, rfl⟩
      · rw [h0]; rfl
      · rfl
    simp (maxSteps := 1000000) (disch := omega) only [h8, h6, hcs, qaaz, qabz, qacz, qadz, qaez, qafz, qagz, qahz, qaiz, qajz, qakz, qalz, qamz, qanz, evOp, qaoz, qapz, qaqz, qarz, qasz, qatz, qauz, qavz,
 ↓reduceIte, Nat.reduceEqDiff, List.nil_append, List.cons_append, List.append_nil, List.map_cons, List.map_nil, qawz, qaxz, qayz, Option.map_some, Option.map_none, qazz, qbaz, qbbz, qbcz, qbdz, qbez, qbfz, qbgz, qbhz, qbiz, qbjz, qbkz, qblz, qbmz, qbnz, qboz,
 qbpz, qbqz, qbrz, qbsz, qbtz, qbuz, qbvz, qbwz, qbxz, qbyz, qbzz, qcaz, qcbz, qccz, qcdz, qcez, qcfz, qcgz, qchz, qciz, beq_true, beq_false, Bool.not_eq_true', decide_eq_true_eq, decide_eq_false_iff_not, decide_true, decide_false,
 Int.toNat_natCast, Int.ofNat_lt, Int.ofNat_le, Int.natCast_inj, Bool.false_eq_true, Bool.true_eq_false, qcjz, List.getElem?_cons_zero, List.getElem?_cons_succ, qckz, Int.reduceToNat, Int.reduceLE, true_and, and_true, reduceCtorEq, or_false, false_or, or_true, Option.some.injEq, exists_eq_left', Bool.not_true, Bool.not_false, ne_eq, Int.reduceEq, not_true_eq_false, not_false_eq_true, Int.reduceLT, UInt8.reduceLT, UInt8.reduceLE, UInt8.reduceToNat]
    rw [hQ0, qblz]
    exact retTI rfl rfl hk rfl rfl
end Go.Ab

/-
  The document's written texts; the law WordEncodes.
-/
namespace Go.Ab
set_option linter.unusedVariables false
set_option linter.unusedSimpArgs false
set_option maxRecDepth 20000
variable {st s : St} {e : Env}

theorem pfx32 {s : Bs} (h : s ≠ []) : decide (([32] : Bs) <+: s) = decide (s.getD 0 0 = 32) := by
  cases s with
  | nil => exact absurd rfl h
  | cons c r => simp [List.cons_prefix_cons, eq_comm]
theorem sfx32 {s : Bs} (h : s ≠ []) : decide (([32] : Bs) <:+ s) = decide (s.getD (s.length - 1) 0 = 32) := by
  have e1 := List.dropLast_concat_getLast h
  have hp := List.length_pos_iff.2 h
  have e2 : s.getD (s.length - 1) 0 = s.getLast h := by
    rw [List.getLast_eq_getElem]; simp [List.getD, show s.length - 1 < s.length by omega]
  rw [e2]
  congr 1; apply propext
  constructor
  · rintro ⟨t, ht⟩
    have : s.getLast h = (t ++ [32]).getLast (by simp) := by congr 1; exact ht.symm
    rw [this]; simp
  · intro q; exact ⟨s.dropLast, by rw [← q]; exact e1⟩

set_option maxHeartbeats 2000000 in
theorem rPlain_spec {s : Bs} (hl : s.length ≤ 1000000) : call prog (.fn 225 []) [.str s] st = some (.bool (plnB s), st) := by
  refine call_of_W prog_225 ?_
  unfold F_posthornref04_Plain; dsimp only
  simp (maxSteps := 1000000) (disch := omega) only [len_s, qaaz, qabz, qacz, qadz, qaez, qafz, qagz, qahz, qaiz, qajz, qakz, qalz, qamz, qanz, evOp, qaoz, qapz, qaqz, qarz, qasz, qatz, qauz, qavz,
 ↓reduceIte, Nat.reduceEqDiff, List.nil_append, List.cons_append, List.append_nil, List.map_cons, List.map_nil, qawz, qaxz, qayz, Option.map_some, Option.map_none, qazz, qbaz, qbbz, qbcz, qbdz, qbez, qbfz, qbgz, qbhz, qbiz, qbjz, qbkz, qblz, qbmz, qbnz, qboz,
 qbpz, qbqz, qbrz, qbsz, qbtz, qbuz, qbvz, qbwz, qbxz, qbyz, qbzz, qcaz, qcbz, qccz, qcdz, qcez, qcfz, qcgz, qchz, qciz, beq_true, beq_false, Bool.not_eq_true', decide_eq_true_eq, decide_eq_false_iff_not, decide_true, decide_false,
 Int.toNat_natCast, Int.ofNat_lt, Int.ofNat_le, Int.natCast_inj, Bool.false_eq_true, Bool.true_eq_false, qcjz, List.getElem?_cons_zero, List.getElem?_cons_succ, qckz, Int.reduceToNat, Int.reduceLE, true_and, and_true, reduceCtorEq, or_false, false_or, or_true, Option.some.injEq, exists_eq_left', Bool.not_true, Bool.not_false, ne_eq, Int.reduceEq, not_true_eq_false, not_false_eq_true, Int.reduceLT, UInt8.reduceLT, UInt8.reduceLE, UInt8.reduceToNat]
  obtain ⟨Q0, hQ0⟩ : ∃ Q0 : Ex → Env → St → Prop, Q0 = endQ st [.tmp 2] (.bool (plnB s), st) := ⟨_, rfl⟩
  rw [← hQ0]
  refine W_mono (Q := fun x E S => (x = .exit 0 ∧ S = ⟨st.boxes, st.toks, st.loops, st.boxes.length⟩ ∧ E 0 = .str s ∧ s.all prW = true) ∨ (x = .ret ∧ Q0 .ret E S)) ?_ ?_
  · obtain ⟨I, hI⟩ : ∃ I : Nat → Env → St → Prop, I = fun k E S => ∃ i : Nat, k = s.length - i ∧ i ≤ s.length ∧ S = ⟨st.boxes, st.toks, st.loops, st.boxes.length⟩ ∧ (∀ j, j < i → prW (s.getD j 0) = true) ∧ E 0 = .str s ∧ E 3 = .int .i64 (i : Int) := ⟨_, rfl⟩
    refine W_loop I ?_ (n := s.length) (by
      rw [hI]; exact ⟨0, rfl, by omega, rfl, fun j h => by omega, rfl, rfl⟩)
    intro k E S hh
    rw [hI] at hh
    obtain ⟨i, rfl, hi, rfl, hall, h0, h3⟩ := hh
    by_cases hlt : i < s.length
    · obtain ⟨c, hc⟩ : ∃ c, c = s.getD i 0 := ⟨_, rfl⟩
      have bad : prW c = false → ∀ E2 : Env, E2 2 = .bool false → Q0 .ret E2 ⟨st.boxes, st.toks, st.loops, st.boxes.length⟩ := fun h E2 h2 => by
        rw [hQ0, qblz]
        have : plnB s = false := by
          unfold plnB
          rw [show s.all prW = false from all_bad hlt (by rw [← hc]; exact h), Bool.false_and]
        exact retB h2 Kept.start this.symm
      by_cases c1 : c < 32
      · simp (maxSteps := 1000000) (disch := omega) only [h0, h3, len_s, hlt, idx_s, ← hc, c1, qaaz, qabz, qacz, qadz, qaez, qafz, qagz, qahz, qaiz, qajz, qakz, qalz, qamz, qanz, evOp, qaoz, qapz, qaqz, qarz, qasz, qatz, qauz, qavz,
 ↓reduceIte, Nat.reduceEqDiff, List.nil_append, List.cons_append, List.append_nil, List.map_cons, List.map_nil, qawz, qaxz, qayz, Option.map_some, Option.map_none, qazz, qbaz, qbbz, qbcz, qbdz, qbez, qbfz, qbgz, qbhz, qbiz, qbjz, qbkz, qblz, qbmz, qbnz, qboz,
 qbpz, qbqz, qbrz, qbsz, qbtz, qbuz, qbvz, qbwz, qbxz, qbyz, qbzz, qcaz, qcbz, qccz, qcdz, qcez, qcfz, qcgz, qchz, qciz, beq_true, beq_false, Bool.not_eq_true', decide_eq_true_eq, decide_eq_false_iff_not, decide_true, decide_false,
 Int.toNat_natCast, Int.ofNat_lt, Int.ofNat_le, Int.natCast_inj, Bool.false_eq_true, Bool.true_eq_false, qcjz, List.getElem?_cons_zero, List.getElem?_cons_succ, qckz, Int.reduceToNat, Int.reduceLE, true_and, and_true, reduceCtorEq, or_false, false_or, or_true, Option.some.injEq, exists_eq_left', Bool.not_true, Bool.not_false, ne_eq, Int.reduceEq, not_true_eq_false, not_false_eq_true, Int.reduceLT, UInt8.reduceLT, UInt8.reduceLE, UInt8.reduceToNat]
        exact .inr (bad (by simp [prW, c1]) _ rfl)
      · by_cases c2 : 126 < c
        · simp (maxSteps := 1000000) (disch := omega) only [h0, h3, len_s, hlt, idx_s, ← hc, c1, c2, qaaz, qabz, qacz, qadz, qaez, qafz, qagz, qahz, qaiz, qajz, qakz, qalz, qamz, qanz, evOp, qaoz, qapz, qaqz, qarz, qasz, qatz, qauz, qavz,
 ↓reduceIte, Nat.reduceEqDiff, List.nil_append, List.cons_append, List.append_nil, List.map_cons, List.map_nil, qawz, qaxz, qayz, Option.map_some, Option.map_none, qazz, qbaz, qbbz, qbcz, qbdz, qbez, qbfz, qbgz, qbhz, qbiz, qbjz, qbkz, qblz, qbmz, qbnz, qboz,
 qbpz, qbqz, qbrz, qbsz, qbtz, qbuz, qbvz, qbwz, qbxz, qbyz, qbzz, qcaz, qcbz, qccz, qcdz, qcez, qcfz, qcgz, qchz, qciz, beq_true, beq_false, Bool.not_eq_true', decide_eq_true_eq, decide_eq_false_iff_not, decide_true, decide_false,
 Int.toNat_natCast, Int.ofNat_lt, Int.ofNat_le, Int.natCast_inj, Bool.false_eq_true, Bool.true_eq_false, qcjz, List.getElem?_cons_zero, List.getElem?_cons_succ, qckz, Int.reduceToNat, Int.reduceLE, true_and, and_true, reduceCtorEq, or_false, false_or, or_true, Option.some.injEq, exists_eq_left', Bool.not_true, Bool.not_false, ne_eq, Int.reduceEq, not_true_eq_false, not_false_eq_true, Int.reduceLT, UInt8.reduceLT, UInt8.reduceLE, UInt8.reduceToNat]
          exact .inr (bad (by simp [prW, c2]) _ rfl)
        · simp (maxSteps := 1000000) (disch := omega) only [h0, h3, len_s, hlt, idx_s, ← hc, c1, c2, add_n, loopQ_normal, qaaz, qabz, qacz, qadz, qaez, qafz, qagz, qahz, qaiz, qajz, qakz, qalz, qamz, qanz, evOp, qaoz, qapz, qaqz, qarz, qasz, qatz, qauz, qavz,
 ↓reduceIte, Nat.reduceEqDiff, List.nil_append, List.cons_append, List.append_nil, List.map_cons, List.map_nil, qawz, qaxz, qayz, Option.map_some, Option.map_none, qazz, qbaz, qbbz, qbcz, qbdz, qbez, qbfz, qbgz, qbhz, qbiz, qbjz, qbkz, qblz, qbmz, qbnz, qboz,
 qbpz, qbqz, qbrz, qbsz, qbtz, qbuz, qbvz, qbwz, qbxz, qbyz, qbzz, qcaz, qcbz, qccz, qcdz, qcez, qcfz, qcgz, qchz, qciz, beq_true, beq_false, Bool.not_eq_true', decide_eq_true_eq, decide_eq_false_iff_not, decide_true, decide_false,
 Int.toNat_natCast, Int.ofNat_lt, Int.ofNat_le, Int.natCast_inj, Bool.false_eq_true, Bool.true_eq_false, qcjz, List.getElem?_cons_zero, List.getElem?_cons_succ, qckz, Int.reduceToNat, Int.reduceLE, true_and, and_true, reduceCtorEq, or_false, false_or, or_true, Option.some.injEq, exists_eq_left', Bool.not_true, Bool.not_false, ne_eq, Int.reduceEq, not_true_eq_false, not_false_eq_true, Int.reduceLT, UInt8.reduceLT, UInt8.reduceLE, UInt8.reduceToNat]
          refine ⟨s.length - (i + 1), by omega, ?_⟩
          rw [hI]
          refine ⟨i + 1, rfl, by omega, rfl, fun j hj => ?_, h0, rfl⟩
          by_cases hji : j = i
          · subst hji; rw [← hc]; simp [prW, c1, c2]
          · exact hall j (by omega)
    · simp (maxSteps := 1000000) (disch := omega) only [h0, h3, len_s, hlt, qaaz, qabz, qacz, qadz, qaez, qafz, qagz, qahz, qaiz, qajz, qakz, qalz, qamz, qanz, evOp, qaoz, qapz, qaqz, qarz, qasz, qatz, qauz, qavz,
 ↓reduceIte, Nat.reduceEqDiff, List.nil_append, List.cons_append, List.append_nil, List.map_cons, List.map_nil, qawz, qaxz, qayz, Option.map_some, Option.map_none, qazz, qbaz, qbbz, qbcz, qbdz, qbez, qbfz, qbgz, qbhz, qbiz, qbjz, qbkz, qblz, qbmz, qbnz, qboz,
 qbpz, qbqz, qbrz, qbsz, qbtz, qbuz, qbvz, qbwz, qbxz, qbyz, qbzz, qcaz, qcbz, qccz, qcdz, qcez, qcfz, qcgz, qchz, qciz, beq_true, beq_false, Bool.not_eq_true', decide_eq_true_eq, decide_eq_false_iff_not, decide_true, decide_false,
 Int.toNat_natCast, Int.ofNat_lt, Int.ofNat_le, Int.natCast_inj, Bool.false_eq_true, Bool.true_eq_false, qcjz, List.getElem?_cons_zero, List.getElem?_cons_succ, qckz, Int.reduceToNat, Int.reduceLE, true_and, and_true, reduceCtorEq, or_false, false_or, or_true, Option.some.injEq, exists_eq_left', Bool.not_true, Bool.not_false, ne_eq, Int.reduceEq, not_true_eq_false, not_false_eq_true, Int.reduceLT, UInt8.reduceLT, UInt8.reduceLE, UInt8.reduceToNat]
      exact .inl (all_getD fun j hj => hall j (by omega))
  · intro x E S hh
    rcases hh with ⟨rfl, rfl, h0, hall⟩ | ⟨rfl, hq⟩
    · have h3 := fun S : St => Has_spec (st := S) (a := s) (b := [32, 32]) (by omega) (by decide)
      have h4 := fun S : St => Has_spec (st := S) (a := s) (b := [61, 63]) (by omega) (by decide)
      have hP : plnB s = (!decide (([32] : Bs) <+: s) && (!decide (([32] : Bs) <:+ s) && (!hasB s [32, 32] && !hasB s [61, 63]))) := by unfold plnB; rw [hall, Bool.true_and]
      rw [hP] at hQ0
      generalize hasB s [32, 32] = b3 at h3 hQ0
      generalize hasB s [61, 63] = b4 at h4 hQ0
      by_cases hs : s = []
      · have e1 : decide (([32] : Bs) <+: s) = false := by rw [hs]; rfl
        have e2 : decide (([32] : Bs) <:+ s) = false := by rw [hs]; decide
        rw [e1, e2] at hQ0
        have hs0 : lenPV true (.str s) = some (.int .i64 0) := by rw [hs]; rfl
        cases b3 with
        | true =>
          simp (maxSteps := 1000000) (disch := omega) only [h0, hs0, h3, h4, qaaz, qabz, qacz, qadz, qaez, qafz, qagz, qahz, qaiz, qajz, qakz, qalz, qamz, qanz, evOp, qaoz, qapz, qaqz, qarz, qasz, qatz, qauz, qavz,
 ↓reduceIte, Nat.reduceEqDiff, List.nil_append, List.cons_append, List.append_nil, List.map_cons, List.map_nil, qawz, qaxz, qayz, Option.map_some, Option.map_none, qazz, qbaz, qbbz, qbcz, qbdz, qbez, qbfz, qbgz, qbhz, qbiz, qbjz, qbkz, qblz, qbmz, qbnz, qboz,
 qbpz, qbqz, qbrz, qbsz, qbtz, qbuz, qbvz, qbwz, qbxz, qbyz, qbzz, qcaz, qcbz, qccz, qcdz, qcez, qcfz, qcgz, qchz, qciz, beq_true, beq_false, Bool.not_eq_true', decide_eq_true_eq, decide_eq_false_iff_not, decide_true, decide_false,
 Int.toNat_natCast, Int.ofNat_lt, Int.ofNat_le, Int.natCast_inj, Bool.false_eq_true, Bool.true_eq_false, qcjz, List.getElem?_cons_zero, List.getElem?_cons_succ, qckz, Int.reduceToNat, Int.reduceLE, true_and, and_true, reduceCtorEq, or_false, false_or, or_true, Option.some.injEq, exists_eq_left', Bool.not_true, Bool.not_false, ne_eq, Int.reduceEq, not_true_eq_false, not_false_eq_true, Int.reduceLT, UInt8.reduceLT, UInt8.reduceLE, UInt8.reduceToNat]
          rw [hQ0, qblz]; exact retB rfl Kept.start rfl
        | false =>
          simp (maxSteps := 1000000) (disch := omega) only [h0, hs0, h3, h4, qaaz, qabz, qacz, qadz, qaez, qafz, qagz, qahz, qaiz, qajz, qakz, qalz, qamz, qanz, evOp, qaoz, qapz, qaqz, qarz, qasz, qatz, qauz, qavz,
 ↓reduceIte, Nat.reduceEqDiff, List.nil_append, List.cons_append, List.append_nil, List.map_cons, List.map_nil, qawz, qaxz, qayz, Option.map_some, Option.map_none, qazz, qbaz, qbbz, qbcz, qbdz, qbez, qbfz, qbgz, qbhz, qbiz, qbjz, qbkz, qblz, qbmz, qbnz, qboz,
 qbpz, qbqz, qbrz, qbsz, qbtz, qbuz, qbvz, qbwz, qbxz, qbyz, qbzz, qcaz, qcbz, qccz, qcdz, qcez, qcfz, qcgz, qchz, qciz, beq_true, beq_false, Bool.not_eq_true', decide_eq_true_eq, decide_eq_false_iff_not, decide_true, decide_false,
 Int.toNat_natCast, Int.ofNat_lt, Int.ofNat_le, Int.natCast_inj, Bool.false_eq_true, Bool.true_eq_false, qcjz, List.getElem?_cons_zero, List.getElem?_cons_succ, qckz, Int.reduceToNat, Int.reduceLE, true_and, and_true, reduceCtorEq, or_false, false_or, or_true, Option.some.injEq, exists_eq_left', Bool.not_true, Bool.not_false, ne_eq, Int.reduceEq, not_true_eq_false, not_false_eq_true, Int.reduceLT, UInt8.reduceLT, UInt8.reduceLE, UInt8.reduceToNat]
          rw [hQ0, qblz]; exact retB rfl Kept.start (by cases b4 <;> rfl)
      · have hpos := List.length_pos_iff.2 hs
        rw [pfx32 hs, sfx32 hs] at hQ0
        have hlp : (0 : Int) < (s.length : Int) := by omega
        have hsub : binPV .sub .no (.int .i64 (s.length : Int)) (.int .i64 1) = some (.int .i64 ((s.length - 1 : Nat) : Int)) := by
          rw [sub_i (by omega) (by omega)]; congr 2; omega
        have i0 : idxSPV (.str s) (.int .i64 0) = some (.b8 (s.getD 0 0)) := idx_s (c := 0) (by omega) (by simpa using hpos)
        have i1 : idxSPV (.str s) (.int .i64 ((s.length - 1 : Nat) : Int)) = some (.b8 (s.getD (s.length - 1) 0)) := by
          rw [idx_s (by omega) (by omega), Int.toNat_natCast]
        generalize s.getD 0 0 = a at i0 hQ0
        generalize s.getD (s.length - 1) 0 = b at i1 hQ0
        by_cases c1 : a = 32
        · simp (maxSteps := 1000000) (disch := omega) only [h0, len_s, hlp, hsub, i0, i1, eq_true c1, h3, h4, qaaz, qabz, qacz, qadz, qaez, qafz, qagz, qahz, qaiz, qajz, qakz, qalz, qamz, qanz, evOp, qaoz, qapz, qaqz, qarz, qasz, qatz, qauz, qavz,
 ↓reduceIte, Nat.reduceEqDiff, List.nil_append, List.cons_append, List.append_nil, List.map_cons, List.map_nil, qawz, qaxz, qayz, Option.map_some, Option.map_none, qazz, qbaz, qbbz, qbcz, qbdz, qbez, qbfz, qbgz, qbhz, qbiz, qbjz, qbkz, qblz, qbmz, qbnz, qboz,
 qbpz, qbqz, qbrz, qbsz, qbtz, qbuz, qbvz, qbwz, qbxz, qbyz, qbzz, qcaz, qcbz, qccz, qcdz, qcez, qcfz, qcgz, qchz, qciz, beq_true, beq_false, Bool.not_eq_true', decide_eq_true_eq, decide_eq_false_iff_not, decide_true, decide_false,
 Int.toNat_natCast, Int.ofNat_lt, Int.ofNat_le, Int.natCast_inj, Bool.false_eq_true, Bool.true_eq_false, qcjz, List.getElem?_cons_zero, List.getElem?_cons_succ, qckz, Int.reduceToNat, Int.reduceLE, true_and, and_true, reduceCtorEq, or_false, false_or, or_true, Option.some.injEq, exists_eq_left', Bool.not_true, Bool.not_false, ne_eq, Int.reduceEq, not_true_eq_false, not_false_eq_true, Int.reduceLT, UInt8.reduceLT, UInt8.reduceLE, UInt8.reduceToNat]
          rw [hQ0, qblz]; exact retB rfl Kept.start (by simp [c1])
        · by_cases c2 : b = 32
          · simp (maxSteps := 1000000) (disch := omega) only [h0, len_s, hlp, hsub, i0, i1, c1, eq_true c2, h3, h4, qaaz, qabz, qacz, qadz, qaez, qafz, qagz, qahz, qaiz, qajz, qakz, qalz, qamz, qanz, evOp, qaoz, qapz, qaqz, qarz, qasz, qatz, qauz, qavz,
 ↓reduceIte, Nat.reduceEqDiff, List.nil_append, List.cons_append, List.append_nil, List.map_cons, List.map_nil, qawz, qaxz, qayz, Option.map_some, Option.map_none, qazz, qbaz, qbbz, qbcz, qbdz, qbez, qbfz, qbgz, qbhz, qbiz, qbjz, qbkz, qblz, qbmz, qbnz, qboz,
 qbpz, qbqz, qbrz, qbsz, qbtz, qbuz, qbvz, qbwz, qbxz, qbyz, qbzz, qcaz, qcbz, qccz, qcdz, qcez, qcfz, qcgz, qchz, qciz, beq_true, beq_false, Bool.not_eq_true', decide_eq_true_eq, decide_eq_false_iff_not, decide_true, decide_false,
 Int.toNat_natCast, Int.ofNat_lt, Int.ofNat_le, Int.natCast_inj, Bool.false_eq_true, Bool.true_eq_false, qcjz, List.getElem?_cons_zero, List.getElem?_cons_succ, qckz, Int.reduceToNat, Int.reduceLE, true_and, and_true, reduceCtorEq, or_false, false_or, or_true, Option.some.injEq, exists_eq_left', Bool.not_true, Bool.not_false, ne_eq, Int.reduceEq, not_true_eq_false, not_false_eq_true, Int.reduceLT, UInt8.reduceLT, UInt8.reduceLE, UInt8.reduceToNat]
            rw [hQ0, qblz]; exact retB rfl Kept.start (by simp [c2])
          · cases b3 with
            | true =>
              simp (maxSteps := 1000000) (disch := omega) only [h0, len_s, hlp, hsub, i0, i1, c1, c2, h3, h4, qaaz, qabz, qacz, qadz, qaez, qafz, qagz, qahz, qaiz, qajz, qakz, qalz, qamz, qanz, evOp, qaoz, qapz, qaqz, qarz, qasz, qatz, qauz, qavz,
 ↓reduceIte, Nat.reduceEqDiff, List.nil_append, List.cons_append, List.append_nil, List.map_cons, List.map_nil, qawz, qaxz, qayz, Option.map_some, Option.map_none, qazz, qbaz, qbbz, qbcz, qbdz, qbez, qbfz, qbgz, qbhz, qbiz, qbjz, qbkz, qblz, qbmz, qbnz, qboz,
 qbpz, qbqz, qbrz, qbsz, qbtz, qbuz, qbvz, qbwz, qbxz, qbyz, qbzz, qcaz, qcbz, qccz, qcdz, qcez, qcfz, qcgz, qchz, qciz, beq_true, beq_false, Bool.not_eq_true', decide_eq_true_eq, decide_eq_false_iff_not, decide_true, decide_false,
 Int.toNat_natCast, Int.ofNat_lt, Int.ofNat_le, Int.natCast_inj, Bool.false_eq_true, Bool.true_eq_false, qcjz, List.getElem?_cons_zero, List.getElem?_cons_succ, qckz, Int.reduceToNat, Int.reduceLE, true_and, and_true, reduceCtorEq, or_false, false_or, or_true, Option.some.injEq, exists_eq_left', Bool.not_true, Bool.not_false, ne_eq, Int.reduceEq, not_true_eq_false, not_false_eq_true, Int.reduceLT, UInt8.reduceLT, UInt8.reduceLE, UInt8.reduceToNat]
              rw [hQ0, qblz]; exact retB rfl Kept.start (by simp)
            | false =>
              simp (maxSteps := 1000000) (disch := omega) only [h0, len_s, hlp, hsub, i0, i1, c1, c2, h3, h4, qaaz, qabz, qacz, qadz, qaez, qafz, qagz, qahz, qaiz, qajz, qakz, qalz, qamz, qanz, evOp, qaoz, qapz, qaqz, qarz, qasz, qatz, qauz, qavz,
 ↓reduceIte, Nat.reduceEqDiff, List.nil_append, List.cons_append, List.append_nil, List.map_cons, List.map_nil, qawz, qaxz, qayz, Option.map_some, Option.map_none, qazz, qbaz, qbbz, qbcz, qbdz, qbez, qbfz, qbgz, qbhz, qbiz, qbjz, qbkz, qblz, qbmz, qbnz, qboz,
 qbpz, qbqz, qbrz, qbsz, qbtz, qbuz, qbvz, qbwz, qbxz, qbyz, qbzz, qcaz, qcbz, qccz, qcdz, qcez, qcfz, qcgz, qchz, qciz, beq_true, beq_false, Bool.not_eq_true', decide_eq_true_eq, decide_eq_false_iff_not, decide_true, decide_false,
 Int.toNat_natCast, Int.ofNat_lt, Int.ofNat_le, Int.natCast_inj, Bool.false_eq_true, Bool.true_eq_false, qcjz, List.getElem?_cons_zero, List.getElem?_cons_succ, qckz, Int.reduceToNat, Int.reduceLE, true_and, and_true, reduceCtorEq, or_false, false_or, or_true, Option.some.injEq, exists_eq_left', Bool.not_true, Bool.not_false, ne_eq, Int.reduceEq, not_true_eq_false, not_false_eq_true, Int.reduceLT, UInt8.reduceLT, UInt8.reduceLE, UInt8.reduceToNat]
              rw [hQ0, qblz]; exact retB rfl Kept.start (by simp [c1, c2])
    · simp only [qbez, qbaz]
      exact hq

theorem wordU_ne (p : Bs) : wordU p ≠ [] := by simp [wordU, wordS]

set_option maxHeartbeats 4000000 in
theorem rWEncode_spec {s : Bs} (hl : s.length ≤ 1000000) : call prog (.fn 223 []) [.str s] st = some (.tup [.str (encV s).1, .int .i64 (encV s).2], st) := by
  refine call_of_W prog_223 ?_
  unfold F_posthornref04_Encode; dsimp only
  have hval : ∀ (S : St) (t : Tok), call prog (.fn 74 []) [.bys t s] S = some (.bool (validOf s), S) := fun S t => rValid_spec qcgz (by omega)
  have hpln := fun S : St => rPlain_spec (st := S) (s := s) hl
  by_cases h1 : 4096 < s.length
  · have h1' : (4096 : Int) < (s.length : Int) := by omega
    have hV : encV s = ([], 2) := by unfold encV; rw [if_pos h1]
    rw [hV]
    simp (maxSteps := 1000000) (disch := omega) only [len_s, h1', qaaz, qabz, qacz, qadz, qaez, qafz, qagz, qahz, qaiz, qajz, qakz, qalz, qamz, qanz, evOp, qaoz, qapz, qaqz, qarz, qasz, qatz, qauz, qavz,
 ↓reduceIte, Nat.reduceEqDiff, List.nil_append, List.cons_append, List.append_nil, List.map_cons, List.map_nil, qawz, qaxz, qayz, Option.map_some, Option.map_none, qazz, qbaz, qbbz, qbcz, qbdz, qbez, qbfz, qbgz, qbhz, qbiz, qbjz, qbkz, qblz, qbmz, qbnz, qboz,
 qbpz, qbqz, qbrz, qbsz, qbtz, qbuz, qbvz, qbwz, qbxz, qbyz, qbzz, qcaz, qcbz, qccz, qcdz, qcez, qcfz, qcgz, qchz, qciz, beq_true, beq_false, Bool.not_eq_true', decide_eq_true_eq, decide_eq_false_iff_not, decide_true, decide_false,
 Int.toNat_natCast, Int.ofNat_lt, Int.ofNat_le, Int.natCast_inj, Bool.false_eq_true, Bool.true_eq_false, qcjz, List.getElem?_cons_zero, List.getElem?_cons_succ, qckz, Int.reduceToNat, Int.reduceLE, true_and, and_true, reduceCtorEq, or_false, false_or, or_true, Option.some.injEq, exists_eq_left', Bool.not_true, Bool.not_false, ne_eq, Int.reduceEq, not_true_eq_false, not_false_eq_true, Int.reduceLT, UInt8.reduceLT, UInt8.reduceLE, UInt8.reduceToNat]
    exact retTI rfl rfl Kept.start rfl rfl
  have h1' : ¬ (4096 : Int) < (s.length : Int) := by omega
  cases hv : validOf s with
  | false =>
    have hV : encV s = ([], 20) := by unfold encV; rw [if_neg h1, if_pos hv]
    rw [hV]
    rw [hv] at hval
    simp (maxSteps := 1000000) (disch := omega) only [len_s, h1', freshT, hval, qaaz, qabz, qacz, qadz, qaez, qafz, qagz, qahz, qaiz, qajz, qakz, qalz, qamz, qanz, evOp, qaoz, qapz, qaqz, qarz, qasz, qatz, qauz, qavz,
 ↓reduceIte, Nat.reduceEqDiff, List.nil_append, List.cons_append, List.append_nil, List.map_cons, List.map_nil, qawz, qaxz, qayz, Option.map_some, Option.map_none, qazz, qbaz, qbbz, qbcz, qbdz, qbez, qbfz, qbgz, qbhz, qbiz, qbjz, qbkz, qblz, qbmz, qbnz, qboz,
 qbpz, qbqz, qbrz, qbsz, qbtz, qbuz, qbvz, qbwz, qbxz, qbyz, qbzz, qcaz, qcbz, qccz, qcdz, qcez, qcfz, qcgz, qchz, qciz, beq_true, beq_false, Bool.not_eq_true', decide_eq_true_eq, decide_eq_false_iff_not, decide_true, decide_false,
 Int.toNat_natCast, Int.ofNat_lt, Int.ofNat_le, Int.natCast_inj, Bool.false_eq_true, Bool.true_eq_false, qcjz, List.getElem?_cons_zero, List.getElem?_cons_succ, qckz, Int.reduceToNat, Int.reduceLE, true_and, and_true, reduceCtorEq, or_false, false_or, or_true, Option.some.injEq, exists_eq_left', Bool.not_true, Bool.not_false, ne_eq, Int.reduceEq, not_true_eq_false, not_false_eq_true, Int.reduceLT, UInt8.reduceLT, UInt8.reduceLE, UInt8.reduceToNat]
    exact retTI rfl rfl Kept.start.tok1 rfl rfl
  | true =>
    rw [hv] at hval
    have hvd := valid_iff.1 hv
    cases hp : plnB s with
    | true =>
      have hV : encV s = (s, 0) := by unfold encV; rw [if_neg h1, if_neg (by simp [hv]), if_pos hp]
      rw [hV]
      rw [hp] at hpln
      simp (maxSteps := 1000000) (disch := omega) only [len_s, h1', freshT, hval, hpln, qaaz, qabz, qacz, qadz, qaez, qafz, qagz, qahz, qaiz, qajz, qakz, qalz, qamz, qanz, evOp, qaoz, qapz, qaqz, qarz, qasz, qatz, qauz, qavz,
 ↓reduceIte, Nat.reduceEqDiff, List.nil_append, List.cons_append, List.append_nil, List.map_cons, List.map_nil, qawz, qaxz, qayz, Option.map_some, Option.map_none, qazz, qbaz, qbbz, qbcz, qbdz, qbez, qbfz, qbgz, qbhz, qbiz, qbjz, qbkz, qblz, qbmz, qbnz, qboz,
 qbpz, qbqz, qbrz, qbsz, qbtz, qbuz, qbvz, qbwz, qbxz, qbyz, qbzz, qcaz, qcbz, qccz, qcdz, qcez, qcfz, qcgz, qchz, qciz, beq_true, beq_false, Bool.not_eq_true', decide_eq_true_eq, decide_eq_false_iff_not, decide_true, decide_false,
 Int.toNat_natCast, Int.ofNat_lt, Int.ofNat_le, Int.natCast_inj, Bool.false_eq_true, Bool.true_eq_false, qcjz, List.getElem?_cons_zero, List.getElem?_cons_succ, qckz, Int.reduceToNat, Int.reduceLE, true_and, and_true, reduceCtorEq, or_false, false_or, or_true, Option.some.injEq, exists_eq_left', Bool.not_true, Bool.not_false, ne_eq, Int.reduceEq, not_true_eq_false, not_false_eq_true, Int.reduceLT, UInt8.reduceLT, UInt8.reduceLE, UInt8.reduceToNat]
      exact retTI rfl rfl Kept.start.tok1 rfl rfl
    | false =>
      have hV : encV s = (encW s, 0) := by unfold encV; rw [if_neg h1, if_neg (by simp [hv]), if_neg (by simp [hp])]
      rw [hV]
      rw [hp] at hpln
      have hTl := encW_len hvd
      obtain ⟨T, hT⟩ : ∃ T, T = encW s := ⟨_, rfl⟩
      rw [← hT] at hTl ⊢
      simp (maxSteps := 1000000) (disch := omega) only [len_s, h1', freshT, hval, hpln, qaaz, qabz, qacz, qadz, qaez, qafz, qagz, qahz, qaiz, qajz, qakz, qalz, qamz, qanz, evOp, qaoz, qapz, qaqz, qarz, qasz, qatz, qauz, qavz,
 ↓reduceIte, Nat.reduceEqDiff, List.nil_append, List.cons_append, List.append_nil, List.map_cons, List.map_nil, qawz, qaxz, qayz, Option.map_some, Option.map_none, qazz, qbaz, qbbz, qbcz, qbdz, qbez, qbfz, qbgz, qbhz, qbiz, qbjz, qbkz, qblz, qbmz, qbnz, qboz,
 qbpz, qbqz, qbrz, qbsz, qbtz, qbuz, qbvz, qbwz, qbxz, qbyz, qbzz, qcaz, qcbz, qccz, qcdz, qcez, qcfz, qcgz, qchz, qciz, beq_true, beq_false, Bool.not_eq_true', decide_eq_true_eq, decide_eq_false_iff_not, decide_true, decide_false,
 Int.toNat_natCast, Int.ofNat_lt, Int.ofNat_le, Int.natCast_inj, Bool.false_eq_true, Bool.true_eq_false, qcjz, List.getElem?_cons_zero, List.getElem?_cons_succ, qckz, Int.reduceToNat, Int.reduceLE, true_and, and_true, reduceCtorEq, or_false, false_or, or_true, Option.some.injEq, exists_eq_left', Bool.not_true, Bool.not_false, ne_eq, Int.reduceEq, not_true_eq_false, not_false_eq_true, Int.reduceLT, UInt8.reduceLT, UInt8.reduceLE, UInt8.reduceToNat]
      obtain ⟨Q0, hQ0⟩ : ∃ Q0 : Ex → Env → St → Prop, Q0 = endQ st [.tmp 2, .tmp 3] (.tup [.str T, .int .i64 0], st) := ⟨_, rfl⟩
      rw [← hQ0]
      obtain ⟨I, hI⟩ : ∃ I : Nat → Env → St → Prop, I = fun k E S => ∃ (r acc : Bs), k = r.length ∧ Kept st S ∧ Vd r ∧ r.length ≤ s.length ∧ (acc = [] → T = Lib.join ((pcsOf r).map wordU) [32]) ∧ (acc ≠ [] → T = acc ++ Lib.joinTail [32] ((pcsOf r).map wordU)) ∧ E 0 = .str r ∧ E 4 = .str acc := ⟨_, rfl⟩
      refine W_loop I ?_ (n := s.length) (by
        rw [hI]; exact ⟨s, [], rfl, Kept.start.tok1, hvd, Nat.le_refl _, fun _ => hT, fun h => absurd rfl h, rfl, rfl⟩)
      intro k E S hh
      rw [hI] at hh
      obtain ⟨r, acc, rfl, hk, hvr, hrl, t1, t2, h0, h4⟩ := hh
      by_cases hr : r = []
      · have hln : lenPV true (.str r) = some (.int .i64 0) := by rw [hr]; rfl
        have hTa : T = acc := by
          by_cases ha : acc = []
          · rw [t1 ha, hr, ha]; rfl
          · rw [t2 ha, hr, pcsOf_nil]; simp [Lib.joinTail]
        simp (maxSteps := 1000000) (disch := omega) only [h0, h4, hln, qaaz, qabz, qacz, qadz, qaez, qafz, qagz, qahz, qaiz, qajz, qakz, qalz, qamz, qanz, evOp, qaoz, qapz, qaqz, qarz, qasz, qatz, qauz, qavz,
 ↓reduceIte, Nat.reduceEqDiff, List.nil_append, List.cons_append, List.append_nil, List.map_cons, List.map_nil, qawz, qaxz, qayz, Option.map_some, Option.map_none, qazz, qbaz, qbbz, qbcz, qbdz, qbez, qbfz, qbgz, qbhz, qbiz, qbjz, qbkz, qblz, qbmz, qbnz, qboz,
 qbpz, qbqz, qbrz, qbsz, qbtz, qbuz, qbvz, qbwz, qbxz, qbyz, qbzz, qcaz, qcbz, qccz, qcdz, qcez, qcfz, qcgz, qchz, qciz, beq_true, beq_false, Bool.not_eq_true', decide_eq_true_eq, decide_eq_false_iff_not, decide_true, decide_false,
 Int.toNat_natCast, Int.ofNat_lt, Int.ofNat_le, Int.natCast_inj, Bool.false_eq_true, Bool.true_eq_false, qcjz, List.getElem?_cons_zero, List.getElem?_cons_succ, qckz, Int.reduceToNat, Int.reduceLE, true_and, and_true, reduceCtorEq, or_false, false_or, or_true, Option.some.injEq, exists_eq_left', Bool.not_true, Bool.not_false, ne_eq, Int.reduceEq, not_true_eq_false, not_false_eq_true, Int.reduceLT, UInt8.reduceLT, UInt8.reduceLE, UInt8.reduceToNat]
        rw [hQ0, qblz]
        exact retTI rfl rfl hk hTa.symm rfl
      · have hpos := List.length_pos_iff.2 hr
        have hlp : (0 : Int) < (r.length : Int) := by omega
        obtain ⟨c1, c2, c3, c4⟩ := cut45 hvr hr
        have hcons := pcsOf_cons hvr hr
        have hvr2 := (hvr.cut _ c3 c4).2
        have hcut : ∀ (S : St) (t : Tok), call prog (.fn 63 []) [.bys t r, .int .i64 45] S = some (.int .i64 ((cutOf r 45 : Nat) : Int), S) := fun S t => rCut_spec (m := 45) qcgz (by omega) (by omega)
        generalize cutOf r 45 = n at *
        obtain ⟨p, hp2⟩ : ∃ p, p = r.take n := ⟨_, rfl⟩
        obtain ⟨r2, hr2⟩ : ∃ r2, r2 = r.drop n := ⟨_, rfl⟩
        have hpl : p.length ≤ 45 := by rw [hp2]; simp; omega
        have hs1 : slcPV 0 (.str r) none (some (.int .i64 (n : Int))) none = some (.str p) := by rw [slc_s_hi (by omega) (by omega), Int.toNat_natCast, hp2]
        have hs2 : slcPV 0 (.str r) (some (.int .i64 (n : Int))) none none = some (.str r2) := by rw [slc_s_lo (by omega) (by omega), Int.toNat_natCast, hr2]
        rw [← hp2, ← hr2] at hcons
        rw [hcons, List.map_cons] at t1 t2
        have henc : ∀ (S : St) (t : Tok), call prog (.fn 239 []) [.bys t p, .int .i64 0] S = some (.tup [.str (enc64 p), .int .i64 0], S) := fun S t => rEncode_spec qcgz (by omega)
        have hel := enc64_len p.length p (Nat.le_refl _)
        have hal : acc.length ≤ 22 * s.length := by
          by_cases ha : acc = []
          · rw [ha]; simp
          · have := congrArg List.length (t2 ha); simp at this; omega
        have next : ∀ (a2 : Bs) (E2 : Env), T = a2 ++ Lib.joinTail [32] ((pcsOf r2).map wordU) → a2 ≠ [] → E2 0 = .str r2 → E2 4 = .str a2 → ∃ m, m < r.length ∧ I m E2 ⟨S.boxes, S.toks ++ [true] ++ [true], S.loops, S.low⟩ := fun a2 E2 q1 q2 e0 e4 => by
          refine ⟨r2.length, by rw [hr2]; simp; omega, ?_⟩
          rw [hI]
          exact ⟨r2, a2, rfl, hk.tok1.tok1, by rw [hr2]; exact hvr2, by rw [hr2]; simp; omega, fun h => absurd h q2, fun _ => q1, e0, e4⟩
        have ad : ∀ a2 : Bs, a2.length ≤ 23000000 → binPV .add .no (.str a2) (.str [61, 63, 117, 116, 102, 45, 56, 63, 66, 63]) = some (.str (a2 ++ [61, 63, 117, 116, 102, 45, 56, 63, 66, 63])) ∧
            binPV .add .no (.str (a2 ++ [61, 63, 117, 116, 102, 45, 56, 63, 66, 63])) (.str (enc64 p)) = some (.str (a2 ++ [61, 63, 117, 116, 102, 45, 56, 63, 66, 63] ++ enc64 p)) ∧
            binPV .add .no (.str (a2 ++ [61, 63, 117, 116, 102, 45, 56, 63, 66, 63] ++ enc64 p)) (.str [63, 61]) = some (.str (a2 ++ wordU p)) := fun a2 hh => by
          refine ⟨adds (by simp; omega), adds (by simp; omega), ?_⟩
          rw [adds (by simp; omega)]; simp [wordU, wordS]
        by_cases ha : acc = []
        · obtain ⟨d1, d2, d3⟩ := ad acc (by omega)
          generalize acc ++ [61, 63, 117, 116, 102, 45, 56, 63, 66, 63] = X1 at d1 d2 d3
          generalize X1 ++ enc64 p = X2 at d2 d3
          simp (maxSteps := 1000000) (disch := omega) only [h0, h4, len_s, hlp, freshT, hcut, hs1, hs2, henc, eq_true ha, d1, d2, d3, loopQ_normal, qaaz, qabz, qacz, qadz, qaez, qafz, qagz, qahz, qaiz, qajz, qakz, qalz, qamz, qanz, evOp, qaoz, qapz, qaqz, qarz, qasz, qatz, qauz, qavz,
 ↓reduceIte, Nat.reduceEqDiff, List.nil_append, List.cons_append, List.append_nil, List.map_cons, List.map_nil, qawz, qaxz, qayz, Option.map_some, Option.map_none, qazz, qbaz, qbbz, qbcz, qbdz, qbez, qbfz, qbgz, qbhz, qbiz, qbjz, qbkz, qblz, qbmz, qbnz, qboz,
 qbpz, qbqz, qbrz, qbsz, qbtz, qbuz, qbvz, qbwz, qbxz, qbyz, qbzz, qcaz, qcbz, qccz, qcdz, qcez, qcfz, qcgz, qchz, qciz, beq_true, beq_false, Bool.not_eq_true', decide_eq_true_eq, decide_eq_false_iff_not, decide_true, decide_false,
 Int.toNat_natCast, Int.ofNat_lt, Int.ofNat_le, Int.natCast_inj, Bool.false_eq_true, Bool.true_eq_false, qcjz, List.getElem?_cons_zero, List.getElem?_cons_succ, qckz, Int.reduceToNat, Int.reduceLE, true_and, and_true, reduceCtorEq, or_false, false_or, or_true, Option.some.injEq, exists_eq_left', Bool.not_true, Bool.not_false, ne_eq, Int.reduceEq, not_true_eq_false, not_false_eq_true, Int.reduceLT, UInt8.reduceLT, UInt8.reduceLE, UInt8.reduceToNat]
          refine next (acc ++ wordU p) _ ?_ (by simp [wordU_ne]) rfl rfl
          rw [t1 ha, Lib.join_cons, ha]; rfl
        · obtain ⟨d1, d2, d3⟩ := ad (acc ++ [32]) (by simp; omega)
          have d0 : binPV .add .no (.str acc) (.str [32]) = some (.str (acc ++ [32])) := adds (by simp; omega)
          generalize acc ++ [32] ++ [61, 63, 117, 116, 102, 45, 56, 63, 66, 63] = X1 at d1 d2 d3
          generalize X1 ++ enc64 p = X2 at d2 d3
          generalize hX3 : acc ++ [32] ++ wordU p = X3 at d3
          generalize hX0 : acc ++ [32] = X0 at d0 d1
          simp (maxSteps := 1000000) (disch := omega) only [h0, h4, len_s, hlp, freshT, hcut, hs1, hs2, henc, ha, d0, d1, d2, d3, loopQ_normal, qaaz, qabz, qacz, qadz, qaez, qafz, qagz, qahz, qaiz, qajz, qakz, qalz, qamz, qanz, evOp, qaoz, qapz, qaqz, qarz, qasz, qatz, qauz, qavz,
 ↓reduceIte, Nat.reduceEqDiff, List.nil_append, List.cons_append, List.append_nil, List.map_cons, List.map_nil, qawz, qaxz, qayz, Option.map_some, Option.map_none, qazz, qbaz, qbbz, qbcz, qbdz, qbez, qbfz, qbgz, qbhz, qbiz, qbjz, qbkz, qblz, qbmz, qbnz, qboz,
 qbpz, qbqz, qbrz, qbsz, qbtz, qbuz, qbvz, qbwz, qbxz, qbyz, qbzz, qcaz, qcbz, qccz, qcdz, qcez, qcfz, qcgz, qchz, qciz, beq_true, beq_false, Bool.not_eq_true', decide_eq_true_eq, decide_eq_false_iff_not, decide_true, decide_false,
 Int.toNat_natCast, Int.ofNat_lt, Int.ofNat_le, Int.natCast_inj, Bool.false_eq_true, Bool.true_eq_false, qcjz, List.getElem?_cons_zero, List.getElem?_cons_succ, qckz, Int.reduceToNat, Int.reduceLE, true_and, and_true, reduceCtorEq, or_false, false_or, or_true, Option.some.injEq, exists_eq_left', Bool.not_true, Bool.not_false, ne_eq, Int.reduceEq, not_true_eq_false, not_false_eq_true, Int.reduceLT, UInt8.reduceLT, UInt8.reduceLE, UInt8.reduceToNat]
          refine next X3 _ ?_ (by rw [← hX3]; simp) rfl rfl
          rw [t2 ha, ← hX3]; simp [Lib.joinTail]

set_option maxHeartbeats 2000000 in
theorem law_WordEncodes {s : Bs} : ∃ s', call prog (.fn 226 []) [.str s] ⟨[], [], [], 0⟩ = some (.bool true, s') := by
  refine law_of_W prog_226 rfl ?_
  unfold F_posthornlaw04_WordEncodes; dsimp only
  have hA := call_of al04_0
  by_cases h1 : (600 : Int) < (s.length : Int)
  · by_cases h2 : (s.length : Int) ≤ 4096
    · simp (maxSteps := 1000000) (disch := omega) only [len_s, h1, h2, hA, List.length_nil, qaaz, qabz, qacz, qadz, qaez, qafz, qagz, qahz, qaiz, qajz, qakz, qalz, qamz, qanz, evOp, qaoz, qapz, qaqz, qarz, qasz, qatz, qauz, qavz,
 ↓reduceIte, Nat.reduceEqDiff, List.nil_append, List.cons_append, List.append_nil, List.map_cons, List.map_nil, qawz, qaxz, qayz, Option.map_some, Option.map_none, qazz, qbaz, qbbz, qbcz, qbdz, qbez, qbfz, qbgz, qbhz, qbiz, qbjz, qbkz, qblz, qbmz, qbnz, qboz,
 qbpz, qbqz, qbrz, qbsz, qbtz, qbuz, qbvz, qbwz, qbxz, qbyz, qbzz, qcaz, qcbz, qccz, qcdz, qcez, qcfz, qcgz, qchz, qciz, beq_true, beq_false, Bool.not_eq_true', decide_eq_true_eq, decide_eq_false_iff_not, decide_true, decide_false,
 Int.toNat_natCast, Int.ofNat_lt, Int.ofNat_le, Int.natCast_inj, Bool.false_eq_true, Bool.true_eq_false, qcjz, List.getElem?_cons_zero, List.getElem?_cons_succ, qckz, Int.reduceToNat, Int.reduceLE, true_and, and_true, reduceCtorEq, or_false, false_or, or_true, Option.some.injEq, exists_eq_left', Bool.not_true, Bool.not_false, ne_eq, Int.reduceEq, not_true_eq_false, not_false_eq_true, Int.reduceLT, UInt8.reduceLT, UInt8.reduceLE, UInt8.reduceToNat]
    · by_cases h3 : (5000 : Int) < (s.length : Int)
      · simp (maxSteps := 1000000) (disch := omega) only [len_s, h1, h2, h3, hA, List.length_nil, qaaz, qabz, qacz, qadz, qaez, qafz, qagz, qahz, qaiz, qajz, qakz, qalz, qamz, qanz, evOp, qaoz, qapz, qaqz, qarz, qasz, qatz, qauz, qavz,
 ↓reduceIte, Nat.reduceEqDiff, List.nil_append, List.cons_append, List.append_nil, List.map_cons, List.map_nil, qawz, qaxz, qayz, Option.map_some, Option.map_none, qazz, qbaz, qbbz, qbcz, qbdz, qbez, qbfz, qbgz, qbhz, qbiz, qbjz, qbkz, qblz, qbmz, qbnz, qboz,
 qbpz, qbqz, qbrz, qbsz, qbtz, qbuz, qbvz, qbwz, qbxz, qbyz, qbzz, qcaz, qcbz, qccz, qcdz, qcez, qcfz, qcgz, qchz, qciz, beq_true, beq_false, Bool.not_eq_true', decide_eq_true_eq, decide_eq_false_iff_not, decide_true, decide_false,
 Int.toNat_natCast, Int.ofNat_lt, Int.ofNat_le, Int.natCast_inj, Bool.false_eq_true, Bool.true_eq_false, qcjz, List.getElem?_cons_zero, List.getElem?_cons_succ, qckz, Int.reduceToNat, Int.reduceLE, true_and, and_true, reduceCtorEq, or_false, false_or, or_true, Option.some.injEq, exists_eq_left', Bool.not_true, Bool.not_false, ne_eq, Int.reduceEq, not_true_eq_false, not_false_eq_true, Int.reduceLT, UInt8.reduceLT, UInt8.reduceLE, UInt8.reduceToNat]
      · have hE := fun S : St => wEncode_spec (st := S) (s := s) (by omega)
        have hR := fun S : St => rWEncode_spec (st := S) (s := s) (by omega)
        have hp := fun S : St => wPlain_spec (st := S) (s := s) (by omega)
        have hq := fun S : St => rPlain_spec (st := S) (s := s) (by omega)
        simp (maxSteps := 1000000) (disch := omega) only [len_s, h1, h2, h3, hE, hR, hA, hp, hq, List.length_nil, qcdz, qaaz, qabz, qacz, qadz, qaez, qafz, qagz, qahz, qaiz, qajz, qakz, qalz, qamz, qanz, evOp, qaoz, qapz, qaqz, qarz, qasz, qatz, qauz, qavz,
 ↓reduceIte, Nat.reduceEqDiff, List.nil_append, List.cons_append, List.append_nil, List.map_cons, List.map_nil, qawz, qaxz, qayz, Option.map_some, Option.map_none, qazz, qbaz, qbbz, qbcz, qbdz, qbez, qbfz, qbgz, qbhz, qbiz, qbjz, qbkz, qblz, qbmz, qbnz, qboz,
 qbpz, qbqz, qbrz, qbsz, qbtz, qbuz, qbvz, qbwz, qbxz, qbyz, qbzz, qcaz, qcbz, qccz, qcdz, qcez, qcfz, qcgz, qchz, qciz, beq_true, beq_false, Bool.not_eq_true', decide_eq_true_eq, decide_eq_false_iff_not, decide_true, decide_false,
 Int.toNat_natCast, Int.ofNat_lt, Int.ofNat_le, Int.natCast_inj, Bool.false_eq_true, Bool.true_eq_false, qcjz, List.getElem?_cons_zero, List.getElem?_cons_succ, qckz, Int.reduceToNat, Int.reduceLE, true_and, and_true, reduceCtorEq, or_false, false_or, or_true, Option.some.injEq, exists_eq_left', Bool.not_true, Bool.not_false, ne_eq, Int.reduceEq, not_true_eq_false, not_false_eq_true, Int.reduceLT, UInt8.reduceLT, UInt8.reduceLE, UInt8.reduceToNat]
  · have h3 : ¬ (5000 : Int) < (s.length : Int) := by omega
    have hE := fun S : St => wEncode_spec (st := S) (s := s) (by omega)
    have hR := fun S : St => rWEncode_spec (st := S) (s := s) (by omega)
    have hp := fun S : St => wPlain_spec (st := S) (s := s) (by omega)
    have hq := fun S : St => rPlain_spec (st := S) (s := s) (by omega)
    simp (maxSteps := 1000000) (disch := omega) only [len_s, h1, h3, hE, hR, hA, hp, hq, List.length_nil, qcdz, qaaz, qabz, qacz, qadz, qaez, qafz, qagz, qahz, qaiz, qajz, qakz, qalz, qamz, qanz, evOp, qaoz, qapz, qaqz, qarz, qasz, qatz, qauz, qavz,
 ↓reduceIte, Nat.reduceEqDiff, List.nil_append, List.cons_append, List.append_nil, List.map_cons, List.map_nil, qawz, qaxz, qayz, Option.map_some, Option.map_none, qazz, qbaz, qbbz, qbcz, qbdz, qbez, qbfz, qbgz, qbhz, qbiz, qbjz, qbkz, qblz, qbmz, qbnz, qboz,
 qbpz, qbqz, qbrz, qbsz, qbtz, qbuz, qbvz, qbwz, qbxz, qbyz, qbzz, qcaz, qcbz, qccz, qcdz, qcez, qcfz, qcgz, qchz, qciz, beq_true, beq_false, Bool.not_eq_true', decide_eq_true_eq, decide_eq_false_iff_not, decide_true, decide_false,
 Int.toNat_natCast, Int.ofNat_lt, Int.ofNat_le, Int.natCast_inj, Bool.false_eq_true, Bool.true_eq_false, qcjz, List.getElem?_cons_zero, List.getElem?_cons_succ, qckz, Int.reduceToNat, Int.reduceLE, true_and, and_true, reduceCtorEq, or_false, false_or, or_true, Option.some.injEq, exists_eq_left', Bool.not_true, Bool.not_false, ne_eq, Int.reduceEq, not_true_eq_false, not_false_eq_true, Int.reduceLT, UInt8.reduceLT, UInt8.reduceLE, UInt8.reduceToNat]
end Go.Ab

/-
  The library's searches as primitives, out of the shelf's contracts.
-/
namespace Go.Ab
open Go.Shelf Go.Proofs
set_option linter.unusedVariables false
set_option linter.unusedSimpArgs false
variable {P : Program} {g : GMap} {ρ : Go.Shelf.Ren}

end Go.Ab

/-
  A Builder's text: the walk of the library's function, its end said whole (after the shelf's own proof).
-/
namespace Go.Proofs
open Go.Shelf Go.RowKit
set_option linter.unusedVariables false
variable {P : Program} {ρ : Ren}

set_option maxHeartbeats 2000000 in
set_option maxRecDepth 100000 in
/-- A Builder's text, and all that turns: the shelf's proof, its end turned. -/
theorem bstring_walk (L : Lays.n169 P ρ) (X : Builder.Extra P ρ) (b g cap cells : Nat) (l : List UInt8) (w : World) (h0 : l ≠ []) (hcap : l.length ≤ cap) (hcc : l.length ≤ cells) (hmax : l.length ≤ 9223372036854775807)
    (hb : w.cell? ⟨b, 1, none⟩ = some (.slice (some ⟨g, 0, none⟩) l.length cap)) (hsh : w.shape? g = some (ρ.t 5, cells)) (hcell : ∀ j x, l[j]? = some x → w.cell? ⟨g, j, none⟩ = some (.int .u8 x.toNat)) :
    Calls P (ρ.f 169) #[.pointer (some ⟨b, 0, none⟩)] w fun e w' => e = .returned (.string ⟨l.toArray⟩) ∧ w' = w.drew.freeze ⟨g, 0, none⟩ l.length := by
  have hl0 : l.length ≠ 0 := by simpa using h0
  have c1 : w.drew.cell? ⟨b, 1, none⟩ = some (.slice (some ⟨g, 0, none⟩) l.length cap) := hb
  have hSD : (Builtin.unsafeSliceData_ #[(ρ.t 37)] (ρ.t 127) #[.slice (some ⟨g, 0, none⟩) l.length cap]).run P w.drew = .ok (.pointer (some ⟨g, 0, none⟩)) w.drew :=
    Lib.run_unsafeSliceData_row _ _ _ _ _ _ (by omega)
  have hUS : (Builtin.unsafeString_ #[(ρ.t 127), (ρ.t 3)] (ρ.t 9) #[.pointer (some ⟨g, 0, none⟩), .int .i64 l.length]).run P w.drew = .ok (.string ⟨l.toArray⟩) (w.drew.freeze ⟨g, 0, none⟩ l.length) := by
    refine Lib.run_unsafeString_row w.drew (ρ.t 127) (ρ.t 3) (ρ.t 9) (ρ.t 5) L.t127 X.cellsByte g cells hsh l h0 hcc hmax ?_
    intro j x hx
    have := hcell j x hx
    simp only [Addr.add]
    split
    · rename_i h; subst h; exact this
    · simpa using this
  clear hcell hsh hb
  have mixed := L.mixed
  have t72 := L.t72; have a72 := L.a72; have z72 := L.z72; have v72 := L.v72; have u72 := run_underlying L.t72
  have t70 := L.t70; have a70 := L.a70; have z70 := L.z70; have v70 := L.v70; have u70 := run_underlying L.t70
  have t37 := L.t37; have a37 := L.a37; have z37 := L.z37; have v37 := L.v37; have u37 := run_underlying L.t37
  have t127 := L.t127; have a127 := L.a127; have z127 := L.z127; have v127 := L.v127; have u127 := run_underlying L.t127
  have t3 := L.t3; have a3 := L.a3; have z3 := L.z3; have v3 := L.v3; have u3 := run_underlying L.t3
  have t9 := L.t9; have a9 := L.a9; have z9 := L.z9; have v9 := L.v9; have u9 := run_underlying L.t9
  have t5 := X.t5; have a5 := X.a5; have z5 := X.z5; have v5 := X.v5; have u5 := run_underlying X.t5
  go_enter L.f169, Body.n169_ntmps ρ
  go_wp2
  go_region_o
  all_goals (go_wp2; go_ret; exact ⟨rfl, rfl⟩)

set_option maxHeartbeats 2000000 in
set_option maxRecDepth 100000 in
theorem bstring_nil (L : Lays.n169 P ρ) (X : Builder.Extra P ρ) (b : Nat) (w : World) (hb : w.cell? ⟨b, 1, none⟩ = some (.slice none 0 0)) :
    Calls P (ρ.f 169) #[.pointer (some ⟨b, 0, none⟩)] w fun e w' => e = .returned (.string ⟨#[]⟩) ∧ w' = w.drew := by
  have hUS := Any.unsafeString_none L X
  have hSD : (Builtin.unsafeSliceData_ #[(ρ.t 37)] (ρ.t 127) #[.slice none 0 0]).run P w.drew = .ok (.pointer none) w.drew := rfl
  have c1 : w.drew.cell? ⟨b, 1, none⟩ = some (.slice none 0 0) := hb
  have mixed := L.mixed
  have t72 := L.t72; have a72 := L.a72; have z72 := L.z72; have v72 := L.v72; have u72 := run_underlying L.t72
  have t70 := L.t70; have a70 := L.a70; have z70 := L.z70; have v70 := L.v70; have u70 := run_underlying L.t70
  have t37 := L.t37; have a37 := L.a37; have z37 := L.z37; have v37 := L.v37; have u37 := run_underlying L.t37
  have t127 := L.t127; have a127 := L.a127; have z127 := L.z127; have v127 := L.v127; have u127 := run_underlying L.t127
  have t3 := L.t3; have a3 := L.a3; have z3 := L.z3; have v3 := L.v3; have u3 := run_underlying L.t3
  have t9 := L.t9; have a9 := L.a9; have z9 := L.z9; have v9 := L.v9; have u9 := run_underlying L.t9
  have t5 := X.t5; have a5 := X.a5; have z5 := X.z5; have v5 := X.v5; have u5 := run_underlying X.t5
  go_enter L.f169, Body.n169_ntmps ρ
  go_wp2
  go_region_o
  all_goals (go_wp2; go_ret; exact ⟨rfl, rfl⟩)

/-- What copyCheck names. -/
structure CCLay (P : Program) (ρ : Ren) : Prop where
  mixed : P.follows .mixedOrders = true
  f240 : P.funcs[ρ.f 240]? = some (Body.n240 ρ)
  f276 : P.funcs[ρ.f 276]? = some (Body.n276 ρ)
  t4 : P.underlying (ρ.t 4) = some (TypeDesc.bool)
  a4 : ∀ w, (isAgg (ρ.t 4)).run P w = .ok false w
  z4 : ∀ w, (Go.sizeOf (ρ.t 4)).run P w = .ok 1 w
  v4 : ∀ w, (zeroValue (ρ.t 4)).run P w = .ok (Value.bool false) w
  t70 : P.underlying (ρ.t 70) = some (TypeDesc.pointer (ρ.t 72))
  a70 : ∀ w, (isAgg (ρ.t 70)).run P w = .ok false w
  z70 : ∀ w, (Go.sizeOf (ρ.t 70)).run P w = .ok 1 w
  v70 : ∀ w, (zeroValue (ρ.t 70)).run P w = .ok (Value.pointer none) w
  t72 : P.underlying (ρ.t 72) = some (TypeDesc.struct #[{ name := "addr", type := ρ.t 70, offset := 0, embedded := false, tag := "", pkgPath := "strings", byteOffset := 0 }, { name := "buf", type := ρ.t 37, offset := 1, embedded := false, tag := "", pkgPath := "strings", byteOffset := 8 }])
  a72 : ∀ w, (isAgg (ρ.t 72)).run P w = .ok true w
  z72 : ∀ w, (Go.sizeOf (ρ.t 72)).run P w = .ok 2 w
  v72 : ∀ w, (zeroValue (ρ.t 72)).run P w = .ok (Value.agg #[Value.pointer none, Value.slice none 0 0]) w
  t164 : P.underlying (ρ.t 164) = some (TypeDesc.unsafePointer)
  a164 : ∀ w, (isAgg (ρ.t 164)).run P w = .ok false w
  z164 : ∀ w, (Go.sizeOf (ρ.t 164)).run P w = .ok 1 w
  v164 : ∀ w, (zeroValue (ρ.t 164)).run P w = .ok (Value.pointer none) w

set_option maxHeartbeats 1000000 in
set_option maxRecDepth 100000 in
/-- copyCheck at a builder that has been used: nothing turns (after the shelf's proof). -/
theorem cc_used (L : CCLay P ρ) (X : Builder.X72 P ρ) (b : Nat) (w : World) (h0 : w.cell? ⟨b, 0, none⟩ = some (.pointer (some ⟨b, 0, none⟩))) :
    Calls P (ρ.f 240) #[.pointer (some ⟨b, 0, none⟩)] w fun e w' => e = .returned (.tuple #[]) ∧ w' = w := by
  obtain ⟨j, hj, _⟩ := Option.map_eq_some_iff.1 X.sizeBuilder
  have mixed := L.mixed
  have t72 := L.t72; have a72 := L.a72; have z72 := L.z72; have v72 := L.v72; have u72 := run_underlying L.t72
  have t70 := L.t70; have a70 := L.a70; have z70 := L.z70; have v70 := L.v70; have u70 := run_underlying L.t70
  have t4 := L.t4; have a4 := L.a4; have z4 := L.z4; have v4 := L.v4; have u4 := run_underlying L.t4
  have t164 := L.t164; have a164 := L.a164; have z164 := L.z164; have v164 := L.v164; have u164 := run_underlying L.t164
  go_enter L.f240, Body.n240_ntmps ρ
  go_wp2
  rw [Lib.run_neq_ptr_same w _ L.t70 hj]
  go_wp2
  go_end0
  exact ⟨rfl, rfl⟩

set_option maxHeartbeats 1000000 in
set_option maxRecDepth 100000 in
/-- copyCheck at a fresh builder: it stores its own address (after the shelf's proof). -/
theorem cc_fresh (L : CCLay P ρ) (X : Builder.X72 P ρ) (b : Nat) (w : World) (h0 : w.cell? ⟨b, 0, none⟩ = some (.pointer none)) (hsh : w.shape? b = some ((ρ.t 72), 2)) (hfz : w.frozen? ⟨b, 0, none⟩ = false) :
    Calls P (ρ.f 240) #[.pointer (some ⟨b, 0, none⟩)] w fun e w' => e = .returned (.tuple #[]) ∧ w' = w.setCell ⟨b, 0, none⟩ (.pointer (some ⟨b, 0, none⟩)) := by
  obtain ⟨j, hj, hjs⟩ := Option.map_eq_some_iff.1 X.sizeBuilder
  have mixed := L.mixed
  have t72 := L.t72; have a72 := L.a72; have z72 := L.z72; have v72 := L.v72; have u72 := run_underlying L.t72
  have t70 := L.t70; have a70 := L.a70; have z70 := L.z70; have v70 := L.v70; have u70 := run_underlying L.t70
  have t4 := L.t4; have a4 := L.a4; have z4 := L.z4; have v4 := L.v4; have u4 := run_underlying L.t4
  have t164 := L.t164; have a164 := L.a164; have z164 := L.z164; have v164 := L.v164; have u164 := run_underlying L.t164
  go_enter L.f240, Body.n240_ntmps ρ
  go_wp2
  rw [Lib.run_to_unsafe w ⟨b, 0, none⟩ L.t70 L.t164 hj (by rw [hjs]; decide) hsh (Nat.zero_lt_succ 1)]
  simp only [Result.andThen]
  rw [Oper.upon_value]
  go_wp2
  rw [run_callFunc_extern L.f276 (by kernel_rfl) (by kernel_rfl) (by kernel_rfl) (e := Extern.AbiNoEscape.same) (by kernel_rfl)]
  rw [Lib.run_noEscape]
  simp only [Result.andThen]
  rw [Oper.upon_value]
  go_wp2
  rw [Lib.run_from_unsafe w ⟨b, 0, none⟩ L.t164 L.t70 hj hsh X.liesBuilder]
  simp only [Result.andThen]
  rw [Oper.upon_value]
  go_wp2
  go_end0
  exact ⟨rfl, rfl⟩
end Go.Proofs

/-
  The library's functions on texts as primitives, out of the shelf's contracts.
-/
namespace Go.Ab
open Go.Shelf Go.Proofs
set_option linter.unusedVariables false
set_option linter.unusedSimpArgs false
variable {P : Program} {g : GMap} {ρ : Go.Shelf.Ren}

theorem primStrIndex (L : Lays.n219 P ρ) (hm : ∀ κ, g.inv κ → ∃ m, κ.C (ρ.g 1) 0 = some (.int .i64 m)) {pf : Func} (hpf : P.funcs[ρ.f 219]? = some pf) (hb : pf.body.isSome = true) (hn : pf.name ≠ "runtime.NumGoroutine") : PrimOK P g (ρ.f 219) pStrIndex := by
  refine prim_of_calls hpf hb hn (fun κ w args ps v hi hC hsz hargs hp => ?_)
  obtain ⟨m, hm⟩ := hm κ hi
  have hmc := hC _ _ _ hm
  unfold pStrIndex at hp
  split at hp
  · rename_i a b
    split at hp
    · rename_i hlen
      cases hp
      obtain ⟨u1, u2, rfl⟩ : ∃ u1 u2, args = #[u1, u2] := by
        obtain ⟨l⟩ := args
        match l, hsz with
        | [u1, u2], _ => exact ⟨u1, u2, rfl⟩
      have r1 := hargs 0 u1 _ rfl rfl
      have r2 := hargs 1 u2 _ rfl rfl
      cases r1 with | str sa _ ha => cases r2 with | str sb _ hb =>
      refine (Any.stringslite_Index L sa sb m w (by rw [← ha] at hlen; simpa using hlen) hmc).mono ?_
      rintro e w' ⟨rfl, rfl⟩
      exact ⟨_, rfl, fun κ' => by rw [ha, hb]; exact .int .i64 _ (by decide), rfl, rfl, rfl, rfl⟩
    · cases hp
  · cases hp

theorem primStrIndexByte (L : Lays.n137 P ρ) {pf : Func} (hpf : P.funcs[ρ.f 137]? = some pf) (hb : pf.body.isSome = true) (hn : pf.name ≠ "runtime.NumGoroutine") : PrimOK P g (ρ.f 137) pStrIndexByte := by
  refine prim_of_calls hpf hb hn (fun κ w args ps v hi hC hsz hargs hp => ?_)
  unfold pStrIndexByte at hp
  split at hp
  · rename_i a c
    cases hp
    obtain ⟨u1, u2, rfl⟩ : ∃ u1 u2, args = #[u1, u2] := by
      obtain ⟨l⟩ := args
      match l, hsz with
      | [u1, u2], _ => exact ⟨u1, u2, rfl⟩
    have r1 := hargs 0 u1 _ rfl rfl
    have r2 := hargs 1 u2 _ rfl rfl
    cases r1 with | str sa _ ha => cases r2 with | b8 _ n hn =>
    refine (Any.strings_IndexByte L sa n w).mono ?_
    rintro e w' ⟨rfl, rfl⟩
    refine ⟨_, rfl, fun κ' => ?_, rfl, rfl, rfl, rfl⟩
    have : n.toNat.toUInt8 = c := by rw [hn]; simp
    rw [ha, this]; exact .int .i64 _ (by decide)
  · cases hp

/-- A primitive that may put a cell, out of a contract. -/
theorem primS_of_calls {f' : FuncId} {p : List PV → List (List PV) → Option (PV × Upd)} {pf : Func} (hpf : P.funcs[f']? = some pf) (hb : pf.body.isSome = true) (hn : pf.name ≠ "runtime.NumGoroutine")
    (h : ∀ (base : Nat) (κ : K) (w : World) (st : St) (args : Array Value) (ps : List PV) (v : PV) (u : Upd) (st' : St), SR P g base κ w st → args.size = ps.length → (∀ (i : Nat) (u : Value) (q : PV), args[i]? = some u → ps[i]? = some q → R g κ u q) → p ps st.boxes = some (v, u) → updS st u = some st' →
      Calls P f' args w fun e w' => ∃ z, e = .returned z ∧ R g κ z v ∧ SR P g base κ w' st' ∧ Fr base κ.lam w w') : PrimSOK P g f' p := by
  intro base κ w st args ps v u st' hsr hsz hargs hp hu F hF nn o a next Q hnext
  have hrun : (callFunc f' args).run P w = .ok (.enter f' args) w := by
    have hb2 : pf.body.isNone = false := by
      cases hbb : pf.body with
      | none => rw [hbb] at hb; cases hb
      | some c => rfl
    have hn2 : (pf.name == "runtime.NumGoroutine") = false := by simpa using hn
    unfold callFunc
    simp only [Sem.run_bind, Go.program, Sem.run, Result.andThen, hpf, hn2, hb2]
    rfl
  rw [hrun]
  refine ⟨hF.deep, callsIn_of_calls hF ?_⟩
  refine (h base κ w st args ps v u st' hsr hsz hargs hp hu).mono ?_
  rintro e w' ⟨z, rfl, hz, hs, hf⟩
  exact hnext κ z w' (K.le.refl κ) rfl hs hz hf

theorem setCell_eq {w : World} {blk off : Nat} {v : Value} {rs : Array Value} {el : TypeId} {fz : Nat × Nat} (hw : w.heap[blk]? = some (.cells rs el fz)) : w.setCell ⟨blk, off, none⟩ v = setBlk w blk (setA rs off [v]) el fz := by
  have hlt := (Array.getElem?_eq_some_iff.1 hw).1
  simp only [World.setCell, setBlk]
  congr 1
  apply Array.ext_getElem?
  intro j
  rw [Array.getElem?_modify]
  by_cases hj : blk = j
  · subst hj
    rw [if_pos rfl, hw]
    simp [hlt, setA]
  · rw [if_neg hj, Array.getElem?_setIfInBounds_ne hj]

theorem primCopyCheck (L : CCLay P ρ) (X : Builder.X72 P ρ) (htB : g.tB = ρ.t 72) {pf : Func} (hpf : P.funcs[ρ.f 240]? = some pf) (hb : pf.body.isSome = true) (hn : pf.name ≠ "runtime.NumGoroutine") : PrimSOK P g (ρ.f 240) pCopyCheck := by
  refine primS_of_calls hpf hb hn (fun base κ w st args ps v u st' hsr hsz hargs hp hu => ?_)
  unfold pCopyCheck at hp
  split at hp
  · rename_i bs b
    obtain ⟨u1, rfl⟩ : ∃ u1, args = #[u1] := by
      obtain ⟨l⟩ := args
      match l, hsz with
      | [u1], _ => exact ⟨u1, rfl⟩
    have r1 := hargs 0 u1 _ rfl rfl
    cases r1 with | ptr _ _ blk hφ =>
    split at hp
    · -- fresh
      rename_i x hbx
      simp only [Option.some.injEq, Prod.mk.injEq] at hp
      obtain ⟨rfl, rfl⟩ := hp
      have hB := hsr.bx b blk _ hbx hφ
      obtain ⟨rs, ⟨el, lo, hi, hw, hf⟩, hl, hr⟩ := hB.ex
      obtain ⟨v0, h0, hr0⟩ := hr 0 .bslot rfl
      cases hr0
      have hsh := hB.sb (by simp)
      rw [htB] at hsh
      have hc0 : w.cell? ⟨blk, 0, none⟩ = some (.pointer none) := by simp [World.cell?, hw, h0]
      have hrs : rs.size = 2 := by
        simp only [World.shape?, hw, Option.some.injEq, Prod.mk.injEq] at hsh; exact hsh.2
      have hfz : w.frozen? ⟨blk, 0, none⟩ = false := by
        simp only [World.frozen?, hw, Bool.and_eq_false_iff, decide_eq_false_iff_not]
        rcases hf with h | h
        · subst h; omega
        · left; omega
      refine (cc_fresh L X blk w hc0 hsh hfz).mono ?_
      rintro e w' ⟨rfl, rfl⟩
      -- the store's own law
      have hst : storePV st 1 (.ptr b 0) (.ptr b 0) = some st' := hu
      simp only [storePV, hbx] at hst
      split at hst
      · cases hst
        refine ⟨_, rfl, .tup #[] [] rfl rfl (fun i v p a => by simp at a), ?_, ?_⟩
        · rw [setCell_eq hw]
          have := hsr.setBox (rs' := setA rs 0 [.pointer (some ⟨blk, 0, none⟩)]) (cs' := setCells [.bslot, x] 0 [.ptr b 0]) (if hasTok [PV.ptr b 0] then min st.low b else st.low) hbx hφ hw hf (setA_size _ _ _) (by rw [setCells_length]; exact hl) (fun i c hc => ?_) ?_ (fun c hc => ?_) (fun hm => ?_)
          · exact this
          · simp only [setCells, List.set_cons_zero] at hc
            match i with
            | 0 =>
              simp at hc; subst hc
              exact ⟨.pointer (some ⟨blk, 0, none⟩), by simp [setA, hrs], .ptr b 0 blk hφ⟩
            | i + 1 =>
              have hc' : [PV.bslot, x][i + 1]? = some c := by simpa using hc
              obtain ⟨v1, h1, hr1⟩ := hr (i + 1) c hc'
              refine ⟨v1, ?_, hr1⟩
              simp [setA]; exact h1
          · have := hB.lf
            simp only [setCells, List.set_cons_zero, List.all_cons, leafB] at this ⊢
            simpa using this
          · simp only [setCells, List.set_cons_zero, List.mem_cons, List.not_mem_nil, or_false] at hc
            rcases hc with rfl | rfl
            · simp [PV.inB]
            · exact hB.lw _ (by simp)
          · simp
        · rw [setCell_eq hw]
          exact Fr.setBlk hw hB.ge
      · cases hst
    · -- used
      rename_i b' x hbx
      split at hp
      · rename_i hbb
        subst hbb
        simp only [Option.some.injEq, Prod.mk.injEq] at hp
        obtain ⟨rfl, rfl⟩ := hp
        simp only [updS, Option.some.injEq] at hu
        subst hu
        have hB := hsr.bx b' blk _ hbx hφ
        obtain ⟨rs, ⟨el, lo, hi, hw, hf⟩, hl, hr⟩ := hB.ex
        obtain ⟨v0, h0, hr0⟩ := hr 0 _ rfl
        cases hr0 with | ptr _ _ blk' hφ' =>
        rw [hφ] at hφ'; cases hφ'
        have hc0 : w.cell? ⟨blk, 0, none⟩ = some (.pointer (some ⟨blk, 0, none⟩)) := by simp [World.cell?, hw, h0]
        refine (cc_used L X blk w hc0).mono ?_
        rintro e w' ⟨rfl, rfl⟩
        exact ⟨_, rfl, .tup #[] [] rfl rfl (fun i v p a => by simp at a), hsr, Fr.refl _ _⟩
      · cases hp
    · cases hp
  · cases hp


/-- A room that is nobody's more: its row may be frozen. -/
theorem SR.kill {base : Nat} {κ : K} {w w' : World} {st : St} (h : SR P g base κ w st) {i blk e ce : Nat} {rs : Array Value} {el : TypeId} {fz fz' : Nat × Nat} (hi : st.toks[i]? = some true) (hτ : κ.τ[i]? = some (blk, e, ce))
    (hw : w.heap[blk]? = some (.cells rs el fz)) (hw' : w'.heap = (setBlk w blk rs el fz').heap) : SR P g base κ w' { st with toks := st.toks.set i false } := by
  have hk := h.tk i blk e ce hi hτ
  suffices hs : SR P g base κ (setBlk w blk rs el fz') { st with toks := st.toks.set i false } from hs.heap hw'
  have hcell : ∀ b i, (setBlk w blk rs el fz').cell? ⟨b, i, none⟩ = w.cell? ⟨b, i, none⟩ := fun b i => by
    by_cases hb : b = blk
    · subst hb
      have hlt := (Array.getElem?_eq_some_iff.1 hw).1
      have h2 : (setBlk w b rs el fz').heap[b]? = some (.cells rs el fz') := by simp [setBlk, hlt]
      simp only [World.cell?]
      rw [h2, hw]
    · exact cell_setBlk_other hb
  have hobj : ∀ (k : Nat) (o : Obj), w.heap[k]? = some o → isCells o = false → (setBlk w blk rs el fz').heap[k]? = some o := fun k o ho hc => by
    rw [setBlk_other]
    · exact ho
    · rintro rfl; rw [hw] at ho; cases ho; simp [isCells] at hc
  have hset : ∀ j : Nat, (st.toks.set i false)[j]? = some true → st.toks[j]? = some true ∧ j ≠ i := fun j hj => by
    by_cases hji : j = i
    · subst hji
      rw [List.getElem?_set] at hj
      simp at hj
    · rw [List.getElem?_set_ne (fun h => hji h.symm)] at hj
      exact ⟨hj, hji⟩
  refine { cC := fun b i v hc => by rw [hcell]; exact h.cC b i v hc, sh := fun b t hb => (h.sh b t hb).imp fun n hn => (by rw [shape_setBlk hw rfl]; exact hn), bl := h.bl, bn := h.bn, bx := fun b k cs h1 h2 => ?_, tl := by simp [h.tl], tk := fun j k e ce h1 h2 => ?_,
           td := fun a b ba ea ca bb eb cb h1 h2 h3 h4 h5 => h.td a b ba ea ca bb eb cb (hset a h1).1 (hset b h2).1 h3 h4 h5, ll := h.ll, ln := h.ln, lb := h.lb, lp := fun k l D r h1 h2 => (h.lp k l D r h1 h2).mono (K.le.refl _) hobj, hb := by simpa [setBlk] using h.hb, gv := h.gv }
  · have hx := h.bx b k cs h1 h2
    have hne : k ≠ blk := by rintro rfl; exact hk.nb (List.mem_of_getElem? h2)
    obtain ⟨rs', hc, h3, h4⟩ := hx.ex
    exact ⟨hx.ge, hx.nc, ⟨rs', hc.congr (setBlk_other hne), h3, h4⟩, hx.lf, hx.lw, fun hm => by rw [← hx.sb hm]; exact shape_congr (setBlk_other hne)⟩
  · obtain ⟨q1, q2⟩ := hset j h1
    have hx := h.tk j k e ce q1 h2
    have hne : k ≠ blk := h.td j i k e ce blk _ _ q1 hi h2 hτ q2
    obtain ⟨rs', hc, h3⟩ := hx.ex
    exact ⟨hx.ge, hx.nb, hx.nc, ⟨rs', hc.congr (setBlk_other hne), h3⟩⟩

theorem primBuilderString (L : Lays.n169 P ρ) (X : Builder.Extra P ρ) (htU : g.tU = ρ.t 5) {pf : Func} (hpf : P.funcs[ρ.f 169]? = some pf) (hb : pf.body.isSome = true) (hn : pf.name ≠ "runtime.NumGoroutine") : PrimSOK P g (ρ.f 169) pBuilderString := by
  refine primS_of_calls hpf hb hn (fun base κ w st args ps v u st' hsr hsz hargs hp hu => ?_)
  unfold pBuilderString at hp
  split at hp
  · rename_i bs b
    obtain ⟨u1, rfl⟩ : ∃ u1, args = #[u1] := by
      obtain ⟨l⟩ := args
      match l, hsz with
      | [u1], _ => exact ⟨u1, rfl⟩
    have r1 := hargs 0 u1 _ rfl rfl
    cases r1 with | ptr _ _ blk hφ =>
    split at hp
    · -- nothing was written
      rename_i c0 hbx
      simp only [Option.some.injEq, Prod.mk.injEq] at hp
      obtain ⟨rfl, rfl⟩ := hp
      simp only [updS, Option.some.injEq] at hu
      subst hu
      have hB := hsr.bx b blk _ hbx hφ
      obtain ⟨rs, ⟨el, lo, hi, hw, hf⟩, hl, hr⟩ := hB.ex
      obtain ⟨v0, h0, hr0⟩ := hr 1 .nils rfl
      cases hr0
      have hc : w.cell? ⟨blk, 1, none⟩ = some (.slice none 0 0) := by simp [World.cell?, hw, h0]
      refine (bstring_nil L X blk w hc).mono ?_
      rintro e w' ⟨rfl, rfl⟩
      exact ⟨_, rfl, .str _ _ rfl, hsr.heap rfl, Fr.same rfl rfl rfl rfl⟩
    · rename_i c0 i l hbx
      split at hp
      · cases hp
      · rename_i hne0
        obtain ⟨hne, hrm⟩ : l ≠ [] ∧ l.length ≤ room := by simpa [not_or] using hne0
        simp only [Option.some.injEq, Prod.mk.injEq] at hp
        obtain ⟨rfl, rfl⟩ := hp
        simp only [updS] at hu
        split at hu
        · rename_i hti
          cases hu
          have hB := hsr.bx b blk _ hbx hφ
          obtain ⟨rs, ⟨el, lo, hi, hw, hf⟩, hl, hr⟩ := hB.ex
          obtain ⟨v0, h0, hr0⟩ := hr 1 _ rfl
          cases hr0 with
          | bys blk' off n c _ _ hn2 hc hbb ht hz =>
            obtain ⟨rfl, hS⟩ := hz i rfl
            subst hn2
            obtain ⟨n', hsh⟩ := hsr.sh blk' _ hS
            obtain ⟨e', ce, hτ, hroom⟩ := ht
            have hTK := hsr.tk i blk' e' ce hti hτ
            obtain ⟨rs', ⟨el', lo', hi', hw', hf'⟩, hce⟩ := hTK.ex
            have hn' : n' = rs'.size ∧ el' = g.tU := by
              simp only [World.shape?, hw', Option.some.injEq, Prod.mk.injEq] at hsh
              exact ⟨hsh.2.symm, hsh.1⟩
            have hcl : ∀ j x, l[j]? = some x → w.cell? ⟨blk', j, none⟩ = some (.int .u8 x.toNat) := fun j x hx => by
              have := hsr.cC _ _ _ (hbb j x hx)
              simpa using this
            have hcells : l.length ≤ n' := by
              rcases Nat.lt_or_ge n' l.length with h1 | h1
              · exfalso
                have h2 := hcl n' l[n'] (by simp [h1])
                simp only [World.cell?, hw'] at h2
                simp [hn'.1] at h2
              · exact h1
            have hmax : l.length ≤ 9223372036854775807 := by have e : room = 68719476736 := rfl; omega
            have hcell : w.cell? ⟨blk, 1, none⟩ = some (.slice (some ⟨blk', 0, none⟩) l.length c) := by simp [World.cell?, hw, h0]
            refine (bstring_walk L X blk blk' c n' l w hne hc hcells hmax hcell (by rw [hsh, htU]) hcl).mono ?_
            rintro e w1 ⟨rfl, rfl⟩
            have hlt := (Array.getElem?_eq_some_iff.1 hw').1
            have hfr : ∃ fz, (w.drew.freeze ⟨blk', 0, none⟩ l.length).heap = (setBlk w blk' rs' el' fz).heap := by
              refine ⟨if lo' == hi' then (0, 0 + l.length) else (min lo' 0, max hi' (0 + l.length)), ?_⟩
              simp only [World.freeze, setBlk, World.drew]
              rw [if_neg (by simpa using hne)]
              apply Array.ext_getElem?
              intro j
              rw [Array.getElem?_modify]
              by_cases hj : blk' = j
              · subst hj; rw [if_pos rfl, hw']; simp [hlt]
              · rw [if_neg hj, Array.getElem?_setIfInBounds_ne hj]
            obtain ⟨fz, hfr⟩ := hfr
            refine ⟨_, rfl, .str _ _ rfl, hsr.kill hti hτ hw' hfr, ?_⟩
            refine Fr.of ⟨?_, ?_, ?_, ?_, fun k hk => ?_⟩ fun k o ho hc => ?_
            · simp only [World.freeze]; split <;> rfl
            · simp only [World.freeze]; split <;> rfl
            · simp only [World.freeze]; split <;> rfl
            · rw [hfr]; simp [setBlk]
            · rw [hfr]; exact setBlk_other (by have := hTK.ge; omega)
            · rw [hfr, setBlk_other]
              · exact ho
              · rintro rfl; rw [hw'] at ho; cases ho; simp [isCells] at hc
        · cases hu
    · cases hp
  · cases hp
end Go.Ab

/-
  strings.Join as a primitive: what it lays lies behind all else.
-/
namespace Go.Ab
open Go.Shelf Go.Proofs
set_option linter.unusedVariables false
set_option linter.unusedSimpArgs false
variable {P : Program} {g : GMap} {ρ : Go.Shelf.Ren} {base : Nat}

theorem old_of_below {w w' : World} (hb : Go.RowKit.Below w.heap.size w w') {k : Nat} {o : Obj} (hk : w.heap[k]? = some o) : w'.heap[k]? = some o := by
  rw [hb.block k (Array.getElem?_eq_some_iff.1 hk).1]; exact hk

/-- More objects behind all others change nothing. -/
theorem SR.below {κ : K} {w w' : World} {st : St} (h : SR P g base κ w st) (hb : Go.RowKit.Below w.heap.size w w') : SR P g base κ w' st where
  cC b i v hc := by
    have h1 := h.cC b i v hc
    have hlt := h.C_lt hc
    simp only [World.cell?] at h1 ⊢
    rw [hb.block b hlt]; exact h1
  sh b t hs := by
    obtain ⟨n, hn⟩ := h.sh b t hs
    refine ⟨n, ?_⟩
    have hlt : b < w.heap.size := by
      rcases Nat.lt_or_ge b w.heap.size with h1 | h1
      · exact h1
      · simp [World.shape?, Array.getElem?_eq_none h1] at hn
    rw [← hn]; exact shape_congr (hb.block b hlt)
  bl := h.bl
  bn := h.bn
  bx b blk cs h1 h2 := by
    have hx := h.bx b blk cs h1 h2
    obtain ⟨rs, hc, h3, h4⟩ := hx.ex
    have hlt := hc.lt
    exact ⟨hx.ge, hx.nc, ⟨rs, hc.congr (hb.block blk hlt), h3, h4⟩, hx.lf, hx.lw, fun hm => by rw [← hx.sb hm]; exact shape_congr (hb.block blk hlt)⟩
  tl := h.tl
  tk i blk e ce h1 h2 := by
    have hx := h.tk i blk e ce h1 h2
    obtain ⟨rs, hc, h3⟩ := hx.ex
    exact ⟨hx.ge, hx.nb, hx.nc, ⟨rs, hc.congr (hb.block blk hc.lt), h3⟩⟩
  td := h.td
  ll := h.ll
  ln := h.ln
  lb := h.lb
  lp k l D r h1 h2 := (h.lp k l D r h1 h2).mono (K.le.refl κ) fun k o ho _ => old_of_below hb ho
  hb := Nat.le_trans h.hb hb.size
  gv := h.gv

theorem fr_below {lam : List (Nat × Nat)} {w w' : World} (hbs : base ≤ w.heap.size) (hb : Go.RowKit.Below w.heap.size w w') : Fr base lam w w' :=
  Fr.of (hb.mono hbs) fun k o ho _ => old_of_below hb ho

/-- A primitive that lays objects of its own alone, out of a contract. -/
theorem prim_of_below {f' : FuncId} {p : List PV → Option PV} {pf : Func} (hpf : P.funcs[f']? = some pf) (hb : pf.body.isSome = true) (hn : pf.name ≠ "runtime.NumGoroutine")
    (h : ∀ (κ : K) (w : World) (args : Array Value) (ps : List PV) (v : PV), g.inv κ → (∀ b i v, κ.C b i = some v → w.cell? ⟨b, i, none⟩ = some v) → args.size = ps.length → (∀ (i : Nat) (u : Value) (q : PV), args[i]? = some u → ps[i]? = some q → R g κ u q) → p ps = some v →
      ∃ (z : Value), Calls P f' args w (fun e w' => e = .returned z ∧ Go.RowKit.Below w.heap.size w w') ∧ R g κ z v) : PrimOK P g f' p := by
  intro base κ w st args ps v hsr hsz hargs hp F hF nn o a next Q hnext
  have hrun : (callFunc f' args).run P w = .ok (.enter f' args) w := by
    have hb2 : pf.body.isNone = false := by
      cases hbb : pf.body with
      | none => rw [hbb] at hb; cases hb
      | some c => rfl
    have hn2 : (pf.name == "runtime.NumGoroutine") = false := by simpa using hn
    unfold callFunc
    simp only [Sem.run_bind, Go.program, Sem.run, Result.andThen, hpf, hn2, hb2]
    rfl
  rw [hrun]
  refine ⟨hF.deep, callsIn_of_calls hF ?_⟩
  obtain ⟨z, hc, hr⟩ := h κ w args ps v hsr.gv hsr.cC hsz hargs hp
  refine hc.mono ?_
  rintro e w' ⟨rfl, hbl⟩
  exact hnext _ z _ (K.le.refl κ) rfl (hsr.below hbl) hr (fr_below hsr.hb hbl)

theorem strsOf_eq : ∀ {xs : List PV} {l : List (List UInt8)}, strsOf xs = some l → xs = l.map .str := by
  intro xs
  induction xs with
  | nil => intro l h; simp [strsOf] at h; subst h; rfl
  | cons p ps ih =>
    intro l h
    cases p <;> simp [strsOf] at h
    obtain ⟨l', h1, rfl⟩ := h
    simp [ih h1]
theorem flat_str (l : List (List UInt8)) : flat (l.map PV.str) = l.map PV.str := by
  induction l with
  | nil => rfl
  | cons x l ih => simp only [List.map_cons, flat, List.flatMap_cons, PV.cells] at ih ⊢; rw [ih]; rfl

theorem primStrJoin (L : Lays.n156 P ρ) (X : Builder.Extra P ρ) {pf : Func} (hpf : P.funcs[ρ.f 156]? = some pf) (hb : pf.body.isSome = true) (hn : pf.name ≠ "runtime.NumGoroutine") : PrimOK P g (ρ.f 156) pStrJoin := by
  refine prim_of_below hpf hb hn (fun κ w args ps v hi hC hsz hargs hp => ?_)
  unfold pStrJoin at hp
  split at hp
  · cases hp
    obtain ⟨u1, u2, rfl⟩ : ∃ u1 u2, args = #[u1, u2] := by
      obtain ⟨l⟩ := args
      match l, hsz with
      | [u1, u2], _ => exact ⟨u1, u2, rfl⟩
    have r1 := hargs 0 u1 _ rfl rfl
    have r2 := hargs 1 u2 _ rfl rfl
    cases r1
    cases r2 with | str sb _ hb2 =>
    refine ⟨_, (Any.strings_Join_none L X none 0 sb w).mono fun e w' ⟨he, hw⟩ => ⟨he, hw ▸ Go.RowKit.Below.refl _ _⟩, .str _ _ rfl⟩
  · rename_i tk xs b
    split at hp
    · rename_i l hl
      split at hp
      · rename_i hlen
        cases hp
        obtain rfl := strsOf_eq hl
        obtain ⟨u1, u2, rfl⟩ : ∃ u1 u2, args = #[u1, u2] := by
          obtain ⟨l⟩ := args
          match l, hsz with
          | [u1, u2], _ => exact ⟨u1, u2, rfl⟩
        have r1 := hargs 0 u1 _ rfl rfl
        have r2 := hargs 1 u2 _ rfl rfl
        cases r2 with | str sb _ hb2 =>
        have hroom : room = 68719476736 := rfl
        by_cases hl0 : l = []
        · subst hl0
          simp only [List.map_nil] at r1
          cases r1 with
          | sl0 a esz t ht => exact ⟨_, (Any.strings_Join_none L X (some a) 0 sb w).mono fun e w' ⟨he, hw⟩ => ⟨he, hw ▸ Go.RowKit.Below.refl _ _⟩, .str _ _ rfl⟩
          | sl blk off n c esz t xs vs hn hc he hl hv hr hd hlf ht =>
            simp at hn; subst hn
            exact ⟨_, (Any.strings_Join_none L X (some ⟨blk, off, none⟩) c sb w).mono fun e w' ⟨he, hw⟩ => ⟨he, hw ▸ Go.RowKit.Below.refl _ _⟩, .str _ _ rfl⟩
        · have hr : l.map PV.str ≠ [] := by simpa using hl0
          obtain ⟨blk, off, c, vs, rfl, hc, hvl, hv, hrr⟩ : ∃ (blk off c : Nat) (vs : List Value), u1 = .slice (some ⟨blk, off, none⟩) l.length c ∧ l.length ≤ c ∧ vs.length = l.length ∧ (∀ (i : Nat) (v : Value), vs[i]? = some v → κ.C blk (off + i) = some v) ∧
              (∀ (i : Nat) (v : Value) (p : PV), vs[i]? = some v → (l.map PV.str)[i]? = some p → R g κ v p) := by
            generalize hys : l.map PV.str = ys at r1
            cases r1 with
            | sl0 a esz t ht => exact absurd hys hr
            | sl blk off n c esz t xs vs hn hc he hl hv hrx hd hlf ht =>
              subst hys
              rw [flat_str] at hl hrx
              rw [List.length_map] at hn hl
              subst hn
              exact ⟨blk, off, c, vs, rfl, hc, hl, hv, hrx⟩
          obtain ⟨bs, hbs⟩ : ∃ bs : List ByteArray, bs = l.map fun s => (⟨s.toArray⟩ : ByteArray) := ⟨_, rfl⟩
          have hdat : bs.map (·.data.toList) = l := by rw [hbs, List.map_map]; exact List.map_id' l
          have hbl : bs.length = l.length := by rw [hbs]; simp
          have hcell : ∀ (j : Nat) x, bs[j]? = some x → w.cell? ⟨blk, off + j, none⟩ = some (.string x) := fun j x hx => by
            have hlt : j < l.length := by rw [← hbl]; exact (List.getElem?_eq_some_iff.1 hx).1
            have hvj : vs[j]? = some vs[j] := by simp [hvl, hlt]
            have h1 := hrr j vs[j] (.str l[j]) hvj (by simp [hlt])
            have h2 := hC _ _ _ (hv j _ hvj)
            rw [h2]
            rw [hbs] at hx
            simp only [List.getElem?_map, Option.map_eq_some_iff] at hx
            obtain ⟨y, hy, rfl⟩ := hx
            have hy2 : l[j] = y := by
              have := (List.getElem?_eq_some_iff.1 hy).2
              exact this
            generalize vs[j] = vj at h1
            cases h1 with | str sj _ hj =>
            congr 2
            apply ByteArray.ext
            apply Array.ext'
            rw [hj, hy2]
          have hlt : blk < w.heap.size := by
            have hpos : 0 < l.length := List.length_pos_iff.2 hl0
            have hv0 : vs[0]? = some vs[0] := by simp [hvl, hpos]
            have h2 := hC _ _ _ (hv 0 _ hv0)
            simp only [World.cell?] at h2
            cases hb : w.heap[blk]? with
            | none => simp [hb] at h2
            | some x => exact (Array.getElem?_eq_some_iff.1 hb).1
          have hj : Lib.join (bs.map (·.data.toList)) sb.data.toList = Lib.join l b := by rw [hdat, hb2]
          have := Any.strings_Join L X blk off c bs sb w hcell hlt (by omega) (by omega) (by rw [hj]; omega)
          rw [hj, hbl] at this
          exact ⟨_, this, .str _ _ rfl⟩
      · cases hp
    · cases hp
  · cases hp
end Go.Ab

/-
  strings.Split as a primitive: a new row of texts.
-/
namespace Go.Ab
open Go.Shelf Go.Proofs
set_option linter.unusedVariables false
set_option linter.unusedSimpArgs false
variable {P : Program} {g : GMap} {ρ : Go.Shelf.Ren} {base : Nat}

/-- A primitive that lays one new row of values, out of a contract. -/
theorem prim_of_lays {f' : FuncId} {p : List PV → Option PV} {pf : Func} (hpf : P.funcs[f']? = some pf) (hb : pf.body.isSome = true) (hn : pf.name ≠ "runtime.NumGoroutine")
    (h : ∀ (κ : K) (w : World) (args : Array Value) (ps : List PV) (v : PV), g.inv κ → (∀ b i v, κ.C b i = some v → w.cell? ⟨b, i, none⟩ = some v) → args.size = ps.length → (∀ (i : Nat) (u : Value) (q : PV), args[i]? = some u → ps[i]? = some q → R g κ u q) → p ps = some v →
      ∃ (z : Value) (rs : Array Value) (el : TypeId), Calls P f' args w (fun e w' => e = .returned z ∧ w' = w.alloc (.cells rs el)) ∧ R g (κ.addC w.heap.size fun i => rs[i]?) z v) : PrimOK P g f' p := by
  intro base κ w st args ps v hsr hsz hargs hp F hF nn o a next Q hnext
  have hrun : (callFunc f' args).run P w = .ok (.enter f' args) w := by
    have hb2 : pf.body.isNone = false := by
      cases hbb : pf.body with
      | none => rw [hbb] at hb; cases hb
      | some c => rfl
    have hn2 : (pf.name == "runtime.NumGoroutine") = false := by simpa using hn
    unfold callFunc
    simp only [Sem.run_bind, Go.program, Sem.run, Result.andThen, hpf, hn2, hb2]
    rfl
  rw [hrun]
  refine ⟨hF.deep, callsIn_of_calls hF ?_⟩
  obtain ⟨z, rs, el, hc, hr⟩ := h κ w args ps v hsr.gv hsr.cC hsz hargs hp
  refine hc.mono ?_
  rintro e w' ⟨rfl, rfl⟩
  obtain ⟨hle, hs⟩ := hsr.addC (w' := w.alloc (.cells rs el)) rs el (0, 0) rfl
  exact hnext _ z _ hle rfl hs hr (Fr.push hsr.hb rfl rfl rfl rfl)

/-! ### The parts are the shelf's -/
theorem occ_one {c : UInt8} {s : List UInt8} {j : Nat} : Lib.occAt s [c] j = true → s[j]? = some c := fun h => Lib.occAt_head rfl h
theorem index_one_cases (c : UInt8) (s : List UInt8) : (c ∉ s ∧ Lib.index s [c] = -1) ∨ ∃ n r, s = n ++ c :: r ∧ c ∉ n ∧ Lib.index s [c] = n.length := by
  rcases Lib.index_spec s [c] with ⟨h1, h2⟩ | ⟨i, h1, h2, h3, h4⟩
  · refine .inl ⟨fun hm => ?_, h1⟩
    obtain ⟨j, hj, e⟩ := List.mem_iff_getElem.1 hm
    have := h2 j (by omega)
    rw [Lib.occAt_iff_take _ _ _ (by simp; omega)] at this
    rw [List.drop_eq_getElem_cons hj] at this
    simp [e] at this
  · have hi := occ_one h3
    have hlt := (List.getElem?_eq_some_iff.1 hi).1
    have he := (List.getElem?_eq_some_iff.1 hi).2
    refine .inr ⟨s.take i, s.drop (i + 1), ?_, fun hm => ?_, ?_⟩
    · rw [← he, ← List.drop_eq_getElem_cons hlt, List.take_append_drop]
    · obtain ⟨j, hj, e⟩ := List.mem_iff_getElem.1 hm
      simp only [List.length_take] at hj
      simp only [List.getElem_take] at e
      have := h4 j (by omega)
      rw [Lib.occAt_iff_take _ _ _ (by simp; omega)] at this
      rw [List.drop_eq_getElem_cons (show j < s.length by omega)] at this
      simp [e] at this
    · rw [h1]; simp; omega
theorem splitOn_none {c : UInt8} : ∀ (n acc : List UInt8), c ∉ n → splitOn c acc n = [acc ++ n] := by
  intro n
  induction n with
  | nil => intro acc _; simp [splitOn]
  | cons d n ih =>
    intro acc h
    simp only [List.mem_cons, not_or] at h
    rw [splitOn, if_neg (fun e => h.1 e.symm), ih _ h.2]; simp
theorem splitOn_hit {c : UInt8} {r : List UInt8} : ∀ (n acc : List UInt8), c ∉ n → splitOn c acc (n ++ c :: r) = (acc ++ n) :: splitOn c [] r := by
  intro n
  induction n with
  | nil => intro acc _; simp [splitOn]
  | cons d n ih =>
    intro acc h
    simp only [List.mem_cons, not_or] at h
    rw [List.cons_append, splitOn, if_neg (fun e => h.1 e.symm), ih _ h.2]; simp
theorem splitK_on {c : UInt8} : ∀ (f : Nat) (s : List UInt8), s.length < f → Lib.splitK [c] 0 (Lib.countFrom [c] f s) s = splitOn c [] s := by
  intro f
  induction f with
  | zero => intro s h; omega
  | succ f ih =>
    intro s h
    rcases index_one_cases c s with ⟨h1, h2⟩ | ⟨n, r, h1, h2, h3⟩
    · rw [splitOn_none s [] h1]
      simp [Lib.countFrom, h2, Lib.splitK]
    · have hne : (Lib.index s [c] == -1) = false := by rw [h3, beq_eq_false_iff_ne]; omega
      have hd : s.drop (n.length + 1) = r := by rw [h1, ← List.drop_drop, List.drop_left]; rfl
      have ht : s.take n.length = n := by rw [h1, List.take_left]
      have hc : Lib.countFrom [c] (f + 1) s = Lib.countFrom [c] f r + 1 := by
        simp only [Lib.countFrom, hne]
        rw [h3]
        simp only [Int.toNat_natCast, List.length_singleton, hd]
        simp; omega
      have hl := congrArg List.length h1
      simp only [List.length_append, List.length_cons] at hl
      rw [hc, Lib.splitK, hne, h3]
      simp only [Int.toNat_natCast, List.length_singleton, Nat.add_zero, ht, hd]
      rw [ih r (by omega), h1, splitOn_hit n [] h2]
      simp
theorem primStrSplit (L : Lays.n146 P ρ) (hi9 : (P.info? (ρ.t 9)).map (fun i => (i.zero, i.size, i.bytes)) = some (some (.string ByteArray.empty), 1, 16)) (hm : ∀ κ, g.inv κ → ∃ m, κ.C (ρ.g 1) 0 = some (.int .i64 m)) {pf : Func} (hpf : P.funcs[ρ.f 146]? = some pf) (hb : pf.body.isSome = true) (hn : pf.name ≠ "runtime.NumGoroutine") : PrimOK P g (ρ.f 146) pStrSplit := by
  refine prim_of_lays hpf hb hn (fun κ w args ps v hi hC hsz hargs hp => ?_)
  obtain ⟨m, hm⟩ := hm κ hi
  have hmc := hC _ _ _ hm
  unfold pStrSplit at hp
  split at hp
  · rename_i a c
    split at hp
    · rename_i hlen
      cases hp
      obtain ⟨u1, u2, rfl⟩ : ∃ u1 u2, args = #[u1, u2] := by
        obtain ⟨l⟩ := args
        match l, hsz with
        | [u1, u2], _ => exact ⟨u1, u2, rfl⟩
      have r1 := hargs 0 u1 _ rfl rfl
      have r2 := hargs 1 u2 _ rfl rfl
      cases r1 with | str sa _ ha => cases r2 with | str sb _ hb2 =>
      have hsa : sa.size = a.length := by rw [← ha]; simp
      have hsb : sb.size = 1 := by
        have := congrArg List.length hb2
        simpa using this
      refine ⟨_, _, _, Any.strings_Split L hi9 sa sb m w (by omega) hmc (by omega), ?_⟩
      -- the pieces
      obtain ⟨bs, hbs⟩ : ∃ bs, bs = Lib.splitB sb 0 (Lib.countB sa sb) sa := ⟨_, rfl⟩
      have hdat : bs.map (·.data.toList) = splitOn c [] a := by
        rw [hbs, Lib.splitB_data, hb2, ha]
        have hcnt : Lib.countB sa sb = Lib.countFrom [c] (a.length + 1) a := by
          show Lib.count sa.data.toList sb.data.toList = _
          rw [hb2, ha]; rfl
        rw [hcnt]
        exact splitK_on _ _ (by omega)
      have hlenb : bs.length = Lib.countB sa sb + 1 := by rw [hbs]; exact Lib.splitB_all sb (by omega) 0 _ sa rfl
      have hlen2 : (splitOn c [] a).length = bs.length := by rw [← hdat]; simp
      rw [← hbs, ← hlenb]
      have hflat : flat ((splitOn c [] a).map PV.str) = (splitOn c [] a).map PV.str := by
        generalize splitOn c [] a = xs
        induction xs with
        | nil => rfl
        | cons x xs ih => simp only [List.map_cons, flat, List.flatMap_cons, PV.cells] at ih ⊢; rw [ih]; rfl
      have hgetR : ∀ (i : Nat) (v : Value) (p : PV), (bs.map Value.string)[i]? = some v → ((splitOn c [] a).map PV.str)[i]? = some p → ∀ κ', R g κ' v p := by
        intro i v p h1 h2 κ'
        rw [← hdat] at h2
        simp only [List.getElem?_map, Option.map_eq_some_iff] at h1 h2
        obtain ⟨b, e1, rfl⟩ := h1
        obtain ⟨y, ⟨b2, e2, rfl⟩, rfl⟩ := h2
        rw [e1] at e2; cases e2
        exact .str b _ rfl
      refine .sl w.heap.size 0 bs.length bs.length 1 .no _ (bs.map Value.string) (by simp [hlen2]) (Nat.le_refl _) (fun x hx => ?_) (by rw [hflat]; simp [hlen2]) (fun i v hv => ?_) (fun i v p h1 h2 => ?_) ?_ ?_ trivial
      · obtain ⟨y, _, rfl⟩ := List.mem_map.1 hx; rfl
      · have hne : (bs.map Value.string).toArray[i]? = some v := by simpa using hv
        simp only [K.addC, Nat.zero_add, if_pos]
        rw [hne]
      · rw [hflat] at h2; exact hgetR i v p h1 h2 _
      · generalize splitOn c [] a = xs
        induction xs with
        | nil => rfl
        | cons x xs ih => simp [dataAll, PV.data, ih]
      · rw [hflat, List.all_eq_true]
        intro x hx
        obtain ⟨y, _, rfl⟩ := List.mem_map.1 hx; rfl
    · cases hp
  · cases hp
end Go.Ab

/-
  A row that lists variables: the wrap, the world's shape and what the listed variables hold kept.
-/
namespace Go.Ab
open Go
variable {H : Type} {enc : TypeId × Value → H}

theorem returns_laid_shaped {a : Assume} {C : Checked} {os : Os} {f : FuncId} {fn : Func} {s : ChangeSpec} {conds : List PathCond} {apart fresh handsOn again : Bool} (X : World → Prop) (hX : ∀ w w' : World, w.heap = w'.heap → X w → X w')
    (own : ownKnob C.prog.godebug = none) (started : os.Started) (noInit : C.prog.inits.idxOf? f = none) (hfn : C.prog.funcs[f]? = some fn)
    (witness : ∃ (w : World) (tape : Tape) (i : Input), w.os = os ∧ (w.forCall tape i).Shaped C.prog ∧ i.vars = [] ∧ Input.okWide C.prog (w.forCall tape i) .any w.heap.size f i ∧
      ((s.pre enc C.prog fn conds apart (w.forCall tape i).memory i.args ∧ X (w.forCall tape i).memory) ∧ sizedMet enc C.prog fn (OpenSpec.ofChange s) apart (w.forCall tape i).memory i.args) ∧ a.holds C.prog (lone (Frame.enter C.prog f i.args .normal) [] (w.forCall tape i)))
    (contract : ∀ (W : World) (base : Nat) (args : Array Value) (ds gs : List (DataW H)) (before : List MemPlace),
      (∀ (j : Nat) t v, fn.params[j]? = some t → args[j]? = some v → Value.okWide C.prog W .any base t v) →
      DataW.Whole enc C.prog fn.params.toList s.vars apart W args.toList ds gs before →
      X W →
      (DataW.weightsEach C.prog (fn.params.toList ++ s.plain.varTypes C.prog) (ds ++ gs)).all (· ≤ reachBytes) = true →
      W.ShapedOpen C.prog →
      a.holds C.prog (lone (Frame.enter C.prog f args .normal) [] W) →
      Calls C.prog f args W fun e W' => ∃ v, e = .returned v ∧ s.post enc C.prog fn apart fresh handsOn again W args v W') :
    ReturnsInHanded a C os f .any (fun w args => (s.pre enc C.prog fn conds apart w args ∧ X w) ∧ sizedMet enc C.prog fn (OpenSpec.ofChange s) apart w args) (s.post enc C.prog fn apart fresh handsOn again) := by
  refine returnsInHanded_of_calls own started noInit witness ?_
  intro w tape i _ hshape _ hok hpre hholds
  obtain ⟨_, _, _, fn2, hfn2, _, _, _, _, hval⟩ := hok
  obtain rfl : fn2 = fn := Option.some.inj (hfn2.symm.trans hfn)
  obtain ⟨⟨⟨ds, gs, before, hwhole, _⟩, hlaid⟩, hsized⟩ := hpre
  have hlaid2 : X (w.forCall tape i) := hX _ _ (by rfl) hlaid
  have hwhole2 := DataW.Whole.of_heap (w' := w.forCall tape i) (by rfl) hwhole
  have hrun := contract _ w.heap.size i.args ds gs before hval hwhole2 hlaid2 (hsized.weights hwhole) hshape hholds
  refine hrun.mono ?_
  rintro e W2 ⟨v, rfl, hpost⟩
  exact ChangeSpec.post_blind hpost
end Go.Ab
