/-
  A line's text is read by the document, walked.
-/
import Derived.Test.YtiiedcmkmnfdiaaDoorA5
import Derived.Test.YtiiedcmkmnfdiaaDoorA3
import Derived.KernelRfl
import Derived.Test.YtiiedcmkmnfdiaaDoorA2
import Derived.Shelf.Bytes.SlIndexWhole
import Derived.Shelf.Bytes.IndexByte
import Derived.Shelf.Strings.Builder1
import Derived.Shelf.Strings.Search2
import Derived.Shelf.Small.Strs
import Derived.HandedShaped
import Derived.LaidLaws
import Derived.Lay
namespace Go.Ab
set_option linter.unusedVariables false
set_option linter.unusedSimpArgs false
set_option maxRecDepth 20000
variable {st s : St} {e : Env}

theorem cutV_at {e x : Bs} {f : Nat} (hf : f ≤ x.length) : cutV e (x.drop f) = ((x.take (f + endI e (x.drop f))).drop f, x.getD (f + endI e (x.drop f)) 0, x.drop (f + endI e (x.drop f) + 1)) := by
  have h1 : (x.take (f + endI e (x.drop f))).drop f = (x.drop f).take (endI e (x.drop f)) := by rw [List.drop_take, Nat.add_sub_cancel_left]
  have h2 : (if endI e (x.drop f) < (x.drop f).length then (x.drop f).getD (endI e (x.drop f)) 0 else 0) = x.getD (f + endI e (x.drop f)) 0 := by
    rw [drop_get]
    split
    · rfl
    · rename_i h
      simp only [List.length_drop] at h
      simp [List.getD, show x.length ≤ f + endI e (x.drop f) by omega]
  unfold cutV
  rw [h1, h2, List.drop_drop]
  rfl
theorem endI_has {e : Bs} : ∀ {s : Bs}, endI e s < s.length → e.contains (s.getD (endI e s) 0) = true := by
  intro s
  induction s with
  | nil => intro h; simp at h
  | cons d r ih =>
    intro h
    rw [endI_cons] at h ⊢
    cases hd : e.contains d with
    | true => simpa using hd
    | false =>
      rw [hd, if_neg (by simp)] at h
      rw [if_neg (by simp)]
      exact ih (by simpa using h)

set_option maxHeartbeats 4000000 in
theorem rOne_spec {x : Bs} (hl : x.length ≤ 1000000) : call prog (.fn 91 []) [.str x] st = some (oneV st (oneL x)) := by
  refine call_of_W prog_91 ?_
  unfold F_posthornref10_One; dsimp only
  generalize hQ1 : endQ st _ _ = Q0
  have hQ0 : Q0 = endQ st [.cell 2 true 3, .tmp 3] (oneV st (oneL x)) := hQ1.symm
  clear hQ1
  obtain ⟨b2, hb2⟩ : ∃ b2, b2 = st.boxes.length := ⟨_, rfl⟩
  obtain ⟨Z, hZ⟩ : ∃ Z : List PV, Z = [.str [], .nils, .str []] := ⟨_, rfl⟩
  have fin : ∀ (E : Env) (S : St) (n v : Bs) (pv : PV) (ps : List Fld), Kept st S → Own st S 2 pv (ps.map fV) → (ps.map fV = [] → pv = .nils) → At S b2 [.str n, pv, .str v] → oneL x = some (n, ps, v) → E 2 = .ptr b2 0 → E 3 = .int .i64 0 → Q0 .ret E S := by
    intro E S n v pv ps k1 ko kn kA ho k2 k3
    rw [hQ0, qblz]
    refine ⟨.tup [.agg [.str n, pv, .str v], .int .i64 0], by simp [resOf, rvAll, rv1, k2, k3, kA.ld3, notTup, packRes], ?_⟩
    rw [ho]; exact leave_line k1 ko kn
  have bd : ∀ (S : St) (b4 : Nat), Kept st S → At S b2 Z → At S b4 Z → oneL x = none → ∃ S', loadPV S true 3 (.ptr b4 0) = some (.agg [.str [], .nils, .str []]) ∧ storePV S 3 (.ptr b2 0) (.agg [.str [], .nils, .str []]) = some S' ∧ ∀ E : Env, E 2 = .ptr b2 0 → E 3 = .int .i64 90 → Q0 .ret E S' := by
    intro S b4 k1 kA k4 ho
    rw [hZ] at kA k4
    obtain ⟨S', a1, w1⟩ := kA.st3 (v0 := .str []) (v1 := .nils) (v2 := .str []) rfl rfl rfl rfl rfl rfl
    refine ⟨S', k4.ld3, a1, fun E k2 k3 => ?_⟩
    rw [hQ0, qblz]
    refine ⟨.tup [.agg [.str [], .nils, .str []], .int .i64 90], by simp [resOf, rvAll, rv1, k2, k3, w1.at_.ld3, notTup, packRes], ?_⟩
    rw [ho]
    exact (w1.kp st k1 (by omega)).leave' ⟨fun _ => rfl, fun _ _ => rfl⟩
  have hbu : buildCells [.str [], .nils, .str []] [] = some [.str [], .nils, .str []] := rfl
  have hbu1 : ∀ n : Bs, buildCells [.str [], .nils, .str []] [(0, 1, .str n)] = some [.str n, .nils, .str []] := fun n => rfl
  have hbu2 : ∀ n : Bs, buildCells [.str [], .str []] [(0, 1, .str n)] = some [.str n, .str []] := fun n => rfl
  have hidx : ∀ k : Nat, k < x.length → idxSPV (.str x) (.int .i64 (k : Int)) = some (.b8 (x.getD k 0)) := fun k hk => by
    rw [idx_s (by omega) (by rw [Int.toNat_natCast]; exact hk), Int.toNat_natCast]
  have hslc : ∀ a b : Nat, a ≤ b → b ≤ x.length → slcPV 0 (.str x) (some (.int .i64 (a : Int))) (some (.int .i64 (b : Int))) none = some (.str ((x.take b).drop a)) := fun a b h1 h2 => by
    rw [slc_s (by omega) (by omega) (by omega), Int.toNat_natCast, Int.toNat_natCast]
  refine W_cut (fun E S => Kept st S ∧ At S b2 Z ∧ E 0 = .str x ∧ E 2 = .ptr b2 0) ?_ ?_
  · simp (maxSteps := 1000000) (disch := omega) only [allocPV, qaaz, qabz, qacz, qadz, qaez, qafz, qagz, qahz, qaiz, qajz, qakz, qalz, qamz, qanz, evOp, qaoz, qapz, qaqz, qarz, qasz, qatz, qauz, qavz,
 ↓reduceIte, Nat.reduceEqDiff, List.nil_append, List.cons_append, List.append_nil, List.map_cons, List.map_nil, qawz, qaxz, qayz, Option.map_some, Option.map_none, qazz, qbaz, qbbz, qbcz, qbdz, qbez, qbfz, qbgz, qbhz, qbiz, qbjz, qbkz, qblz, qbmz, qbnz, qboz,
 qbpz, qbqz, qbrz, qbsz, qbtz, qbuz, qbvz, qbwz, qbxz, qbyz, qbzz, qcaz, qcbz, qccz, qcdz, qcez, qcfz, qcgz, qchz, qciz, beq_true, beq_false, Bool.not_eq_true', decide_eq_true_eq, decide_eq_false_iff_not, decide_true, decide_false,
 Int.toNat_natCast, Int.ofNat_lt, Int.ofNat_le, Int.natCast_inj, Bool.false_eq_true, Bool.true_eq_false, qcjz, List.getElem?_cons_zero, List.getElem?_cons_succ, qckz, Int.reduceToNat, Int.reduceLE, true_and, and_true, reduceCtorEq, or_false, false_or, or_true, Option.some.injEq, exists_eq_left', Bool.not_true, Bool.not_false, ne_eq, Int.reduceEq, not_true_eq_false, not_false_eq_true, Int.reduceLT, UInt8.reduceLT, UInt8.reduceLE, UInt8.reduceToNat]
    exact ⟨Kept.start.alloc', by rw [hb2, hZ]; exact At.last (s := ⟨st.boxes, st.toks, st.loops, st.boxes.length⟩), by rw [hb2]⟩
  rintro e S ⟨hk, hA2, h0, h2⟩
  obtain ⟨b4, hb4⟩ : ∃ b4, b4 = S.boxes.length := ⟨_, rfl⟩
  have hne24 : b2 ≠ b4 := by have := hA2.lt; omega
  have hle4 : st.boxes.length ≤ b4 := by have := hk.bl; omega
  refine W_cut (fun E S => Kept st S ∧ At S b2 Z ∧ At S b4 Z ∧ E 0 = .str x ∧ E 2 = .ptr b2 0 ∧ E 4 = .ptr b4 0) ?_ ?_
  · have hA := At.last (s := S) (z := [.str [], .nils, .str []]) (T := S.toks) (Lp := S.loops) (lo := S.low)
    rw [← hb4] at hA
    obtain ⟨S', a1, w1⟩ := hA.st3 (v0 := .str []) (v1 := .nils) (v2 := .str []) rfl rfl rfl rfl rfl rfl
    simp (maxSteps := 1000000) (disch := omega) only [hbu, allocPV, ← hb4, h0, h2, a1, qaaz, qabz, qacz, qadz, qaez, qafz, qagz, qahz, qaiz, qajz, qakz, qalz, qamz, qanz, evOp, qaoz, qapz, qaqz, qarz, qasz, qatz, qauz, qavz,
 ↓reduceIte, Nat.reduceEqDiff, List.nil_append, List.cons_append, List.append_nil, List.map_cons, List.map_nil, qawz, qaxz, qayz, Option.map_some, Option.map_none, qazz, qbaz, qbbz, qbcz, qbdz, qbez, qbfz, qbgz, qbhz, qbiz, qbjz, qbkz, qblz, qbmz, qbnz, qboz,
 qbpz, qbqz, qbrz, qbsz, qbtz, qbuz, qbvz, qbwz, qbxz, qbyz, qbzz, qcaz, qcbz, qccz, qcdz, qcez, qcfz, qcgz, qchz, qciz, beq_true, beq_false, Bool.not_eq_true', decide_eq_true_eq, decide_eq_false_iff_not, decide_true, decide_false,
 Int.toNat_natCast, Int.ofNat_lt, Int.ofNat_le, Int.natCast_inj, Bool.false_eq_true, Bool.true_eq_false, qcjz, List.getElem?_cons_zero, List.getElem?_cons_succ, qckz, Int.reduceToNat, Int.reduceLE, true_and, and_true, reduceCtorEq, or_false, false_or, or_true, Option.some.injEq, exists_eq_left', Bool.not_true, Bool.not_false, ne_eq, Int.reduceEq, not_true_eq_false, not_false_eq_true, Int.reduceLT, UInt8.reduceLT, UInt8.reduceLE, UInt8.reduceToNat]
    exact ⟨w1.kp st hk.alloc' hle4, w1.ot _ _ hne24 hA2.alloc, by rw [hZ]; exact w1.at_⟩
  clear hk hA2 h0 h2 hb4
  rintro e S ⟨hk, hA2, hA4, h0, h2, h4⟩
  obtain ⟨c, hc⟩ : ∃ c, c = cutV [59, 58] x := ⟨_, rfl⟩
  obtain ⟨a0, ha0⟩ : ∃ a0, a0 = endI [59, 58] x := ⟨_, rfl⟩
  have ha0l : a0 ≤ x.length := by rw [ha0]; exact endI_le
  have hcc := cutV_at (e := [59, 58]) (x := x) (f := 0) (by omega)
  rw [List.drop_zero, Nat.zero_add, ← hc, ← ha0, List.drop_zero] at hcc
  refine W_cut (fun E S => Kept st S ∧ At S b2 Z ∧ At S b4 Z ∧ E 0 = .str x ∧ E 2 = .ptr b2 0 ∧ E 4 = .ptr b4 0 ∧ E 5 = .int .i64 (a0 : Int)) ?_ ?_
  · have hpl := fun S : St => place_spec (st := S) (x := x) (e := [59, 58]) (f := 0) hl (by simp) (by omega)
    rw [List.drop_zero, Nat.zero_add, ← ha0] at hpl
    simp (maxSteps := 1000000) (disch := omega) only [h0, h2, h4, show call prog (.fn 99 []) [.str x, .int .i64 0, .str [59, 58]] S = some (.int .i64 (a0 : Int), S) from hpl S, qaaz, qabz, qacz, qadz, qaez, qafz, qagz, qahz, qaiz, qajz, qakz, qalz, qamz, qanz, evOp, qaoz, qapz, qaqz, qarz, qasz, qatz, qauz, qavz,
 ↓reduceIte, Nat.reduceEqDiff, List.nil_append, List.cons_append, List.append_nil, List.map_cons, List.map_nil, qawz, qaxz, qayz, Option.map_some, Option.map_none, qazz, qbaz, qbbz, qbcz, qbdz, qbez, qbfz, qbgz, qbhz, qbiz, qbjz, qbkz, qblz, qbmz, qbnz, qboz,
 qbpz, qbqz, qbrz, qbsz, qbtz, qbuz, qbvz, qbwz, qbxz, qbyz, qbzz, qcaz, qcbz, qccz, qcdz, qcez, qcfz, qcgz, qchz, qciz, beq_true, beq_false, Bool.not_eq_true', decide_eq_true_eq, decide_eq_false_iff_not, decide_true, decide_false,
 Int.toNat_natCast, Int.ofNat_lt, Int.ofNat_le, Int.natCast_inj, Bool.false_eq_true, Bool.true_eq_false, qcjz, List.getElem?_cons_zero, List.getElem?_cons_succ, qckz, Int.reduceToNat, Int.reduceLE, true_and, and_true, reduceCtorEq, or_false, false_or, or_true, Option.some.injEq, exists_eq_left', Bool.not_true, Bool.not_false, ne_eq, Int.reduceEq, not_true_eq_false, not_false_eq_true, Int.reduceLT, UInt8.reduceLT, UInt8.reduceLE, UInt8.reduceToNat]
    exact ⟨hk, hA2, hA4⟩
  clear hk hA2 hA4 h0 h2 h4
  rintro e S ⟨hk, hA2, hA4, h0, h2, h4, h5⟩
  obtain ⟨nm, hnm⟩ : ∃ nm, nm = upOf c.1 := ⟨_, rfl⟩
  have hc1t : c.1 = x.take a0 := by rw [hcc]
  have hnl : nm.length ≤ 1000000 := by rw [hnm, hc1t]; simp [upOf]; omega
  obtain ⟨b6, hb6⟩ : ∃ b6, b6 = S.boxes.length := ⟨_, rfl⟩
  have hne26 : b2 ≠ b6 := by have := hA2.lt; omega
  have hne46 : b4 ≠ b6 := by have := hA4.lt; omega
  have hle6 : st.boxes.length ≤ b6 := by have := hk.bl; omega
  refine W_cut (fun E S => Kept st S ∧ At S b2 Z ∧ At S b4 Z ∧ At S b6 [.str nm, .nils, .str []] ∧ E 0 = .str x ∧ E 2 = .ptr b2 0 ∧ E 4 = .ptr b4 0 ∧ E 5 = .int .i64 (a0 : Int) ∧ E 6 = .ptr b6 0) ?_ ?_
  · have hup := fun S : St => rUpper_spec (st := S) (l := c.1) (by rw [hc1t]; simp; omega)
    rw [← hnm] at hup
    have hs1 : slcPV 0 (.str x) none (some (.int .i64 (a0 : Int))) none = some (.str c.1) := by rw [slc_s_hi (by omega) (by omega), Int.toNat_natCast, hc1t]
    have hA := At.last (s := S) (z := [.str [], .nils, .str []]) (T := S.toks) (Lp := S.loops) (lo := S.low)
    rw [← hb6] at hA
    obtain ⟨S', a1, w1⟩ := hA.st3 (v0 := .str nm) (v1 := .nils) (v2 := .str []) rfl rfl rfl rfl rfl rfl
    simp (maxSteps := 1000000) (disch := omega) only [h0, h2, h4, h5, hs1, hup, hbu1, allocPV, ← hb6, a1, qaaz, qabz, qacz, qadz, qaez, qafz, qagz, qahz, qaiz, qajz, qakz, qalz, qamz, qanz, evOp, qaoz, qapz, qaqz, qarz, qasz, qatz, qauz, qavz,
 ↓reduceIte, Nat.reduceEqDiff, List.nil_append, List.cons_append, List.append_nil, List.map_cons, List.map_nil, qawz, qaxz, qayz, Option.map_some, Option.map_none, qazz, qbaz, qbbz, qbcz, qbdz, qbez, qbfz, qbgz, qbhz, qbiz, qbjz, qbkz, qblz, qbmz, qbnz, qboz,
 qbpz, qbqz, qbrz, qbsz, qbtz, qbuz, qbvz, qbwz, qbxz, qbyz, qbzz, qcaz, qcbz, qccz, qcdz, qcez, qcfz, qcgz, qchz, qciz, beq_true, beq_false, Bool.not_eq_true', decide_eq_true_eq, decide_eq_false_iff_not, decide_true, decide_false,
 Int.toNat_natCast, Int.ofNat_lt, Int.ofNat_le, Int.natCast_inj, Bool.false_eq_true, Bool.true_eq_false, qcjz, List.getElem?_cons_zero, List.getElem?_cons_succ, qckz, Int.reduceToNat, Int.reduceLE, true_and, and_true, reduceCtorEq, or_false, false_or, or_true, Option.some.injEq, exists_eq_left', Bool.not_true, Bool.not_false, ne_eq, Int.reduceEq, not_true_eq_false, not_false_eq_true, Int.reduceLT, UInt8.reduceLT, UInt8.reduceLE, UInt8.reduceToNat]
    exact ⟨w1.kp st hk.alloc' hle6, w1.ot _ _ hne26 hA2.alloc, w1.ot _ _ hne46 hA4.alloc, w1.at_⟩
  clear hk hA2 hA4 h0 h2 h4 h5 hb6
  rintro e S ⟨hk, hA2, hA4, hA6, h0, h2, h4, h5, h6⟩
  obtain ⟨G, hG⟩ : ∃ G, G = goL (x.length + 1) [] (x.getD a0 0) (x.drop (a0 + 1)) := ⟨_, rfl⟩
  have hone : oneL x = oneG nm G := by
    have h1 : c.2.1 = x.getD a0 0 := by rw [hcc]
    have h2 : c.2.2 = x.drop (a0 + 1) := by rw [hcc]
    rw [hG, hnm, ← h1, ← h2, hc]; rfl
  have hnone : G = none → oneL x = none := fun h => by rw [hone, h]; rfl
  obtain ⟨J, hJ⟩ : ∃ J : Nat → Env → St → Prop, J = fun at_ E S => ∃ (fuel : Nat) (acc : List Fld) (pv : PV), at_ ≤ x.length ∧ x.length - at_ < fuel ∧ acc.length ≤ at_ ∧ (∀ p ∈ acc, p.1.length + p.2.length ≤ 1000000) ∧ G = goL fuel acc (x.getD at_ 0) (x.drop (at_ + 1)) ∧
      Kept st S ∧ At S b2 Z ∧ At S b4 Z ∧ At S b6 [.str nm, pv, .str []] ∧ Own st S 2 pv (acc.map fV) ∧ (acc.map fV = [] → pv = .nils) ∧ E 0 = .str x ∧ E 2 = .ptr b2 0 ∧ E 4 = .ptr b4 0 ∧ E 5 = .int .i64 (at_ : Int) ∧ E 6 = .ptr b6 0 := ⟨_, rfl⟩
  refine W_cutX (fun E S => ∃ at_, J at_ E S ∧ ¬ (at_ < x.length ∧ x.getD at_ 0 = 59)) ?_ ?_
  · obtain ⟨QQ, hQQ⟩ : ∃ QQ : Ex → Env → St → Prop, QQ = fun xx e' s' => (xx = .normal ∧ ∃ at_, J at_ e' s' ∧ ¬ (at_ < x.length ∧ x.getD at_ 0 = 59)) ∨ (xx ≠ .normal ∧ Q0 xx e' s') := ⟨_, rfl⟩
    rw [← hQQ]
    have wr : ∀ (S : St), Kept st S → At S b2 Z → At S b4 Z → G = none → ∃ S', loadPV S true 3 (.ptr b4 0) = some (.agg [.str [], .nils, .str []]) ∧ storePV S 3 (.ptr b2 0) (.agg [.str [], .nils, .str []]) = some S' ∧ ∀ E : Env, E 2 = .ptr b2 0 → E 3 = .int .i64 90 → QQ .ret E S' := fun S k1 k2 k3 k4 => by
      obtain ⟨S', q1, q2, q3⟩ := bd S b4 k1 k2 k3 (hnone k4)
      exact ⟨S', q1, q2, fun E i1 i2 => by rw [hQQ]; exact .inr ⟨by simp, q3 E i1 i2⟩⟩
    rw [qadz]
    refine W_loop (fun n E S => ∃ at_, n = x.length - at_ ∧ J at_ E S) ?_ (n := x.length - a0) ⟨a0, rfl, by
      rw [hJ]
      exact ⟨x.length + 1, [], .nils, ha0l, by omega, by simp, fun p hp => by simp at hp, hG, hk, hA2, hA4, hA6, .inl ⟨rfl, rfl⟩, fun _ => rfl, h0, h2, h4, h5, h6⟩⟩
    clear hk hA2 hA4 hA6 h0 h2 h4 h5 h6
    rintro n e S ⟨at_, rfl, hh⟩
    have hJJ := hh
    rw [hJ] at hh
    obtain ⟨fuel, acc, pv, hat, hf, hal, hps, hg, hk, hA2, hA4, hA6, ho, hn, h0, h2, h4, h5, h6⟩ := hh
    by_cases hb : at_ < x.length ∧ x.getD at_ 0 = 59
    · obtain ⟨hlt, h59⟩ := hb
      have hi0 := hidx at_ hlt
      rw [h59] at hi0
      obtain ⟨f, rfl⟩ : ∃ f, fuel = f + 1 := ⟨fuel - 1, by omega⟩
      rw [h59, goL, if_pos rfl] at hg
      rw [qaaz]
      simp (maxSteps := 1000000) (disch := omega) only [h0, h5, len_s, hlt, hi0, qaaz, qabz, qacz, qaez, qafz, qagz, qahz, qaiz, qajz, qakz, qalz, qamz, qanz, evOp, qaoz, qapz, qaqz, qarz, qasz, qatz, qauz, qavz,
 ↓reduceIte, Nat.reduceEqDiff, List.nil_append, List.cons_append, List.append_nil, List.map_cons, List.map_nil, qawz, qaxz, qayz, Option.map_some, Option.map_none, qazz, qbaz, qbbz, qbcz, qbdz, qbez, qbfz, qbgz, qbhz, qbiz, qbjz, qbkz, qblz, qbmz, qbnz, qboz,
 qbpz, qbqz, qbrz, qbsz, qbtz, qbuz, qbvz, qbwz, qbxz, qbyz, qbzz, qcaz, qcbz, qccz, qcdz, qcez, qcfz, qcgz, qchz, qciz, beq_true, beq_false, Bool.not_eq_true', decide_eq_true_eq, decide_eq_false_iff_not, decide_true, decide_false,
 Int.toNat_natCast, Int.ofNat_lt, Int.ofNat_le, Int.natCast_inj, Bool.false_eq_true, Bool.true_eq_false, qcjz, List.getElem?_cons_zero, List.getElem?_cons_succ, qckz, Int.reduceToNat, Int.reduceLE, true_and, and_true, reduceCtorEq, or_false, false_or, or_true, Option.some.injEq, exists_eq_left', Bool.not_true, Bool.not_false, ne_eq, Int.reduceEq, not_true_eq_false, not_false_eq_true, Int.reduceLT, UInt8.reduceLT, UInt8.reduceLE, UInt8.reduceToNat]
      rw [qadz]
      obtain ⟨k1, hk1⟩ : ∃ k1, k1 = at_ + 1 + endI [61, 59, 58] (x.drop (at_ + 1)) := ⟨_, rfl⟩
      have hk1l : k1 ≤ x.length := by
        have := endI_le (e := [61, 59, 58]) (s := x.drop (at_ + 1))
        simp only [List.length_drop] at this
        omega
      obtain ⟨nm1, hnm1⟩ : ∃ nm1, nm1 = upOf ((x.take k1).drop (at_ + 1)) := ⟨_, rfl⟩
      have hc1 := cutV_at (e := [61, 59, 58]) (x := x) (f := at_ + 1) (by omega)
      rw [← hk1] at hc1
      have hpar : parL (x.drop (at_ + 1)) = if x.getD k1 0 = 61 then
          if [34] <+: x.drop (k1 + 1) then
            if (cutV [34] ((x.drop (k1 + 1)).drop 1)).2.1 = 0 then none
            else some ((nm1, (cutV [34] ((x.drop (k1 + 1)).drop 1)).1), (cutV [34] ((x.drop (k1 + 1)).drop 1)).2.2.getD 0 0, (cutV [34] ((x.drop (k1 + 1)).drop 1)).2.2.drop 1)
          else some ((nm1, (cutV [59, 58, 44, 34] (x.drop (k1 + 1))).1), (cutV [59, 58, 44, 34] (x.drop (k1 + 1))).2.1, (cutV [59, 58, 44, 34] (x.drop (k1 + 1))).2.2)
        else none := by unfold parL; rw [hc1, hnm1]
      refine W_cut (fun E S => Kept st S ∧ At S b2 Z ∧ At S b4 Z ∧ At S b6 [.str nm, pv, .str []] ∧ Own st S 2 pv (acc.map fV) ∧ E 0 = .str x ∧ E 2 = .ptr b2 0 ∧ E 4 = .ptr b4 0 ∧ E 5 = .int .i64 (at_ : Int) ∧ E 6 = .ptr b6 0 ∧ E 7 = .int .i64 (k1 : Int)) ?_ ?_
      · have hpl := fun S : St => place_spec (st := S) (x := x) (e := [61, 59, 58]) (f := at_ + 1) hl (by simp) (by omega)
        rw [← hk1] at hpl
        simp (maxSteps := 1000000) (disch := omega) only [h0, h2, h4, h5, h6, add_n, hpl, qaaz, qabz, qacz, qadz, qaez, qafz, qagz, qahz, qaiz, qajz, qakz, qalz, qamz, qanz, evOp, qaoz, qapz, qaqz, qarz, qasz, qatz, qauz, qavz,
 ↓reduceIte, Nat.reduceEqDiff, List.nil_append, List.cons_append, List.append_nil, List.map_cons, List.map_nil, qawz, qaxz, qayz, Option.map_some, Option.map_none, qazz, qbaz, qbbz, qbcz, qbdz, qbez, qbfz, qbgz, qbhz, qbiz, qbjz, qbkz, qblz, qbmz, qbnz, qboz,
 qbpz, qbqz, qbrz, qbsz, qbtz, qbuz, qbvz, qbwz, qbxz, qbyz, qbzz, qcaz, qcbz, qccz, qcdz, qcez, qcfz, qcgz, qchz, qciz, beq_true, beq_false, Bool.not_eq_true', decide_eq_true_eq, decide_eq_false_iff_not, decide_true, decide_false,
 Int.toNat_natCast, Int.ofNat_lt, Int.ofNat_le, Int.natCast_inj, Bool.false_eq_true, Bool.true_eq_false, qcjz, List.getElem?_cons_zero, List.getElem?_cons_succ, qckz, Int.reduceToNat, Int.reduceLE, true_and, and_true, reduceCtorEq, or_false, false_or, or_true, Option.some.injEq, exists_eq_left', Bool.not_true, Bool.not_false, ne_eq, Int.reduceEq, not_true_eq_false, not_false_eq_true, Int.reduceLT, UInt8.reduceLT, UInt8.reduceLE, UInt8.reduceToNat]
        exact ⟨hk, hA2, hA4, hA6, ho⟩
      clear hk hA2 hA4 hA6 ho h0 h2 h4 h5 h6
      rintro e S ⟨hk, hA2, hA4, hA6, ho, h0, h2, h4, h5, h6, h7⟩
      by_cases hkl : k1 = x.length
      · have hx0 : x.getD k1 0 = 0 := by rw [hkl]; simp [List.getD]
        rw [hx0, if_neg (by decide)] at hpar
        obtain ⟨S', q1, q2, q3⟩ := wr S hk hA2 hA4 (by rw [hg, hpar])
        have e1 : (k1 : Int) = (x.length : Int) := by omega
        simp (maxSteps := 1000000) (disch := omega) only [h0, h2, h4, h5, h6, h7, len_s, eq_true e1, eq_true hkl, q1, q2, qaaz, qabz, qacz, qadz, qaez, qafz, qagz, qahz, qaiz, qajz, qakz, qalz, qamz, qanz, evOp, qaoz, qapz, qaqz, qarz, qasz, qatz, qauz, qavz,
 ↓reduceIte, Nat.reduceEqDiff, List.nil_append, List.cons_append, List.append_nil, List.map_cons, List.map_nil, qawz, qaxz, qayz, Option.map_some, Option.map_none, qazz, qbaz, qbbz, qbcz, qbdz, qbez, qbfz, qbgz, qbhz, qbiz, qbjz, qbkz, qblz, qbmz, qbnz, qboz,
 qbpz, qbqz, qbrz, qbsz, qbtz, qbuz, qbvz, qbwz, qbxz, qbyz, qbzz, qcaz, qcbz, qccz, qcdz, qcez, qcfz, qcgz, qchz, qciz, beq_true, beq_false, Bool.not_eq_true', decide_eq_true_eq, decide_eq_false_iff_not, decide_true, decide_false,
 Int.toNat_natCast, Int.ofNat_lt, Int.ofNat_le, Int.natCast_inj, Bool.false_eq_true, Bool.true_eq_false, qcjz, List.getElem?_cons_zero, List.getElem?_cons_succ, qckz, Int.reduceToNat, Int.reduceLE, true_and, and_true, reduceCtorEq, or_false, false_or, or_true, Option.some.injEq, exists_eq_left', Bool.not_true, Bool.not_false, ne_eq, Int.reduceEq, not_true_eq_false, not_false_eq_true, Int.reduceLT, UInt8.reduceLT, UInt8.reduceLE, UInt8.reduceToNat]
        exact q3 _ h2 rfl
      have hkl' : k1 < x.length := by omega
      have hi1 := hidx k1 hkl'
      by_cases h61 : x.getD k1 0 = 61
      · rw [if_pos h61] at hpar
        rw [h61] at hi1
        obtain ⟨b8, hb8⟩ : ∃ b8, b8 = S.boxes.length := ⟨_, rfl⟩
        have hne28 : b2 ≠ b8 := by have := hA2.lt; omega
        have hne48 : b4 ≠ b8 := by have := hA4.lt; omega
        have hne68 : b6 ≠ b8 := by have := hA6.lt; omega
        have hle8 : st.boxes.length ≤ b8 := by have := hk.bl; omega
        refine W_cut (fun E S0 => S0 = S ∧ E 0 = .str x ∧ E 2 = .ptr b2 0 ∧ E 4 = .ptr b4 0 ∧ E 5 = .int .i64 (at_ : Int) ∧ E 6 = .ptr b6 0 ∧ E 7 = .int .i64 (k1 : Int)) ?_ ?_
        · simp (maxSteps := 1000000) (disch := omega) only [h0, h2, h4, h5, h6, h7, len_s, hkl, hi1, qaaz, qabz, qacz, qadz, qaez, qafz, qagz, qahz, qaiz, qajz, qakz, qalz, qamz, qanz, evOp, qaoz, qapz, qaqz, qarz, qasz, qatz, qauz, qavz,
 ↓reduceIte, Nat.reduceEqDiff, List.nil_append, List.cons_append, List.append_nil, List.map_cons, List.map_nil, qawz, qaxz, qayz, Option.map_some, Option.map_none, qazz, qbaz, qbbz, qbcz, qbdz, qbez, qbfz, qbgz, qbhz, qbiz, qbjz, qbkz, qblz, qbmz, qbnz, qboz,
 qbpz, qbqz, qbrz, qbsz, qbtz, qbuz, qbvz, qbwz, qbxz, qbyz, qbzz, qcaz, qcbz, qccz, qcdz, qcez, qcfz, qcgz, qchz, qciz, beq_true, beq_false, Bool.not_eq_true', decide_eq_true_eq, decide_eq_false_iff_not, decide_true, decide_false,
 Int.toNat_natCast, Int.ofNat_lt, Int.ofNat_le, Int.natCast_inj, Bool.false_eq_true, Bool.true_eq_false, qcjz, List.getElem?_cons_zero, List.getElem?_cons_succ, qckz, Int.reduceToNat, Int.reduceLE, true_and, and_true, reduceCtorEq, or_false, false_or, or_true, Option.some.injEq, exists_eq_left', Bool.not_true, Bool.not_false, ne_eq, Int.reduceEq, not_true_eq_false, not_false_eq_true, Int.reduceLT, UInt8.reduceLT, UInt8.reduceLE, UInt8.reduceToNat]
        clear h0 h2 h4 h5 h6 h7
        rintro e S' ⟨hSS, h0, h2, h4, h5, h6, h7⟩
        rw [hSS]; clear hSS S'
        refine W_cut (fun E S => Kept st S ∧ At S b2 Z ∧ At S b4 Z ∧ At S b6 [.str nm, pv, .str []] ∧ At S b8 [.str nm1, .str []] ∧ Own st S 2 pv (acc.map fV) ∧ E 0 = .str x ∧ E 2 = .ptr b2 0 ∧ E 4 = .ptr b4 0 ∧ E 6 = .ptr b6 0 ∧ E 7 = .int .i64 (k1 : Int) ∧ E 8 = .ptr b8 0) ?_ ?_
        · have hup := fun S : St => rUpper_spec (st := S) (l := (x.take k1).drop (at_ + 1)) (by simp; omega)
          rw [← hnm1] at hup
          have hs1 := hslc (at_ + 1) k1 (by omega) hk1l
          have hA := At.last (s := S) (z := [.str [], .str []]) (T := S.toks) (Lp := S.loops) (lo := S.low)
          rw [← hb8] at hA
          obtain ⟨S', a1, w1⟩ := hA.st2 (v0 := .str nm1) (v1 := .str []) rfl rfl rfl rfl
          simp (maxSteps := 1000000) (disch := omega) only [h0, h2, h4, h5, h6, h7, add_n, hs1, hup, hbu2, allocPV, ← hb8, a1, qaaz, qabz, qacz, qadz, qaez, qafz, qagz, qahz, qaiz, qajz, qakz, qalz, qamz, qanz, evOp, qaoz, qapz, qaqz, qarz, qasz, qatz, qauz, qavz,
 ↓reduceIte, Nat.reduceEqDiff, List.nil_append, List.cons_append, List.append_nil, List.map_cons, List.map_nil, qawz, qaxz, qayz, Option.map_some, Option.map_none, qazz, qbaz, qbbz, qbcz, qbdz, qbez, qbfz, qbgz, qbhz, qbiz, qbjz, qbkz, qblz, qbmz, qbnz, qboz,
 qbpz, qbqz, qbrz, qbsz, qbtz, qbuz, qbvz, qbwz, qbxz, qbyz, qbzz, qcaz, qcbz, qccz, qcdz, qcez, qcfz, qcgz, qchz, qciz, beq_true, beq_false, Bool.not_eq_true', decide_eq_true_eq, decide_eq_false_iff_not, decide_true, decide_false,
 Int.toNat_natCast, Int.ofNat_lt, Int.ofNat_le, Int.natCast_inj, Bool.false_eq_true, Bool.true_eq_false, qcjz, List.getElem?_cons_zero, List.getElem?_cons_succ, qckz, Int.reduceToNat, Int.reduceLE, true_and, and_true, reduceCtorEq, or_false, false_or, or_true, Option.some.injEq, exists_eq_left', Bool.not_true, Bool.not_false, ne_eq, Int.reduceEq, not_true_eq_false, not_false_eq_true, Int.reduceLT, UInt8.reduceLT, UInt8.reduceLE, UInt8.reduceToNat]
          exact ⟨w1.kp st hk.alloc' hle8, w1.ot _ _ hne28 hA2.alloc, w1.ot _ _ hne48 hA4.alloc, w1.ot _ _ hne68 hA6.alloc, w1.at_, ho.tks w1.tk⟩
        clear hk hA2 hA4 hA6 ho h0 h2 h4 h5 h6 h7 hb8
        rintro e S ⟨hk, hA2, hA4, hA6, hA8, ho, h0, h2, h4, h6, h7, h8⟩
        have tail : ∀ (S : St) (w : Bs) (a' : Nat), parL (x.drop (at_ + 1)) = some ((nm1, w), x.getD a' 0, x.drop (a' + 1)) → at_ < a' → a' ≤ x.length → Kept st S → At S b2 Z → At S b4 Z → At S b6 [.str nm, pv, .str []] → At S b8 [.str nm1, .str w] → Own st S 2 pv (acc.map fV) →
            ∃ v' s' S', Ab.appV 2 S.tok1 pv (.sl 2 (.own S.toks.length) [fV (nm1, w)]) = some (v', s') ∧ storePV s' 1 (.ptr b6 1) v' = some S' ∧ loadPV S false 1 (.ptr b6 1) = some pv ∧ loadPV S true 2 (.ptr b8 0) = some (.agg [.str nm1, .str w]) ∧ (∀ E' : Env, E' 0 = .str x → E' 2 = .ptr b2 0 → E' 4 = .ptr b4 0 → E' 5 = .int .i64 (a' : Int) → E' 6 = .ptr b6 0 → J a' E' S') := by
          intro S w a' hp ha1 ha2 hk hA2 hA4 hA6 hA8 ho
          have hlt := parL_lt hp
          simp only [List.length_drop] at hlt
          obtain ⟨v', s', q1, q2, q3, q4⟩ := hk.appV (u := fV (nm1, w)) (w := .undef) ho (by simp [room]; omega)
          obtain ⟨S', q5, w5⟩ := (hA6.bx q4).st1 (off := 1) (v := v') (own_leaf q3).1 ((own_leaf q3).2 _) (by simp)
          refine ⟨v', s', S', q1, q5, hA6.load (k := 1) (v := pv) (r := [.str []]) rfl, hA8.ld2, fun E' k0 k2 k4 k5 k6 => ?_⟩
          rw [hJ]
          refine ⟨f, acc ++ [(nm1, w)], v', ha2, by omega, by simp; omega, ?_, by rw [hg, hp], w5.kp st q2 hle6, w5.ot _ _ hne26 (hA2.bx q4), w5.ot _ _ hne46 (hA4.bx q4), w5.at_, ?_, fun h => by simp at h, k0, k2, k4, k5, k6⟩
          · intro p hpm
            rcases List.mem_append.1 hpm with hpm | hpm
            · exact hps p hpm
            · simp only [List.mem_singleton] at hpm; subst hpm; simp only; omega
          · have := q3.tks w5.tk
            simpa using this
        have hlit : ∀ z w, litFill 2 (List.replicate 1 z) [(0, .agg [.str nm1, .str w])] = some [fV (nm1, w)] := fun z w => lit1 rfl rfl
        by_cases h34 : [34] <+: x.drop (k1 + 1)
        · rw [if_pos h34] at hpar
          have hpos := h34.length_le
          simp only [List.length_singleton, List.length_drop] at hpos
          have hk1lt : k1 + 1 < x.length := by omega
          have hx34 : x.getD (k1 + 1) 0 = 34 := by
            obtain ⟨z, hz⟩ := h34
            have := congrArg (fun l => List.getD l 0 0) hz
            simp only [drop_get, Nat.add_zero] at this
            rw [← this]; rfl
          have hi2 := hidx (k1 + 1) hk1lt
          rw [hx34] at hi2
          rw [List.drop_drop] at hpar
          obtain ⟨k2, hk2⟩ : ∃ k2, k2 = k1 + 2 + endI [34] (x.drop (k1 + 2)) := ⟨_, rfl⟩
          have hk2e := endI_le (e := [34]) (s := x.drop (k1 + 2))
          simp only [List.length_drop] at hk2e
          have hk2l : k2 ≤ x.length := by omega
          have hc2 := cutV_at (e := [34]) (x := x) (f := k1 + 2) (by omega)
          rw [← hk2] at hc2
          rw [show k1 + 1 + 1 = k1 + 2 from rfl, hc2] at hpar
          simp only at hpar
          have hpl := fun S : St => place_spec (st := S) (x := x) (e := [34]) (f := k1 + 2) hl (by simp) (by omega)
          rw [← hk2] at hpl
          by_cases hke : k2 = x.length
          · have hx0 : x.getD k2 0 = 0 := by rw [hke]; simp [List.getD]
            rw [if_pos hx0] at hpar
            obtain ⟨S', q1, q2, q3⟩ := wr S hk hA2 hA4 (by rw [hg, hpar])
            simp (maxSteps := 1000000) (disch := omega) only [h0, h2, h4, h6, h7, h8, add_n, len_s, hk1lt, hi2, hpl, eq_true hke, q1, q2, qaaz, qabz, qacz, qadz, qaez, qafz, qagz, qahz, qaiz, qajz, qakz, qalz, qamz, qanz, evOp, qaoz, qapz, qaqz, qarz, qasz, qatz, qauz, qavz,
 ↓reduceIte, Nat.reduceEqDiff, List.nil_append, List.cons_append, List.append_nil, List.map_cons, List.map_nil, qawz, qaxz, qayz, Option.map_some, Option.map_none, qazz, qbaz, qbbz, qbcz, qbdz, qbez, qbfz, qbgz, qbhz, qbiz, qbjz, qbkz, qblz, qbmz, qbnz, qboz,
 qbpz, qbqz, qbrz, qbsz, qbtz, qbuz, qbvz, qbwz, qbxz, qbyz, qbzz, qcaz, qcbz, qccz, qcdz, qcez, qcfz, qcgz, qchz, qciz, beq_true, beq_false, Bool.not_eq_true', decide_eq_true_eq, decide_eq_false_iff_not, decide_true, decide_false,
 Int.toNat_natCast, Int.ofNat_lt, Int.ofNat_le, Int.natCast_inj, Bool.false_eq_true, Bool.true_eq_false, qcjz, List.getElem?_cons_zero, List.getElem?_cons_succ, qckz, Int.reduceToNat, Int.reduceLE, true_and, and_true, reduceCtorEq, or_false, false_or, or_true, Option.some.injEq, exists_eq_left', Bool.not_true, Bool.not_false, ne_eq, Int.reduceEq, not_true_eq_false, not_false_eq_true, Int.reduceLT, UInt8.reduceLT, UInt8.reduceLE, UInt8.reduceToNat]
            exact q3 _ h2 rfl
          · have hkb : x.getD k2 0 = 34 := by
              have := endI_has (e := [34]) (s := x.drop (k1 + 2)) (by simp; omega)
              rw [drop_get, ← hk2] at this
              simpa using this
            rw [if_neg (by rw [hkb]; decide), drop_get, Nat.add_zero, List.drop_drop] at hpar
            have hs2 := hslc (k1 + 2) k2 (by omega) hk2l
            obtain ⟨S1, a1, w1⟩ := hA8.st1 (off := 1) (v := .str ((x.take k2).drop (k1 + 2))) Leaf_str rfl (by simp)
            obtain ⟨v', s', S', t1, t2, t4, t5, t6⟩ := tail S1 _ (k2 + 1) hpar (by omega) (by omega) (w1.kp st hk hle8) (w1.ot _ _ hne28 hA2) (w1.ot _ _ hne48 hA4) (w1.ot _ _ hne68 hA6) w1.at_ (ho.tks w1.tk)
            simp (maxSteps := 1000000) (disch := omega) only [h0, h2, h4, h6, h7, h8, add_n, len_s, hk1lt, hi2, hpl, hke, hs2, faddrPV, Nat.zero_add, a1, t4, t5, hlit, freshT_eq, t1, t2, loopQ_normal, qaaz, qabz, qacz, qadz, qaez, qafz, qagz, qahz, qaiz, qajz, qakz, qalz, qamz, qanz, evOp, qaoz, qapz, qaqz, qarz, qasz, qatz, qauz, qavz,
 ↓reduceIte, Nat.reduceEqDiff, List.nil_append, List.cons_append, List.append_nil, List.map_cons, List.map_nil, qawz, qaxz, qayz, Option.map_some, Option.map_none, qazz, qbaz, qbbz, qbcz, qbdz, qbez, qbfz, qbgz, qbhz, qbiz, qbjz, qbkz, qblz, qbmz, qbnz, qboz,
 qbpz, qbqz, qbrz, qbsz, qbtz, qbuz, qbvz, qbwz, qbxz, qbyz, qbzz, qcaz, qcbz, qccz, qcdz, qcez, qcfz, qcgz, qchz, qciz, beq_true, beq_false, Bool.not_eq_true', decide_eq_true_eq, decide_eq_false_iff_not, decide_true, decide_false,
 Int.toNat_natCast, Int.ofNat_lt, Int.ofNat_le, Int.natCast_inj, Bool.false_eq_true, Bool.true_eq_false, qcjz, List.getElem?_cons_zero, List.getElem?_cons_succ, qckz, Int.reduceToNat, Int.reduceLE, true_and, and_true, reduceCtorEq, or_false, false_or, or_true, Option.some.injEq, exists_eq_left', Bool.not_true, Bool.not_false, ne_eq, Int.reduceEq, not_true_eq_false, not_false_eq_true, Int.reduceLT, UInt8.reduceLT, UInt8.reduceLE, UInt8.reduceToNat]
            exact ⟨_, by omega, _, rfl, t6 _ h0 h2 h4 rfl h6⟩
        · rw [if_neg h34] at hpar
          obtain ⟨k2, hk2⟩ : ∃ k2, k2 = k1 + 1 + endI [59, 58, 44, 34] (x.drop (k1 + 1)) := ⟨_, rfl⟩
          have hk2e := endI_le (e := [59, 58, 44, 34]) (s := x.drop (k1 + 1))
          simp only [List.length_drop] at hk2e
          have hk2l : k2 ≤ x.length := by omega
          have hc2 := cutV_at (e := [59, 58, 44, 34]) (x := x) (f := k1 + 1) (by omega)
          rw [← hk2] at hc2
          rw [hc2] at hpar
          simp only at hpar
          have hpl := fun S : St => place_spec (st := S) (x := x) (e := [59, 58, 44, 34]) (f := k1 + 1) hl (by simp) (by omega)
          rw [← hk2] at hpl
          have hs2 := hslc (k1 + 1) k2 (by omega) hk2l
          obtain ⟨S1, a1, w1⟩ := hA8.st1 (off := 1) (v := .str ((x.take k2).drop (k1 + 1))) Leaf_str rfl (by simp)
          obtain ⟨v', s', S', t1, t2, t4, t5, t6⟩ := tail S1 _ k2 hpar (by omega) (by omega) (w1.kp st hk hle8) (w1.ot _ _ hne28 hA2) (w1.ot _ _ hne48 hA4) (w1.ot _ _ hne68 hA6) w1.at_ (ho.tks w1.tk)
          by_cases hk1lt : k1 + 1 < x.length
          · have hx34 : x.getD (k1 + 1) 0 ≠ 34 := fun q => h34 (by
              have hd : x.drop (k1 + 1) = x.getD (k1 + 1) 0 :: x.drop (k1 + 2) := by rw [List.drop_eq_getElem_cons hk1lt]; simp [List.getD, hk1lt]
              rw [hd, q]; simp)
            have hi2 := hidx (k1 + 1) hk1lt
            simp (maxSteps := 1000000) (disch := omega) only [h0, h2, h4, h6, h7, h8, add_n, len_s, hk1lt, hi2, hx34, hpl, hs2, faddrPV, Nat.zero_add, a1, t4, t5, hlit, freshT_eq, t1, t2, loopQ_normal, qaaz, qabz, qacz, qadz, qaez, qafz, qagz, qahz, qaiz, qajz, qakz, qalz, qamz, qanz, evOp, qaoz, qapz, qaqz, qarz, qasz, qatz, qauz, qavz,
 ↓reduceIte, Nat.reduceEqDiff, List.nil_append, List.cons_append, List.append_nil, List.map_cons, List.map_nil, qawz, qaxz, qayz, Option.map_some, Option.map_none, qazz, qbaz, qbbz, qbcz, qbdz, qbez, qbfz, qbgz, qbhz, qbiz, qbjz, qbkz, qblz, qbmz, qbnz, qboz,
 qbpz, qbqz, qbrz, qbsz, qbtz, qbuz, qbvz, qbwz, qbxz, qbyz, qbzz, qcaz, qcbz, qccz, qcdz, qcez, qcfz, qcgz, qchz, qciz, beq_true, beq_false, Bool.not_eq_true', decide_eq_true_eq, decide_eq_false_iff_not, decide_true, decide_false,
 Int.toNat_natCast, Int.ofNat_lt, Int.ofNat_le, Int.natCast_inj, Bool.false_eq_true, Bool.true_eq_false, qcjz, List.getElem?_cons_zero, List.getElem?_cons_succ, qckz, Int.reduceToNat, Int.reduceLE, true_and, and_true, reduceCtorEq, or_false, false_or, or_true, Option.some.injEq, exists_eq_left', Bool.not_true, Bool.not_false, ne_eq, Int.reduceEq, not_true_eq_false, not_false_eq_true, Int.reduceLT, UInt8.reduceLT, UInt8.reduceLE, UInt8.reduceToNat]
            exact ⟨_, by omega, _, rfl, t6 _ h0 h2 h4 rfl h6⟩
          · simp (maxSteps := 1000000) (disch := omega) only [h0, h2, h4, h6, h7, h8, add_n, len_s, hk1lt, hpl, hs2, faddrPV, Nat.zero_add, a1, t4, t5, hlit, freshT_eq, t1, t2, loopQ_normal, qaaz, qabz, qacz, qadz, qaez, qafz, qagz, qahz, qaiz, qajz, qakz, qalz, qamz, qanz, evOp, qaoz, qapz, qaqz, qarz, qasz, qatz, qauz, qavz,
 ↓reduceIte, Nat.reduceEqDiff, List.nil_append, List.cons_append, List.append_nil, List.map_cons, List.map_nil, qawz, qaxz, qayz, Option.map_some, Option.map_none, qazz, qbaz, qbbz, qbcz, qbdz, qbez, qbfz, qbgz, qbhz, qbiz, qbjz, qbkz, qblz, qbmz, qbnz, qboz,
 qbpz, qbqz, qbrz, qbsz, qbtz, qbuz, qbvz, qbwz, qbxz, qbyz, qbzz, qcaz, qcbz, qccz, qcdz, qcez, qcfz, qcgz, qchz, qciz, beq_true, beq_false, Bool.not_eq_true', decide_eq_true_eq, decide_eq_false_iff_not, decide_true, decide_false,
 Int.toNat_natCast, Int.ofNat_lt, Int.ofNat_le, Int.natCast_inj, Bool.false_eq_true, Bool.true_eq_false, qcjz, List.getElem?_cons_zero, List.getElem?_cons_succ, qckz, Int.reduceToNat, Int.reduceLE, true_and, and_true, reduceCtorEq, or_false, false_or, or_true, Option.some.injEq, exists_eq_left', Bool.not_true, Bool.not_false, ne_eq, Int.reduceEq, not_true_eq_false, not_false_eq_true, Int.reduceLT, UInt8.reduceLT, UInt8.reduceLE, UInt8.reduceToNat]
            exact ⟨_, by omega, _, rfl, t6 _ h0 h2 h4 rfl h6⟩
      · rw [if_neg h61] at hpar
        obtain ⟨S', q1, q2, q3⟩ := wr S hk hA2 hA4 (by rw [hg, hpar])
        simp (maxSteps := 1000000) (disch := omega) only [h0, h2, h4, h5, h6, h7, len_s, hkl, hi1, h61, q1, q2, qaaz, qabz, qacz, qadz, qaez, qafz, qagz, qahz, qaiz, qajz, qakz, qalz, qamz, qanz, evOp, qaoz, qapz, qaqz, qarz, qasz, qatz, qauz, qavz,
 ↓reduceIte, Nat.reduceEqDiff, List.nil_append, List.cons_append, List.append_nil, List.map_cons, List.map_nil, qawz, qaxz, qayz, Option.map_some, Option.map_none, qazz, qbaz, qbbz, qbcz, qbdz, qbez, qbfz, qbgz, qbhz, qbiz, qbjz, qbkz, qblz, qbmz, qbnz, qboz,
 qbpz, qbqz, qbrz, qbsz, qbtz, qbuz, qbvz, qbwz, qbxz, qbyz, qbzz, qcaz, qcbz, qccz, qcdz, qcez, qcfz, qcgz, qchz, qciz, beq_true, beq_false, Bool.not_eq_true', decide_eq_true_eq, decide_eq_false_iff_not, decide_true, decide_false,
 Int.toNat_natCast, Int.ofNat_lt, Int.ofNat_le, Int.natCast_inj, Bool.false_eq_true, Bool.true_eq_false, qcjz, List.getElem?_cons_zero, List.getElem?_cons_succ, qckz, Int.reduceToNat, Int.reduceLE, true_and, and_true, reduceCtorEq, or_false, false_or, or_true, Option.some.injEq, exists_eq_left', Bool.not_true, Bool.not_false, ne_eq, Int.reduceEq, not_true_eq_false, not_false_eq_true, Int.reduceLT, UInt8.reduceLT, UInt8.reduceLE, UInt8.reduceToNat]
        exact q3 _ h2 rfl
    · have hex : ∀ E : Env, E 0 = .str x → E 2 = .ptr b2 0 → E 4 = .ptr b4 0 → E 5 = .int .i64 (at_ : Int) → E 6 = .ptr b6 0 → QQ .normal E S := fun E k0 k2 k4 k5 k6 => by
        rw [hQQ]
        exact .inl ⟨rfl, at_, by rw [hJ]; exact ⟨fuel, acc, pv, hat, hf, hal, hps, hg, hk, hA2, hA4, hA6, ho, hn, k0, k2, k4, k5, k6⟩, hb⟩
      by_cases hlt : at_ < x.length
      · have hi0 := hidx at_ hlt
        have h59 : x.getD at_ 0 ≠ 59 := fun q => hb ⟨hlt, q⟩
        simp (maxSteps := 1000000) (disch := omega) only [h0, h5, len_s, hlt, hi0, h59, qaaz, qabz, qacz, qadz, qaez, qafz, qagz, qahz, qaiz, qajz, qakz, qalz, qamz, qanz, evOp, qaoz, qapz, qaqz, qarz, qasz, qatz, qauz, qavz,
 ↓reduceIte, Nat.reduceEqDiff, List.nil_append, List.cons_append, List.append_nil, List.map_cons, List.map_nil, qawz, qaxz, qayz, Option.map_some, Option.map_none, qazz, qbaz, qbbz, qbcz, qbdz, qbez, qbfz, qbgz, qbhz, qbiz, qbjz, qbkz, qblz, qbmz, qbnz, qboz,
 qbpz, qbqz, qbrz, qbsz, qbtz, qbuz, qbvz, qbwz, qbxz, qbyz, qbzz, qcaz, qcbz, qccz, qcdz, qcez, qcfz, qcgz, qchz, qciz, beq_true, beq_false, Bool.not_eq_true', decide_eq_true_eq, decide_eq_false_iff_not, decide_true, decide_false,
 Int.toNat_natCast, Int.ofNat_lt, Int.ofNat_le, Int.natCast_inj, Bool.false_eq_true, Bool.true_eq_false, qcjz, List.getElem?_cons_zero, List.getElem?_cons_succ, qckz, Int.reduceToNat, Int.reduceLE, true_and, and_true, reduceCtorEq, or_false, false_or, or_true, Option.some.injEq, exists_eq_left', Bool.not_true, Bool.not_false, ne_eq, Int.reduceEq, not_true_eq_false, not_false_eq_true, Int.reduceLT, UInt8.reduceLT, UInt8.reduceLE, UInt8.reduceToNat]
        exact hex _ h0 h2 h4 h5 h6
      · simp (maxSteps := 1000000) (disch := omega) only [h0, h5, len_s, hlt, qaaz, qabz, qacz, qadz, qaez, qafz, qagz, qahz, qaiz, qajz, qakz, qalz, qamz, qanz, evOp, qaoz, qapz, qaqz, qarz, qasz, qatz, qauz, qavz,
 ↓reduceIte, Nat.reduceEqDiff, List.nil_append, List.cons_append, List.append_nil, List.map_cons, List.map_nil, qawz, qaxz, qayz, Option.map_some, Option.map_none, qazz, qbaz, qbbz, qbcz, qbdz, qbez, qbfz, qbgz, qbhz, qbiz, qbjz, qbkz, qblz, qbmz, qbnz, qboz,
 qbpz, qbqz, qbrz, qbsz, qbtz, qbuz, qbvz, qbwz, qbxz, qbyz, qbzz, qcaz, qcbz, qccz, qcdz, qcez, qcfz, qcgz, qchz, qciz, beq_true, beq_false, Bool.not_eq_true', decide_eq_true_eq, decide_eq_false_iff_not, decide_true, decide_false,
 Int.toNat_natCast, Int.ofNat_lt, Int.ofNat_le, Int.natCast_inj, Bool.false_eq_true, Bool.true_eq_false, qcjz, List.getElem?_cons_zero, List.getElem?_cons_succ, qckz, Int.reduceToNat, Int.reduceLE, true_and, and_true, reduceCtorEq, or_false, false_or, or_true, Option.some.injEq, exists_eq_left', Bool.not_true, Bool.not_false, ne_eq, Int.reduceEq, not_true_eq_false, not_false_eq_true, Int.reduceLT, UInt8.reduceLT, UInt8.reduceLE, UInt8.reduceToNat]
        exact hex _ h0 h2 h4 h5 h6
  · clear hk hA2 hA4 hA6 h0 h2 h4 h5 h6
    rintro e S ⟨at_, hh, hno⟩
    rw [hJ] at hh
    obtain ⟨fuel, acc, pv, hat, hf, hal, hps, hg, hk, hA2, hA4, hA6, ho, hn, h0, h2, h4, h5, h6⟩ := hh
    have h59 : x.getD at_ 0 ≠ 59 := fun q => hno ⟨by
      rcases Nat.lt_or_ge at_ x.length with h | h
      · exact h
      · simp [List.getD, h] at q, q⟩
    obtain ⟨f, rfl⟩ : ∃ f, fuel = f + 1 := ⟨fuel - 1, by omega⟩
    rw [goL, if_neg h59] at hg
    by_cases hlt : at_ < x.length
    · have hi0 := hidx at_ hlt
      by_cases h58 : x.getD at_ 0 = 58
      · rw [if_pos h58] at hg
        rw [hg] at hone
        rw [h58] at hi0
        have hs1 : slcPV 0 (.str x) (some (.int .i64 ((at_ + 1 : Nat) : Int))) none none = some (.str (x.drop (at_ + 1))) := by rw [slc_s_lo (by omega) (by omega), Int.toNat_natCast]
        obtain ⟨S1, a1, w1⟩ := hA6.st1 (off := 2) (v := .str (x.drop (at_ + 1))) Leaf_str rfl (by simp)
        have k1 := w1.kp st hk hle6
        have k2 := w1.ot _ _ hne26 hA2
        have k4 := w1.ot _ _ hne46 hA4
        have k6 : At S1 b6 [.str nm, pv, .str (x.drop (at_ + 1))] := w1.at_
        have ko := ho.tks w1.tk
        have hok : (⟨nm, pv, acc, x.drop (at_ + 1)⟩ : Ln).okR := ⟨own_vs ko, (own_leaf ko).2, (own_leaf ko).1.2, hnl, by simp only [List.length_drop]; omega, by simp only; omega, hps⟩
        have hrt := fun S : St => rRightR_spec (st := S) hok
        simp only [lV] at hrt
        rw [rtB_pv (w := .nils)] at hrt
        simp only [oneG] at hone
        have e1 : ¬ (x.length : Int) ≤ (at_ : Int) := by omega
        cases hrb : rtB ⟨nm, .nils, acc, x.drop (at_ + 1)⟩ with
        | true =>
          rw [hrb] at hrt hone
          rw [if_pos rfl] at hone
          rw [hZ] at k2
          obtain ⟨S2, a2, w2⟩ := k2.st3 (v0 := .str nm) (v1 := pv) (v2 := .str (x.drop (at_ + 1))) rfl (own_leaf ko).1.2 rfl rfl ((own_leaf ko).2 _) rfl
          simp (maxSteps := 1000000) (disch := omega) only [h0, h2, h4, h5, h6, len_s, e1, hi0, add_n, hs1, faddrPV, Nat.zero_add, a1, k6.ld3, hrt, a2, qaaz, qabz, qacz, qadz, qaez, qafz, qagz, qahz, qaiz, qajz, qakz, qalz, qamz, qanz, evOp, qaoz, qapz, qaqz, qarz, qasz, qatz, qauz, qavz,
 ↓reduceIte, Nat.reduceEqDiff, List.nil_append, List.cons_append, List.append_nil, List.map_cons, List.map_nil, qawz, qaxz, qayz, Option.map_some, Option.map_none, qazz, qbaz, qbbz, qbcz, qbdz, qbez, qbfz, qbgz, qbhz, qbiz, qbjz, qbkz, qblz, qbmz, qbnz, qboz,
 qbpz, qbqz, qbrz, qbsz, qbtz, qbuz, qbvz, qbwz, qbxz, qbyz, qbzz, qcaz, qcbz, qccz, qcdz, qcez, qcfz, qcgz, qchz, qciz, beq_true, beq_false, Bool.not_eq_true', decide_eq_true_eq, decide_eq_false_iff_not, decide_true, decide_false,
 Int.toNat_natCast, Int.ofNat_lt, Int.ofNat_le, Int.natCast_inj, Bool.false_eq_true, Bool.true_eq_false, qcjz, List.getElem?_cons_zero, List.getElem?_cons_succ, qckz, Int.reduceToNat, Int.reduceLE, true_and, and_true, reduceCtorEq, or_false, false_or, or_true, Option.some.injEq, exists_eq_left', Bool.not_true, Bool.not_false, ne_eq, Int.reduceEq, not_true_eq_false, not_false_eq_true, Int.reduceLT, UInt8.reduceLT, UInt8.reduceLE, UInt8.reduceToNat]
          exact fin _ _ _ _ _ _ (w2.kp st k1 (by omega)) (ko.tks w2.tk) hn w2.at_ hone h2 rfl
        | false =>
          rw [hrb] at hrt hone
          rw [if_neg (by simp)] at hone
          obtain ⟨S', q1, q2, q3⟩ := bd S1 b4 k1 k2 k4 hone
          simp (maxSteps := 1000000) (disch := omega) only [h0, h2, h4, h5, h6, len_s, e1, hi0, add_n, hs1, faddrPV, Nat.zero_add, a1, k6.ld3, hrt, q1, q2, qaaz, qabz, qacz, qadz, qaez, qafz, qagz, qahz, qaiz, qajz, qakz, qalz, qamz, qanz, evOp, qaoz, qapz, qaqz, qarz, qasz, qatz, qauz, qavz,
 ↓reduceIte, Nat.reduceEqDiff, List.nil_append, List.cons_append, List.append_nil, List.map_cons, List.map_nil, qawz, qaxz, qayz, Option.map_some, Option.map_none, qazz, qbaz, qbbz, qbcz, qbdz, qbez, qbfz, qbgz, qbhz, qbiz, qbjz, qbkz, qblz, qbmz, qbnz, qboz,
 qbpz, qbqz, qbrz, qbsz, qbtz, qbuz, qbvz, qbwz, qbxz, qbyz, qbzz, qcaz, qcbz, qccz, qcdz, qcez, qcfz, qcgz, qchz, qciz, beq_true, beq_false, Bool.not_eq_true', decide_eq_true_eq, decide_eq_false_iff_not, decide_true, decide_false,
 Int.toNat_natCast, Int.ofNat_lt, Int.ofNat_le, Int.natCast_inj, Bool.false_eq_true, Bool.true_eq_false, qcjz, List.getElem?_cons_zero, List.getElem?_cons_succ, qckz, Int.reduceToNat, Int.reduceLE, true_and, and_true, reduceCtorEq, or_false, false_or, or_true, Option.some.injEq, exists_eq_left', Bool.not_true, Bool.not_false, ne_eq, Int.reduceEq, not_true_eq_false, not_false_eq_true, Int.reduceLT, UInt8.reduceLT, UInt8.reduceLE, UInt8.reduceToNat]
          exact q3 _ h2 rfl
      · rw [if_neg h58] at hg
        obtain ⟨S', q1, q2, q3⟩ := bd S b4 hk hA2 hA4 (hnone hg)
        have e1 : ¬ (x.length : Int) ≤ (at_ : Int) := by omega
        simp (maxSteps := 1000000) (disch := omega) only [h0, h2, h4, h5, h6, len_s, e1, hi0, h58, q1, q2, qaaz, qabz, qacz, qadz, qaez, qafz, qagz, qahz, qaiz, qajz, qakz, qalz, qamz, qanz, evOp, qaoz, qapz, qaqz, qarz, qasz, qatz, qauz, qavz,
 ↓reduceIte, Nat.reduceEqDiff, List.nil_append, List.cons_append, List.append_nil, List.map_cons, List.map_nil, qawz, qaxz, qayz, Option.map_some, Option.map_none, qazz, qbaz, qbbz, qbcz, qbdz, qbez, qbfz, qbgz, qbhz, qbiz, qbjz, qbkz, qblz, qbmz, qbnz, qboz,
 qbpz, qbqz, qbrz, qbsz, qbtz, qbuz, qbvz, qbwz, qbxz, qbyz, qbzz, qcaz, qcbz, qccz, qcdz, qcez, qcfz, qcgz, qchz, qciz, beq_true, beq_false, Bool.not_eq_true', decide_eq_true_eq, decide_eq_false_iff_not, decide_true, decide_false,
 Int.toNat_natCast, Int.ofNat_lt, Int.ofNat_le, Int.natCast_inj, Bool.false_eq_true, Bool.true_eq_false, qcjz, List.getElem?_cons_zero, List.getElem?_cons_succ, qckz, Int.reduceToNat, Int.reduceLE, true_and, and_true, reduceCtorEq, or_false, false_or, or_true, Option.some.injEq, exists_eq_left', Bool.not_true, Bool.not_false, ne_eq, Int.reduceEq, not_true_eq_false, not_false_eq_true, Int.reduceLT, UInt8.reduceLT, UInt8.reduceLE, UInt8.reduceToNat]
        exact q3 _ h2 rfl
    · have h58 : x.getD at_ 0 ≠ 58 := by simp [List.getD, show x.length ≤ at_ by omega]
      rw [if_neg h58] at hg
      obtain ⟨S', q1, q2, q3⟩ := bd S b4 hk hA2 hA4 (hnone hg)
      have e1 : (x.length : Int) ≤ (at_ : Int) := by omega
      simp (maxSteps := 1000000) (disch := omega) only [h0, h2, h4, h5, h6, len_s, e1, q1, q2, qaaz, qabz, qacz, qadz, qaez, qafz, qagz, qahz, qaiz, qajz, qakz, qalz, qamz, qanz, evOp, qaoz, qapz, qaqz, qarz, qasz, qatz, qauz, qavz,
 ↓reduceIte, Nat.reduceEqDiff, List.nil_append, List.cons_append, List.append_nil, List.map_cons, List.map_nil, qawz, qaxz, qayz, Option.map_some, Option.map_none, qazz, qbaz, qbbz, qbcz, qbdz, qbez, qbfz, qbgz, qbhz, qbiz, qbjz, qbkz, qblz, qbmz, qbnz, qboz,
 qbpz, qbqz, qbrz, qbsz, qbtz, qbuz, qbvz, qbwz, qbxz, qbyz, qbzz, qcaz, qcbz, qccz, qcdz, qcez, qcfz, qcgz, qchz, qciz, beq_true, beq_false, Bool.not_eq_true', decide_eq_true_eq, decide_eq_false_iff_not, decide_true, decide_false,
 Int.toNat_natCast, Int.ofNat_lt, Int.ofNat_le, Int.natCast_inj, Bool.false_eq_true, Bool.true_eq_false, qcjz, List.getElem?_cons_zero, List.getElem?_cons_succ, qckz, Int.reduceToNat, Int.reduceLE, true_and, and_true, reduceCtorEq, or_false, false_or, or_true, Option.some.injEq, exists_eq_left', Bool.not_true, Bool.not_false, ne_eq, Int.reduceEq, not_true_eq_false, not_false_eq_true, Int.reduceLT, UInt8.reduceLT, UInt8.reduceLE, UInt8.reduceToNat]
      exact q3 _ h2 rfl
end Go.Ab

/-
  Lines are read by the document, walked; equal lines.
-/
namespace Go.Ab
set_option linter.unusedVariables false
set_option linter.unusedSimpArgs false
set_option maxRecDepth 20000
variable {st s : St} {e : Env}

theorem unfV_at {l : Bs} {i : Nat} (hi : i < l.length) : unfV (l.drop i) = if pairAt l i = true ∧ i + 2 < l.length ∧ (l.getD (i + 2) 0 = 32 ∨ l.getD (i + 2) 0 = 9) then unfV (l.drop (i + 3)) else l.getD i 0 :: unfV (l.drop (i + 1)) := by
  have hd : ∀ j, j < l.length → l.drop j = l.getD j 0 :: l.drop (j + 1) := fun j hj => by
    rw [List.drop_eq_getElem_cons hj]; simp [List.getD, hj]
  by_cases h2 : i + 2 < l.length
  · rw [hd i hi, hd (i + 1) (by omega), hd (i + 2) h2, unfV]
    have : pairAt l i = decide (l.getD i 0 = 13 ∧ l.getD (i + 1) 0 = 10) := by simp only [pairAt, show i + 1 < l.length by omega, true_and]
    simp only [this, decide_eq_true_eq, h2, true_and, and_assoc]
  · rw [if_neg (by simp [h2])]
    by_cases h1 : i + 1 < l.length
    · have h3 : l.drop (i + 2) = [] := List.drop_of_length_le (by omega)
      rw [hd i hi, hd (i + 1) h1, h3]
      unfold unfV; simp
    · have h3 : l.drop (i + 1) = [] := List.drop_of_length_le (by omega)
      rw [hd i hi, h3, unfV_nil]
      unfold unfV; simp
theorem leaveK {S : St} {w : PV} {l : Bs} (hk : Kept st S) (hw : Mine st S w l) : repOK st l (leave st S w) := by
  have e1 := hk.bx; have e2 := hk.lp; have e3 := hk.tk; have e4 := hk.lw
  obtain ⟨⟨rfl, rfl⟩ | ⟨i, rfl, hi⟩, hm⟩ := hw
  · exact ⟨[], by simp [leave, PV.inB, e4, keepRes, keepVal, keepLeaf, e1, e2, e3], by simp [leave, PV.inB, e4, keepRes, keepVal, keepLeaf, PV.by]⟩
  · have hge := hm i rfl
    exact ⟨[true], by simp [leave, PV.inB, e4, keepRes, keepVal, keepLeaf, keepTok, hi, show ¬ i < st.toks.length by omega, e1, e2, e3], by simp [leave, PV.inB, e4, keepRes, keepVal, keepLeaf, keepTok, hi, show ¬ i < st.toks.length by omega, PV.by]⟩

set_option maxHeartbeats 2000000 in
theorem rUnfold_spec {y : PV} {l : Bs} (hy : y.by = some l) (hl : l.length ≤ 10000000) : ∃ r, call prog (.fn 98 []) [y] st = some r ∧ repOK st (unfV l) r := by
  refine call_ex prog_98 ?_
  unfold F_posthornref10_Unfold; dsimp only
  generalize hQ1 : endX st _ _ = Q0
  simp (maxSteps := 1000000) (disch := omega) only [qaaz, qabz, qacz, qadz, qaez, qafz, qagz, qahz, qaiz, qajz, qakz, qalz, qamz, qanz, evOp, qaoz, qapz, qaqz, qarz, qasz, qatz, qauz, qavz,
 ↓reduceIte, Nat.reduceEqDiff, List.nil_append, List.cons_append, List.append_nil, List.map_cons, List.map_nil, qawz, qaxz, qayz, Option.map_some, Option.map_none, qazz, qbaz, qbbz, qbcz, qbdz, qbez, qbfz, qbgz, qbhz, qbiz, qbjz, qbkz, qblz, qbmz, qbnz, qboz,
 qbpz, qbqz, qbrz, qbsz, qbtz, qbuz, qbvz, qbwz, qbxz, qbyz, qbzz, qcaz, qcbz, qccz, qcdz, qcez, qcfz, qcgz, qchz, qciz, beq_true, beq_false, Bool.not_eq_true', decide_eq_true_eq, decide_eq_false_iff_not, decide_true, decide_false,
 Int.toNat_natCast, Int.ofNat_lt, Int.ofNat_le, Int.natCast_inj, Bool.false_eq_true, Bool.true_eq_false, qcjz, List.getElem?_cons_zero, List.getElem?_cons_succ, qckz, Int.reduceToNat, Int.reduceLE, true_and, and_true, reduceCtorEq, or_false, false_or, or_true, Option.some.injEq, exists_eq_left', Bool.not_true, Bool.not_false, ne_eq, Int.reduceEq, not_true_eq_false, not_false_eq_true, Int.reduceLT, UInt8.reduceLT, UInt8.reduceLE, UInt8.reduceToNat]
  have fin : ∀ (E : Env) (S : St) (v : PV), Kept st S → Mine st S v (unfV l) → E 2 = v → Q0 .ret E S := fun E S v k1 k2 h => by
    rw [← hQ1]
    refine ⟨.inr rfl, v, ?_, leaveK k1 k2⟩
    obtain ⟨⟨rfl, _⟩ | ⟨i, rfl, _⟩, _⟩ := k2 <;> simp [resOf, rvAll, rv1, h, notTup, packRes]
  obtain ⟨I, hI⟩ : ∃ I : Nat → Env → St → Prop, I = fun k E S => ∃ (i : Nat) (v : PV) (o : Bs), k = l.length - i ∧ i ≤ l.length ∧ o.length ≤ i ∧ Kept st S ∧ Mine st S v o ∧ unfV l = o ++ unfV (l.drop i) ∧ E 0 = y ∧ E 3 = v ∧ E 4 = .int .i64 (i : Int) := ⟨_, rfl⟩
  refine W_loop I ?_ (n := l.length) (by
    rw [hI]
    exact ⟨0, .nils, [], rfl, by omega, by simp, Kept.start, Mine.nil, rfl, rfl, rfl, rfl⟩)
  intro k E S hh
  rw [hI] at hh
  obtain ⟨i, v, o, rfl, hi, hol, hk, hm, hu, h0, h3, h4⟩ := hh
  by_cases hlt : i < l.length
  · obtain ⟨c, hc⟩ : ∃ c, c = l.getD i 0 := ⟨_, rfl⟩
    have hia := iaddr_by (k := .i64) (c := (i : Int)) hy (by omega) (by rw [Int.toNat_natCast]; exact hlt)
    rw [Int.toNat_natCast, ← hc] at hia
    have hpr := fun S : St => Pair_spec (st := S) (i := i) hy (by omega)
    have hstep := unfV_at hlt
    rw [← hc] at hstep
    obtain ⟨w, S2, a1, k1, k2⟩ := hk.push (c := c) hm (by simp [room]; omega)
    have push : ∀ E : Env, ¬ (pairAt l i = true ∧ i + 2 < l.length ∧ (l.getD (i + 2) 0 = 32 ∨ l.getD (i + 2) 0 = 9)) → E 0 = y → E 3 = w → E 4 = .int .i64 ((i + 1 : Nat) : Int) → ∃ m, m < l.length - i ∧ I m E S2 := fun E hno q0 q3 q4 => ⟨l.length - (i + 1), by omega, by
      rw [if_neg hno] at hstep
      rw [hI]
      exact ⟨i + 1, w, o ++ [c], rfl, by omega, by simp; omega, k1, k2, by rw [hu, hstep]; simp, q0, q3, q4⟩⟩
    have skip : ∀ E : Env, (pairAt l i = true ∧ i + 2 < l.length ∧ (l.getD (i + 2) 0 = 32 ∨ l.getD (i + 2) 0 = 9)) → E 0 = y → E 3 = v → E 4 = .int .i64 ((i + 2 + 1 : Nat) : Int) → ∃ m, m < l.length - i ∧ I m E S := fun E hno q0 q3 q4 => ⟨l.length - (i + 3), by omega, by
      rw [if_pos hno] at hstep
      rw [hI]
      exact ⟨i + 3, v, o, rfl, by omega, by omega, hk, hm, by rw [hu, hstep], q0, q3, q4⟩⟩
    cases hp : pairAt l i with
    | false =>
      rw [hp] at hpr
      simp (maxSteps := 1000000) (disch := omega) only [h0, h3, h4, len_by hy, hlt, hpr, hia, lit8_1, freshT_eq, a1, add_n, loopQ_normal, qaaz, qabz, qacz, qadz, qaez, qafz, qagz, qahz, qaiz, qajz, qakz, qalz, qamz, qanz, evOp, qaoz, qapz, qaqz, qarz, qasz, qatz, qauz, qavz,
 ↓reduceIte, Nat.reduceEqDiff, List.nil_append, List.cons_append, List.append_nil, List.map_cons, List.map_nil, qawz, qaxz, qayz, Option.map_some, Option.map_none, qazz, qbaz, qbbz, qbcz, qbdz, qbez, qbfz, qbgz, qbhz, qbiz, qbjz, qbkz, qblz, qbmz, qbnz, qboz,
 qbpz, qbqz, qbrz, qbsz, qbtz, qbuz, qbvz, qbwz, qbxz, qbyz, qbzz, qcaz, qcbz, qccz, qcdz, qcez, qcfz, qcgz, qchz, qciz, beq_true, beq_false, Bool.not_eq_true', decide_eq_true_eq, decide_eq_false_iff_not, decide_true, decide_false,
 Int.toNat_natCast, Int.ofNat_lt, Int.ofNat_le, Int.natCast_inj, Bool.false_eq_true, Bool.true_eq_false, qcjz, List.getElem?_cons_zero, List.getElem?_cons_succ, qckz, Int.reduceToNat, Int.reduceLE, true_and, and_true, reduceCtorEq, or_false, false_or, or_true, Option.some.injEq, exists_eq_left', Bool.not_true, Bool.not_false, ne_eq, Int.reduceEq, not_true_eq_false, not_false_eq_true, Int.reduceLT, UInt8.reduceLT, UInt8.reduceLE, UInt8.reduceToNat]
      exact push _ (by rw [hp]; simp) h0 rfl rfl
    | true =>
    rw [hp] at hpr
    by_cases h2 : i + 2 < l.length
    · obtain ⟨d, hd⟩ : ∃ d, d = l.getD (i + 2) 0 := ⟨_, rfl⟩
      have hia2 := iaddr_by (k := .i64) (c := ((i + 2 : Nat) : Int)) hy (by omega) (by rw [Int.toNat_natCast]; exact h2)
      rw [Int.toNat_natCast, ← hd] at hia2
      rw [← hd] at push skip
      by_cases h32 : d = 32
      · simp (maxSteps := 1000000) (disch := omega) only [h0, h3, h4, len_by hy, hlt, hpr, h2, hia2, eq_true h32, add_n, loopQ_normal, qaaz, qabz, qacz, qadz, qaez, qafz, qagz, qahz, qaiz, qajz, qakz, qalz, qamz, qanz, evOp, qaoz, qapz, qaqz, qarz, qasz, qatz, qauz, qavz,
 ↓reduceIte, Nat.reduceEqDiff, List.nil_append, List.cons_append, List.append_nil, List.map_cons, List.map_nil, qawz, qaxz, qayz, Option.map_some, Option.map_none, qazz, qbaz, qbbz, qbcz, qbdz, qbez, qbfz, qbgz, qbhz, qbiz, qbjz, qbkz, qblz, qbmz, qbnz, qboz,
 qbpz, qbqz, qbrz, qbsz, qbtz, qbuz, qbvz, qbwz, qbxz, qbyz, qbzz, qcaz, qcbz, qccz, qcdz, qcez, qcfz, qcgz, qchz, qciz, beq_true, beq_false, Bool.not_eq_true', decide_eq_true_eq, decide_eq_false_iff_not, decide_true, decide_false,
 Int.toNat_natCast, Int.ofNat_lt, Int.ofNat_le, Int.natCast_inj, Bool.false_eq_true, Bool.true_eq_false, qcjz, List.getElem?_cons_zero, List.getElem?_cons_succ, qckz, Int.reduceToNat, Int.reduceLE, true_and, and_true, reduceCtorEq, or_false, false_or, or_true, Option.some.injEq, exists_eq_left', Bool.not_true, Bool.not_false, ne_eq, Int.reduceEq, not_true_eq_false, not_false_eq_true, Int.reduceLT, UInt8.reduceLT, UInt8.reduceLE, UInt8.reduceToNat]
        exact skip _ ⟨hp, h2, .inl h32⟩ h0 h3 rfl
      · by_cases h9 : d = 9
        · simp (maxSteps := 1000000) (disch := omega) only [h0, h3, h4, len_by hy, hlt, hpr, h2, hia2, h32, eq_true h9, add_n, loopQ_normal, qaaz, qabz, qacz, qadz, qaez, qafz, qagz, qahz, qaiz, qajz, qakz, qalz, qamz, qanz, evOp, qaoz, qapz, qaqz, qarz, qasz, qatz, qauz, qavz,
 ↓reduceIte, Nat.reduceEqDiff, List.nil_append, List.cons_append, List.append_nil, List.map_cons, List.map_nil, qawz, qaxz, qayz, Option.map_some, Option.map_none, qazz, qbaz, qbbz, qbcz, qbdz, qbez, qbfz, qbgz, qbhz, qbiz, qbjz, qbkz, qblz, qbmz, qbnz, qboz,
 qbpz, qbqz, qbrz, qbsz, qbtz, qbuz, qbvz, qbwz, qbxz, qbyz, qbzz, qcaz, qcbz, qccz, qcdz, qcez, qcfz, qcgz, qchz, qciz, beq_true, beq_false, Bool.not_eq_true', decide_eq_true_eq, decide_eq_false_iff_not, decide_true, decide_false,
 Int.toNat_natCast, Int.ofNat_lt, Int.ofNat_le, Int.natCast_inj, Bool.false_eq_true, Bool.true_eq_false, qcjz, List.getElem?_cons_zero, List.getElem?_cons_succ, qckz, Int.reduceToNat, Int.reduceLE, true_and, and_true, reduceCtorEq, or_false, false_or, or_true, Option.some.injEq, exists_eq_left', Bool.not_true, Bool.not_false, ne_eq, Int.reduceEq, not_true_eq_false, not_false_eq_true, Int.reduceLT, UInt8.reduceLT, UInt8.reduceLE, UInt8.reduceToNat]
          exact skip _ ⟨hp, h2, .inr h9⟩ h0 h3 rfl
        · simp (maxSteps := 1000000) (disch := omega) only [h0, h3, h4, len_by hy, hlt, hpr, h2, hia2, h32, h9, hia, lit8_1, freshT_eq, a1, add_n, loopQ_normal, qaaz, qabz, qacz, qadz, qaez, qafz, qagz, qahz, qaiz, qajz, qakz, qalz, qamz, qanz, evOp, qaoz, qapz, qaqz, qarz, qasz, qatz, qauz, qavz,
 ↓reduceIte, Nat.reduceEqDiff, List.nil_append, List.cons_append, List.append_nil, List.map_cons, List.map_nil, qawz, qaxz, qayz, Option.map_some, Option.map_none, qazz, qbaz, qbbz, qbcz, qbdz, qbez, qbfz, qbgz, qbhz, qbiz, qbjz, qbkz, qblz, qbmz, qbnz, qboz,
 qbpz, qbqz, qbrz, qbsz, qbtz, qbuz, qbvz, qbwz, qbxz, qbyz, qbzz, qcaz, qcbz, qccz, qcdz, qcez, qcfz, qcgz, qchz, qciz, beq_true, beq_false, Bool.not_eq_true', decide_eq_true_eq, decide_eq_false_iff_not, decide_true, decide_false,
 Int.toNat_natCast, Int.ofNat_lt, Int.ofNat_le, Int.natCast_inj, Bool.false_eq_true, Bool.true_eq_false, qcjz, List.getElem?_cons_zero, List.getElem?_cons_succ, qckz, Int.reduceToNat, Int.reduceLE, true_and, and_true, reduceCtorEq, or_false, false_or, or_true, Option.some.injEq, exists_eq_left', Bool.not_true, Bool.not_false, ne_eq, Int.reduceEq, not_true_eq_false, not_false_eq_true, Int.reduceLT, UInt8.reduceLT, UInt8.reduceLE, UInt8.reduceToNat]
          exact push _ (by simp [h32, h9]) h0 rfl rfl
    · simp (maxSteps := 1000000) (disch := omega) only [h0, h3, h4, len_by hy, hlt, hpr, h2, hia, lit8_1, freshT_eq, a1, add_n, loopQ_normal, qaaz, qabz, qacz, qadz, qaez, qafz, qagz, qahz, qaiz, qajz, qakz, qalz, qamz, qanz, evOp, qaoz, qapz, qaqz, qarz, qasz, qatz, qauz, qavz,
 ↓reduceIte, Nat.reduceEqDiff, List.nil_append, List.cons_append, List.append_nil, List.map_cons, List.map_nil, qawz, qaxz, qayz, Option.map_some, Option.map_none, qazz, qbaz, qbbz, qbcz, qbdz, qbez, qbfz, qbgz, qbhz, qbiz, qbjz, qbkz, qblz, qbmz, qbnz, qboz,
 qbpz, qbqz, qbrz, qbsz, qbtz, qbuz, qbvz, qbwz, qbxz, qbyz, qbzz, qcaz, qcbz, qccz, qcdz, qcez, qcfz, qcgz, qchz, qciz, beq_true, beq_false, Bool.not_eq_true', decide_eq_true_eq, decide_eq_false_iff_not, decide_true, decide_false,
 Int.toNat_natCast, Int.ofNat_lt, Int.ofNat_le, Int.natCast_inj, Bool.false_eq_true, Bool.true_eq_false, qcjz, List.getElem?_cons_zero, List.getElem?_cons_succ, qckz, Int.reduceToNat, Int.reduceLE, true_and, and_true, reduceCtorEq, or_false, false_or, or_true, Option.some.injEq, exists_eq_left', Bool.not_true, Bool.not_false, ne_eq, Int.reduceEq, not_true_eq_false, not_false_eq_true, Int.reduceLT, UInt8.reduceLT, UInt8.reduceLE, UInt8.reduceToNat]
      exact push _ (by simp [h2]) h0 rfl rfl
  · obtain rfl : i = l.length := by omega
    rw [List.drop_length, unfV_nil, List.append_nil] at hu
    simp (maxSteps := 1000000) (disch := omega) only [h0, h3, h4, len_by hy, hlt, qaaz, qabz, qacz, qadz, qaez, qafz, qagz, qahz, qaiz, qajz, qakz, qalz, qamz, qanz, evOp, qaoz, qapz, qaqz, qarz, qasz, qatz, qauz, qavz,
 ↓reduceIte, Nat.reduceEqDiff, List.nil_append, List.cons_append, List.append_nil, List.map_cons, List.map_nil, qawz, qaxz, qayz, Option.map_some, Option.map_none, qazz, qbaz, qbbz, qbcz, qbdz, qbez, qbfz, qbgz, qbhz, qbiz, qbjz, qbkz, qblz, qbmz, qbnz, qboz,
 qbpz, qbqz, qbrz, qbsz, qbtz, qbuz, qbvz, qbwz, qbxz, qbyz, qbzz, qcaz, qcbz, qccz, qcdz, qcez, qcfz, qcgz, qchz, qciz, beq_true, beq_false, Bool.not_eq_true', decide_eq_true_eq, decide_eq_false_iff_not, decide_true, decide_false,
 Int.toNat_natCast, Int.ofNat_lt, Int.ofNat_le, Int.natCast_inj, Bool.false_eq_true, Bool.true_eq_false, qcjz, List.getElem?_cons_zero, List.getElem?_cons_succ, qckz, Int.reduceToNat, Int.reduceLE, true_and, and_true, reduceCtorEq, or_false, false_or, or_true, Option.some.injEq, exists_eq_left', Bool.not_true, Bool.not_false, ne_eq, Int.reduceEq, not_true_eq_false, not_false_eq_true, Int.reduceLT, UInt8.reduceLT, UInt8.reduceLE, UInt8.reduceToNat]
    exact fin _ _ v hk (by rw [hu]; exact hm) rfl

theorem iaddr_ln3 {x : PV} {L : List (Nat × List UInt8 × Bool)} {k : IntKind} {i : Nat} (h : x.vs 3 = some (L.map lnV)) (h2 : i < L.length) : iaddrPV 3 x (.int k (i : Int)) = some (.cp [.int .i64 ((L.getD i (0, [], false)).1 : Int), .bys .no (L.getD i (0, [], false)).2.1, .bool (L.getD i (0, [], false)).2.2]) := by
  rw [iaddr_vs h (by omega) (by simpa using h2)]
  simp [List.getD, h2, lnV, PV.cells]
theorem fa3_0 {a b c : PV} : faddrPV 0 (.cp [a, b, c]) = some (.cp [a, b, c]) := rfl
theorem fa3_1 {a b c : PV} : faddrPV 1 (.cp [a, b, c]) = some (.cp [b, c]) := rfl
theorem fa3_2 {a b c : PV} : faddrPV 2 (.cp [a, b, c]) = some (.cp [c]) := rfl
theorem ldcp {a : PV} {r : List PV} : loadPV st false 1 (.cp (a :: r)) = some a := rfl
theorem newSl_vs3 {S : St} {xs : List PV} : (newSl S 3 xs).vs 3 = some xs := by
  unfold newSl
  split
  · rename_i h; subst h; simp [PV.vs]
  · simp [PV.vs]
theorem readG_drop {q : List (Nat × Bs × Bool)} {i : Nat} (hi : i < q.length) : readG (q.drop i) = match (if (q.getD i (0, [], false)).2.2 = true then oneL (q.getD i (0, [], false)).2.1 else none) with
    | none => .error (q.getD i (0, [], false)).1
    | some d => (match readG (q.drop (i + 1)) with
      | .ok l => .ok (d :: l)
      | .error j => .error j) := by
  have hd : q.drop i = q.getD i (0, [], false) :: q.drop (i + 1) := by
    rw [List.drop_eq_getElem_cons hi]; simp [List.getD, hi]
  rw [hd]
  obtain ⟨a, m, w⟩ := q.getD i (0, [], false)
  rfl

set_option maxHeartbeats 8000000 in
theorem rRead_spec {y : PV} {l : Bs} (hy : y.by = some l) (hl : l.length ≤ 1000000) (hN : (refLines (unfV l)).length ≤ 4096) : call prog (.fn 90 []) [y] st = some (readV st (readL l)) := by
  refine call_of_W prog_90 ?_
  unfold F_posthornref10_Read; dsimp only
  generalize hQ1 : endQ st _ _ = Q0
  have hQ0 : Q0 = endQ st [.tmp 2, .cell 3 true 2] (readV st (readL l)) := hQ1.symm
  clear hQ1
  obtain ⟨b3, hb3⟩ : ∃ b3, b3 = st.boxes.length := ⟨_, rfl⟩
  obtain ⟨u, hu⟩ : ∃ u, u = unfV l := ⟨_, rfl⟩
  have hul : u.length ≤ 1000000 := by rw [hu]; exact Nat.le_trans (unfV_len _ l (Nat.le_refl _)) hl
  rw [← hu] at hN
  have hrd : readL l = match ptsOf (u.length + 1) u 0 with
    | .error j => .error (j, 20)
    | .ok _ => (match readG (refLines u) with
      | .ok l => .ok l
      | .error j => .error (j, 90)) := by rw [hu]; rfl
  have finE : ∀ (E : Env) (S : St) (j : Nat) (c : Int), Kept st S → At S b3 [.int .i64 (j : Int), .int .i64 c] → readL l = .error (j, c) → E 2 = .nils → E 3 = .ptr b3 0 → Q0 .ret E S := by
    intro E S j c k1 k3 ho e2 e3
    rw [hQ0, qblz]
    refine ⟨.tup [.nils, .agg [.int .i64 (j : Int), .int .i64 c]], by simp [resOf, rvAll, rv1, e2, e3, k3.ld2, notTup, packRes], ?_⟩
    rw [ho]
    exact k1.leave' ⟨fun _ => rfl, fun _ _ => rfl⟩
  have finO : ∀ (E : Env) (S : St) (out : PV) (ds : List LnD), Kept st S → At S b3 [.int .i64 0, .int .i64 0] → Own st S 3 out (ds.map dV) → (ds.map dV = [] → out = .nils) → readL l = .ok ds → E 2 = out → E 3 = .ptr b3 0 → Q0 .ret E S := by
    intro E S out ds k1 k3 ko kn ho e2 e3
    rw [hQ0, qblz]
    refine ⟨.tup [out, .agg [.int .i64 0, .int .i64 0]], by rcases ko with ⟨rfl, _⟩ | ⟨i, rfl, _⟩ <;> simp [resOf, rvAll, rv1, e2, e3, k3.ld2, notTup, packRes], ?_⟩
    rw [ho]
    exact leave_rows k1 ko kn
  refine W_cut (fun E S => Kept st S ∧ At S b3 [.int .i64 0, .int .i64 0] ∧ E 0 = y ∧ E 3 = .ptr b3 0) ?_ ?_
  · simp (maxSteps := 1000000) (disch := omega) only [allocPV, qaaz, qabz, qacz, qadz, qaez, qafz, qagz, qahz, qaiz, qajz, qakz, qalz, qamz, qanz, evOp, qaoz, qapz, qaqz, qarz, qasz, qatz, qauz, qavz,
 ↓reduceIte, Nat.reduceEqDiff, List.nil_append, List.cons_append, List.append_nil, List.map_cons, List.map_nil, qawz, qaxz, qayz, Option.map_some, Option.map_none, qazz, qbaz, qbbz, qbcz, qbdz, qbez, qbfz, qbgz, qbhz, qbiz, qbjz, qbkz, qblz, qbmz, qbnz, qboz,
 qbpz, qbqz, qbrz, qbsz, qbtz, qbuz, qbvz, qbwz, qbxz, qbyz, qbzz, qcaz, qcbz, qccz, qcdz, qcez, qcfz, qcgz, qchz, qciz, beq_true, beq_false, Bool.not_eq_true', decide_eq_true_eq, decide_eq_false_iff_not, decide_true, decide_false,
 Int.toNat_natCast, Int.ofNat_lt, Int.ofNat_le, Int.natCast_inj, Bool.false_eq_true, Bool.true_eq_false, qcjz, List.getElem?_cons_zero, List.getElem?_cons_succ, qckz, Int.reduceToNat, Int.reduceLE, true_and, and_true, reduceCtorEq, or_false, false_or, or_true, Option.some.injEq, exists_eq_left', Bool.not_true, Bool.not_false, ne_eq, Int.reduceEq, not_true_eq_false, not_false_eq_true, Int.reduceLT, UInt8.reduceLT, UInt8.reduceLE, UInt8.reduceToNat]
    exact ⟨Kept.start.alloc', by rw [hb3]; exact At.last (s := ⟨st.boxes, st.toks, st.loops, st.boxes.length⟩), by rw [hb3]⟩
  rintro e S ⟨hk, hA3, h0, h3⟩
  refine W_cut (fun E S => Kept st S ∧ At S b3 [.int .i64 0, .int .i64 0] ∧ E 0 = y ∧ E 3 = .ptr b3 0) ?_ ?_
  · have e1 : ¬ (1048576 : Int) < (l.length : Int) := by omega
    simp (maxSteps := 1000000) (disch := omega) only [h0, h3, len_by hy, e1, qaaz, qabz, qacz, qadz, qaez, qafz, qagz, qahz, qaiz, qajz, qakz, qalz, qamz, qanz, evOp, qaoz, qapz, qaqz, qarz, qasz, qatz, qauz, qavz,
 ↓reduceIte, Nat.reduceEqDiff, List.nil_append, List.cons_append, List.append_nil, List.map_cons, List.map_nil, qawz, qaxz, qayz, Option.map_some, Option.map_none, qazz, qbaz, qbbz, qbcz, qbdz, qbez, qbfz, qbgz, qbhz, qbiz, qbjz, qbkz, qblz, qbmz, qbnz, qboz,
 qbpz, qbqz, qbrz, qbsz, qbtz, qbuz, qbvz, qbwz, qbxz, qbyz, qbzz, qcaz, qcbz, qccz, qcdz, qcez, qcfz, qcgz, qchz, qciz, beq_true, beq_false, Bool.not_eq_true', decide_eq_true_eq, decide_eq_false_iff_not, decide_true, decide_false,
 Int.toNat_natCast, Int.ofNat_lt, Int.ofNat_le, Int.natCast_inj, Bool.false_eq_true, Bool.true_eq_false, qcjz, List.getElem?_cons_zero, List.getElem?_cons_succ, qckz, Int.reduceToNat, Int.reduceLE, true_and, and_true, reduceCtorEq, or_false, false_or, or_true, Option.some.injEq, exists_eq_left', Bool.not_true, Bool.not_false, ne_eq, Int.reduceEq, not_true_eq_false, not_false_eq_true, Int.reduceLT, UInt8.reduceLT, UInt8.reduceLE, UInt8.reduceToNat]
    exact ⟨hk, hA3⟩
  clear hk hA3 h0 h3
  rintro e S ⟨hk, hA3, h0, h3⟩
  refine W_cut (fun E S => Kept st S ∧ At S b3 [.int .i64 0, .int .i64 0] ∧ (∃ x, E 0 = x ∧ x.by = some u) ∧ E 3 = .ptr b3 0) ?_ ?_
  · obtain ⟨⟨x, S'⟩, q1, T, q2, q3⟩ := rUnfold_spec (st := S) hy (by omega)
    simp only at q2 q3
    rw [q2] at q1
    rw [← hu] at q3
    simp (maxSteps := 1000000) (disch := omega) only [h0, h3, q1, qaaz, qabz, qacz, qadz, qaez, qafz, qagz, qahz, qaiz, qajz, qakz, qalz, qamz, qanz, evOp, qaoz, qapz, qaqz, qarz, qasz, qatz, qauz, qavz,
 ↓reduceIte, Nat.reduceEqDiff, List.nil_append, List.cons_append, List.append_nil, List.map_cons, List.map_nil, qawz, qaxz, qayz, Option.map_some, Option.map_none, qazz, qbaz, qbbz, qbcz, qbdz, qbez, qbfz, qbgz, qbhz, qbiz, qbjz, qbkz, qblz, qbmz, qbnz, qboz,
 qbpz, qbqz, qbrz, qbsz, qbtz, qbuz, qbvz, qbwz, qbxz, qbyz, qbzz, qcaz, qcbz, qccz, qcdz, qcez, qcfz, qcgz, qchz, qciz, beq_true, beq_false, Bool.not_eq_true', decide_eq_true_eq, decide_eq_false_iff_not, decide_true, decide_false,
 Int.toNat_natCast, Int.ofNat_lt, Int.ofNat_le, Int.natCast_inj, Bool.false_eq_true, Bool.true_eq_false, qcjz, List.getElem?_cons_zero, List.getElem?_cons_succ, qckz, Int.reduceToNat, Int.reduceLE, true_and, and_true, reduceCtorEq, or_false, false_or, or_true, Option.some.injEq, exists_eq_left', Bool.not_true, Bool.not_false, ne_eq, Int.reduceEq, not_true_eq_false, not_false_eq_true, Int.reduceLT, UInt8.reduceLT, UInt8.reduceLE, UInt8.reduceToNat]
    exact ⟨hk.toks, hA3.bx rfl, q3⟩
  clear hk hA3 h0 h3
  rintro e S ⟨hk, hA3, ⟨x, h0, hx⟩, h3⟩
  obtain ⟨b5, hb5⟩ : ∃ b5, b5 = S.boxes.length := ⟨_, rfl⟩
  have hne35 : b3 ≠ b5 := by have := hA3.lt; omega
  have hle5 : st.boxes.length ≤ b5 := by have := hk.bl; omega
  have hpt := rPoints_spec (st := S) hx (by omega)
  -- the points
  refine W_cut (fun E S => ∃ (j : Nat) (c : Int), (match ptsOf (u.length + 1) u 0 with | .error j' => j = j' ∧ c = 20 | .ok _ => j = 0 ∧ c = 0) ∧ Kept st S ∧ At S b3 [.int .i64 0, .int .i64 0] ∧ At S b5 [.int .i64 ((j : Nat) : Int), .int .i64 c] ∧ E 0 = x ∧ E 3 = .ptr b3 0 ∧ E 5 = .ptr b5 0) ?_ ?_
  · cases hp : ptsOf (u.length + 1) u 0 with
    | error j =>
      rw [hp] at hpt
      simp only [ptsV] at hpt
      have hA5 := At.last (s := S) (z := [.int .i64 0, .int .i64 0]) (T := S.toks) (Lp := S.loops) (lo := S.low)
      rw [← hb5] at hA5
      obtain ⟨S1, a1, w1⟩ := hA5.st2 (v0 := .int .i64 (j : Int)) (v1 := .int .i64 20) rfl rfl rfl rfl
      simp (maxSteps := 1000000) (disch := omega) only [h0, h3, hpt, allocPV, ← hb5, a1, qaaz, qabz, qacz, qadz, qaez, qafz, qagz, qahz, qaiz, qajz, qakz, qalz, qamz, qanz, evOp, qaoz, qapz, qaqz, qarz, qasz, qatz, qauz, qavz,
 ↓reduceIte, Nat.reduceEqDiff, List.nil_append, List.cons_append, List.append_nil, List.map_cons, List.map_nil, qawz, qaxz, qayz, Option.map_some, Option.map_none, qazz, qbaz, qbbz, qbcz, qbdz, qbez, qbfz, qbgz, qbhz, qbiz, qbjz, qbkz, qblz, qbmz, qbnz, qboz,
 qbpz, qbqz, qbrz, qbsz, qbtz, qbuz, qbvz, qbwz, qbxz, qbyz, qbzz, qcaz, qcbz, qccz, qcdz, qcez, qcfz, qcgz, qchz, qciz, beq_true, beq_false, Bool.not_eq_true', decide_eq_true_eq, decide_eq_false_iff_not, decide_true, decide_false,
 Int.toNat_natCast, Int.ofNat_lt, Int.ofNat_le, Int.natCast_inj, Bool.false_eq_true, Bool.true_eq_false, qcjz, List.getElem?_cons_zero, List.getElem?_cons_succ, qckz, Int.reduceToNat, Int.reduceLE, true_and, and_true, reduceCtorEq, or_false, false_or, or_true, Option.some.injEq, exists_eq_left', Bool.not_true, Bool.not_false, ne_eq, Int.reduceEq, not_true_eq_false, not_false_eq_true, Int.reduceLT, UInt8.reduceLT, UInt8.reduceLE, UInt8.reduceToNat]
      exact ⟨j, 20, ⟨rfl, rfl⟩, w1.kp st hk.alloc' hle5, w1.ot _ _ hne35 hA3.alloc, w1.at_⟩
    | ok r =>
      rw [hp] at hpt
      simp only [ptsV] at hpt
      obtain ⟨S0, hS0⟩ : ∃ S0, S0 = newS S (r.map ptV).isEmpty := ⟨_, rfl⟩
      obtain ⟨nb, nl, np⟩ := newS_bx (S := S) (b := (r.map ptV).isEmpty)
      have k0 := hk.newS (b := (r.map ptV).isEmpty)
      rw [← hS0] at hpt nb nl np k0
      have hA5' := At.last (s := S0) (z := [.int .i64 0, .int .i64 0]) (T := S0.toks) (Lp := S0.loops) (lo := S0.low)
      have hb5' : b5 = S0.boxes.length := by rw [nb]; exact hb5
      rw [← hb5'] at hA5'
      obtain ⟨S1, a1, w1⟩ := hA5'.st2 (v0 := .int .i64 0) (v1 := .int .i64 0) rfl rfl rfl rfl
      simp (maxSteps := 1000000) (disch := omega) only [h0, h3, hpt, allocPV, ← hb5', a1, qaaz, qabz, qacz, qadz, qaez, qafz, qagz, qahz, qaiz, qajz, qakz, qalz, qamz, qanz, evOp, qaoz, qapz, qaqz, qarz, qasz, qatz, qauz, qavz,
 ↓reduceIte, Nat.reduceEqDiff, List.nil_append, List.cons_append, List.append_nil, List.map_cons, List.map_nil, qawz, qaxz, qayz, Option.map_some, Option.map_none, qazz, qbaz, qbbz, qbcz, qbdz, qbez, qbfz, qbgz, qbhz, qbiz, qbjz, qbkz, qblz, qbmz, qbnz, qboz,
 qbpz, qbqz, qbrz, qbsz, qbtz, qbuz, qbvz, qbwz, qbxz, qbyz, qbzz, qcaz, qcbz, qccz, qcdz, qcez, qcfz, qcgz, qchz, qciz, beq_true, beq_false, Bool.not_eq_true', decide_eq_true_eq, decide_eq_false_iff_not, decide_true, decide_false,
 Int.toNat_natCast, Int.ofNat_lt, Int.ofNat_le, Int.natCast_inj, Bool.false_eq_true, Bool.true_eq_false, qcjz, List.getElem?_cons_zero, List.getElem?_cons_succ, qckz, Int.reduceToNat, Int.reduceLE, true_and, and_true, reduceCtorEq, or_false, false_or, or_true, Option.some.injEq, exists_eq_left', Bool.not_true, Bool.not_false, ne_eq, Int.reduceEq, not_true_eq_false, not_false_eq_true, Int.reduceLT, UInt8.reduceLT, UInt8.reduceLE, UInt8.reduceToNat]
      exact ⟨0, 0, ⟨rfl, rfl⟩, w1.kp st k0.alloc' hle5, w1.ot _ _ hne35 (hA3.bx nb).alloc, w1.at_⟩
  clear hk hA3 h0 h3 hpt
  rintro e S ⟨j, c, hjc, hk, hA3, hA5, h0, h3, h5⟩
  refine W_cutX (fun E S => Kept st S ∧ At S b3 [.int .i64 0, .int .i64 0] ∧ (∃ r, ptsOf (u.length + 1) u 0 = .ok r) ∧ E 0 = x ∧ E 3 = .ptr b3 0) ?_ ?_
  · have hld := hA5.load (k := 1) (v := .int .i64 c) (r := []) rfl
    cases hp : ptsOf (u.length + 1) u 0 with
    | error j' =>
      rw [hp] at hjc hrd
      obtain ⟨rfl, rfl⟩ := hjc
      obtain ⟨S2, a2, w2⟩ := hA3.st2 (v0 := .int .i64 (j : Int)) (v1 := .int .i64 20) rfl rfl rfl rfl
      simp (maxSteps := 1000000) (disch := omega) only [h0, h3, h5, faddrPV, Nat.zero_add, hld, hA5.ld2, a2, qaaz, qabz, qacz, qadz, qaez, qafz, qagz, qahz, qaiz, qajz, qakz, qalz, qamz, qanz, evOp, qaoz, qapz, qaqz, qarz, qasz, qatz, qauz, qavz,
 ↓reduceIte, Nat.reduceEqDiff, List.nil_append, List.cons_append, List.append_nil, List.map_cons, List.map_nil, qawz, qaxz, qayz, Option.map_some, Option.map_none, qazz, qbaz, qbbz, qbcz, qbdz, qbez, qbfz, qbgz, qbhz, qbiz, qbjz, qbkz, qblz, qbmz, qbnz, qboz,
 qbpz, qbqz, qbrz, qbsz, qbtz, qbuz, qbvz, qbwz, qbxz, qbyz, qbzz, qcaz, qcbz, qccz, qcdz, qcez, qcfz, qcgz, qchz, qciz, beq_true, beq_false, Bool.not_eq_true', decide_eq_true_eq, decide_eq_false_iff_not, decide_true, decide_false,
 Int.toNat_natCast, Int.ofNat_lt, Int.ofNat_le, Int.natCast_inj, Bool.false_eq_true, Bool.true_eq_false, qcjz, List.getElem?_cons_zero, List.getElem?_cons_succ, qckz, Int.reduceToNat, Int.reduceLE, true_and, and_true, reduceCtorEq, or_false, false_or, or_true, Option.some.injEq, exists_eq_left', Bool.not_true, Bool.not_false, ne_eq, Int.reduceEq, not_true_eq_false, not_false_eq_true, Int.reduceLT, UInt8.reduceLT, UInt8.reduceLE, UInt8.reduceToNat]
      right
      exact finE _ _ j 20 (w2.kp st hk (by omega)) w2.at_ hrd rfl h3
    | ok r =>
      rw [hp] at hjc
      obtain ⟨rfl, rfl⟩ := hjc
      simp (maxSteps := 1000000) (disch := omega) only [h0, h3, h5, faddrPV, Nat.zero_add, hld, qaaz, qabz, qacz, qadz, qaez, qafz, qagz, qahz, qaiz, qajz, qakz, qalz, qamz, qanz, evOp, qaoz, qapz, qaqz, qarz, qasz, qatz, qauz, qavz,
 ↓reduceIte, Nat.reduceEqDiff, List.nil_append, List.cons_append, List.append_nil, List.map_cons, List.map_nil, qawz, qaxz, qayz, Option.map_some, Option.map_none, qazz, qbaz, qbbz, qbcz, qbdz, qbez, qbfz, qbgz, qbhz, qbiz, qbjz, qbkz, qblz, qbmz, qbnz, qboz,
 qbpz, qbqz, qbrz, qbsz, qbtz, qbuz, qbvz, qbwz, qbxz, qbyz, qbzz, qcaz, qcbz, qccz, qcdz, qcez, qcfz, qcgz, qchz, qciz, beq_true, beq_false, Bool.not_eq_true', decide_eq_true_eq, decide_eq_false_iff_not, decide_true, decide_false,
 Int.toNat_natCast, Int.ofNat_lt, Int.ofNat_le, Int.natCast_inj, Bool.false_eq_true, Bool.true_eq_false, qcjz, List.getElem?_cons_zero, List.getElem?_cons_succ, qckz, Int.reduceToNat, Int.reduceLE, true_and, and_true, reduceCtorEq, or_false, false_or, or_true, Option.some.injEq, exists_eq_left', Bool.not_true, Bool.not_false, ne_eq, Int.reduceEq, not_true_eq_false, not_false_eq_true, Int.reduceLT, UInt8.reduceLT, UInt8.reduceLE, UInt8.reduceToNat]
      left
      exact ⟨hk, hA3, ⟨r, rfl⟩⟩
  clear hk hA3 hA5 h0 h3 h5 hjc hle5 hne35 hb5 b5
  rintro e S ⟨hk, hA3, ⟨r0, hpt⟩, h0, h3⟩
  obtain ⟨W, hW⟩ : ∃ W, W = readG (refLines u) := ⟨_, rfl⟩
  rw [hpt, ← hW] at hrd
  simp only at hrd
  obtain ⟨Q, hQ⟩ : ∃ Q, Q = refLines u := ⟨_, rfl⟩
  rw [← hQ] at hW hN
  have hQl : ∀ q ∈ Q, q.2.1.length ≤ 1000000 := fun q hq => by rw [hQ] at hq; exact Nat.le_trans (refLines_each hq) hul
  refine W_cut (fun E S => Kept st S ∧ At S b3 [.int .i64 0, .int .i64 0] ∧ (∃ p, E 6 = p ∧ p.vs 3 = some (Q.map lnV)) ∧ E 3 = .ptr b3 0) ?_ ?_
  · have hln := Lines_big (st := S) hx (by omega)
    rw [← hQ] at hln
    obtain ⟨nb, nl, np⟩ := newS_bx (S := S) (b := (Q.map lnV).isEmpty)
    simp (maxSteps := 1000000) (disch := omega) only [h0, h3, hln, qaaz, qabz, qacz, qadz, qaez, qafz, qagz, qahz, qaiz, qajz, qakz, qalz, qamz, qanz, evOp, qaoz, qapz, qaqz, qarz, qasz, qatz, qauz, qavz,
 ↓reduceIte, Nat.reduceEqDiff, List.nil_append, List.cons_append, List.append_nil, List.map_cons, List.map_nil, qawz, qaxz, qayz, Option.map_some, Option.map_none, qazz, qbaz, qbbz, qbcz, qbdz, qbez, qbfz, qbgz, qbhz, qbiz, qbjz, qbkz, qblz, qbmz, qbnz, qboz,
 qbpz, qbqz, qbrz, qbsz, qbtz, qbuz, qbvz, qbwz, qbxz, qbyz, qbzz, qcaz, qcbz, qccz, qcdz, qcez, qcfz, qcgz, qchz, qciz, beq_true, beq_false, Bool.not_eq_true', decide_eq_true_eq, decide_eq_false_iff_not, decide_true, decide_false,
 Int.toNat_natCast, Int.ofNat_lt, Int.ofNat_le, Int.natCast_inj, Bool.false_eq_true, Bool.true_eq_false, qcjz, List.getElem?_cons_zero, List.getElem?_cons_succ, qckz, Int.reduceToNat, Int.reduceLE, true_and, and_true, reduceCtorEq, or_false, false_or, or_true, Option.some.injEq, exists_eq_left', Bool.not_true, Bool.not_false, ne_eq, Int.reduceEq, not_true_eq_false, not_false_eq_true, Int.reduceLT, UInt8.reduceLT, UInt8.reduceLE, UInt8.reduceToNat]
    exact ⟨hk.newS, hA3.bx nb, newSl_vs3⟩
  clear hk hA3 h0 h3
  rintro e S ⟨hk, hA3, ⟨p, h6, hp⟩, h3⟩
  refine W_cut (fun E S => Kept st S ∧ At S b3 [.int .i64 0, .int .i64 0] ∧ E 3 = .ptr b3 0 ∧ E 6 = p ∧ E 7 = .nils) ?_ ?_
  · simp (maxSteps := 1000000) (disch := omega) only [h3, h6, qaaz, qabz, qacz, qadz, qaez, qafz, qagz, qahz, qaiz, qajz, qakz, qalz, qamz, qanz, evOp, qaoz, qapz, qaqz, qarz, qasz, qatz, qauz, qavz,
 ↓reduceIte, Nat.reduceEqDiff, List.nil_append, List.cons_append, List.append_nil, List.map_cons, List.map_nil, qawz, qaxz, qayz, Option.map_some, Option.map_none, qazz, qbaz, qbbz, qbcz, qbdz, qbez, qbfz, qbgz, qbhz, qbiz, qbjz, qbkz, qblz, qbmz, qbnz, qboz,
 qbpz, qbqz, qbrz, qbsz, qbtz, qbuz, qbvz, qbwz, qbxz, qbyz, qbzz, qcaz, qcbz, qccz, qcdz, qcez, qcfz, qcgz, qchz, qciz, beq_true, beq_false, Bool.not_eq_true', decide_eq_true_eq, decide_eq_false_iff_not, decide_true, decide_false,
 Int.toNat_natCast, Int.ofNat_lt, Int.ofNat_le, Int.natCast_inj, Bool.false_eq_true, Bool.true_eq_false, qcjz, List.getElem?_cons_zero, List.getElem?_cons_succ, qckz, Int.reduceToNat, Int.reduceLE, true_and, and_true, reduceCtorEq, or_false, false_or, or_true, Option.some.injEq, exists_eq_left', Bool.not_true, Bool.not_false, ne_eq, Int.reduceEq, not_true_eq_false, not_false_eq_true, Int.reduceLT, UInt8.reduceLT, UInt8.reduceLE, UInt8.reduceToNat]
    exact ⟨hk, hA3⟩
  clear hk hA3 h3 h6
  rintro e S ⟨hk, hA3, h3, h6, h7⟩
  obtain ⟨J, hJ⟩ : ∃ J : Nat → Env → St → Prop, J = fun i E S => ∃ out ds, i ≤ Q.length ∧ Kept st S ∧ At S b3 [.int .i64 0, .int .i64 0] ∧ Own st S 3 out (ds.map dV) ∧ (ds.map dV = [] → out = .nils) ∧ W = preE ds (readG (Q.drop i)) ∧ ds.length = i ∧ E 3 = .ptr b3 0 ∧ E 6 = p ∧ E 7 = out ∧ E 8 = .int .i64 (i : Int) := ⟨_, rfl⟩
  refine W_cutX (J Q.length) ?_ ?_
  · obtain ⟨QQ, hQQ⟩ : ∃ QQ : Ex → Env → St → Prop, QQ = fun xx e' s' => (xx = .normal ∧ J Q.length e' s') ∨ (xx ≠ .normal ∧ Q0 xx e' s') := ⟨_, rfl⟩
    rw [← hQQ]
    have wr : ∀ (S : St) (j : Nat), Kept st S → At S b3 [.int .i64 0, .int .i64 0] → W = .error j → ∃ S', storePV S 2 (.ptr b3 0) (.agg [.int .i64 (j : Int), .int .i64 90]) = some S' ∧ ∀ E : Env, E 2 = .nils → E 3 = .ptr b3 0 → QQ .ret E S' := fun S j k1 k3 kw => by
      obtain ⟨S2, a2, w2⟩ := k3.st2 (v0 := .int .i64 (j : Int)) (v1 := .int .i64 90) rfl rfl rfl rfl
      refine ⟨S2, a2, fun E i2 i3 => ?_⟩
      rw [hQQ]
      exact .inr ⟨by simp, finE _ _ j 90 (w2.kp st k1 (by omega)) w2.at_ (by rw [hrd, kw]) i2 i3⟩
    rw [qaaz]
    simp (maxSteps := 1000000) (disch := omega) only [qaaz, qabz, qacz, qaez, qafz, qagz, qahz, qaiz, qajz, qakz, qalz, qamz, qanz, evOp, qaoz, qapz, qaqz, qarz, qasz, qatz, qauz, qavz,
 ↓reduceIte, Nat.reduceEqDiff, List.nil_append, List.cons_append, List.append_nil, List.map_cons, List.map_nil, qawz, qaxz, qayz, Option.map_some, Option.map_none, qazz, qbaz, qbbz, qbcz, qbdz, qbez, qbfz, qbgz, qbhz, qbiz, qbjz, qbkz, qblz, qbmz, qbnz, qboz,
 qbpz, qbqz, qbrz, qbsz, qbtz, qbuz, qbvz, qbwz, qbxz, qbyz, qbzz, qcaz, qcbz, qccz, qcdz, qcez, qcfz, qcgz, qchz, qciz, beq_true, beq_false, Bool.not_eq_true', decide_eq_true_eq, decide_eq_false_iff_not, decide_true, decide_false,
 Int.toNat_natCast, Int.ofNat_lt, Int.ofNat_le, Int.natCast_inj, Bool.false_eq_true, Bool.true_eq_false, qcjz, List.getElem?_cons_zero, List.getElem?_cons_succ, qckz, Int.reduceToNat, Int.reduceLE, true_and, and_true, reduceCtorEq, or_false, false_or, or_true, Option.some.injEq, exists_eq_left', Bool.not_true, Bool.not_false, ne_eq, Int.reduceEq, not_true_eq_false, not_false_eq_true, Int.reduceLT, UInt8.reduceLT, UInt8.reduceLE, UInt8.reduceToNat]
    rw [qadz]
    refine W_loop (fun n E S => ∃ i, n = Q.length - i ∧ J i E S) ?_ (n := Q.length) ⟨0, rfl, by
      rw [hJ]
      exact ⟨.nils, [], by omega, hk, hA3, .inl ⟨rfl, rfl⟩, fun _ => rfl, by rw [preE_nil]; exact hW, rfl, h3, h6, h7, rfl⟩⟩
    clear hk hA3 h3 h6 h7
    rintro n e S ⟨i, rfl, hh⟩
    have hJJ := hh
    rw [hJ] at hh
    obtain ⟨out, ds, hi, hk, hA3, ho, hn, hw, hdl, h3, h6, h7, h8⟩ := hh
    have hpl := len_vs hp
    rw [List.length_map] at hpl
    by_cases hlt : i < Q.length
    · obtain ⟨q, hq⟩ : ∃ q, q = Q.getD i (0, [], false) := ⟨_, rfl⟩
      have hqm : q ∈ Q := by rw [hq]; simp [List.getD, hlt]
      have hql := hQl q hqm
      have hia := iaddr_ln3 (k := .i64) hp hlt
      rw [← hq] at hia
      have hgd := readG_drop hlt
      rw [← hq] at hgd
      obtain ⟨a, m, w⟩ := q
      simp only at hia hgd hql
      have hone := rOne_spec (st := S) (x := m) (by omega)
      obtain ⟨b9, hb9⟩ : ∃ b9, b9 = S.boxes.length := ⟨_, rfl⟩
      have hne39 : b3 ≠ b9 := by have := hA3.lt; omega
      have hle9 : st.boxes.length ≤ b9 := by have := hk.bl; omega
      have hbm : (PV.bys .no m).by = some m := rfl
      cases hol : oneL m with
      | none =>
        rw [hol] at hone
        simp only [oneV] at hone
        have hwE : W = .error a := by rw [hw, hgd, hol]; cases w <;> rfl
        have hA9 := At.last (s := S) (z := [.str [], .nils, .str []]) (T := S.toks) (Lp := S.loops) (lo := S.low)
        rw [← hb9] at hA9
        obtain ⟨S2, a2, w2⟩ := hA9.st3 (v0 := .str []) (v1 := .nils) (v2 := .str []) rfl rfl rfl rfl rfl rfl
        obtain ⟨S3, q1, q2⟩ := wr S2 a (w2.kp st hk.alloc' hle9) (w2.ot _ _ hne39 hA3.alloc) hwE
        simp (maxSteps := 1000000) (disch := omega) only [h3, h6, h7, h8, hpl, hlt, hia, fa3_0, fa3_1, ldcp, b2s_by hbm, hone, allocPV, ← hb9, a2, build2 Leaf_int Leaf_int, q1, qaaz, qabz, qacz, qadz, qaez, qafz, qagz, qahz, qaiz, qajz, qakz, qalz, qamz, qanz, evOp, qaoz, qapz, qaqz, qarz, qasz, qatz, qauz, qavz,
 ↓reduceIte, Nat.reduceEqDiff, List.nil_append, List.cons_append, List.append_nil, List.map_cons, List.map_nil, qawz, qaxz, qayz, Option.map_some, Option.map_none, qazz, qbaz, qbbz, qbcz, qbdz, qbez, qbfz, qbgz, qbhz, qbiz, qbjz, qbkz, qblz, qbmz, qbnz, qboz,
 qbpz, qbqz, qbrz, qbsz, qbtz, qbuz, qbvz, qbwz, qbxz, qbyz, qbzz, qcaz, qcbz, qccz, qcdz, qcez, qcfz, qcgz, qchz, qciz, beq_true, beq_false, Bool.not_eq_true', decide_eq_true_eq, decide_eq_false_iff_not, decide_true, decide_false,
 Int.toNat_natCast, Int.ofNat_lt, Int.ofNat_le, Int.natCast_inj, Bool.false_eq_true, Bool.true_eq_false, qcjz, List.getElem?_cons_zero, List.getElem?_cons_succ, qckz, Int.reduceToNat, Int.reduceLE, true_and, and_true, reduceCtorEq, or_false, false_or, or_true, Option.some.injEq, exists_eq_left', Bool.not_true, Bool.not_false, ne_eq, Int.reduceEq, not_true_eq_false, not_false_eq_true, Int.reduceLT, UInt8.reduceLT, UInt8.reduceLE, UInt8.reduceToNat]
        exact q2 _ rfl h3
      | some d =>
        rw [hol] at hone
        simp only [oneV] at hone
        obtain ⟨S1, hS1⟩ : ∃ S1, S1 = newS S (d.2.1.map fV).isEmpty := ⟨_, rfl⟩
        obtain ⟨nb, nl, np⟩ := newS_bx (S := S) (b := (d.2.1.map fV).isEmpty)
        have n0 := hk.newS (b := (d.2.1.map fV).isEmpty)
        have no := ho.newS (b := (d.2.1.map fV).isEmpty)
        rw [← hS1] at hone nb nl np n0 no
        have hb9' : b9 = S1.boxes.length := by rw [nb]; exact hb9
        have hA9 := At.last (s := S1) (z := [.str [], .nils, .str []]) (T := S1.toks) (Lp := S1.loops) (lo := S1.low)
        rw [← hb9'] at hA9
        obtain ⟨lf1, lf2⟩ := newSl_leaf (S := S) (esz := 2) (xs := d.2.1.map fV)
        obtain ⟨S2, a2, w2⟩ := hA9.st3 (v0 := .str d.1) (v1 := newSl S 2 (d.2.1.map fV)) (v2 := .str d.2.2) rfl lf1 rfl rfl (lf2 _) rfl
        have m1 := w2.kp _ n0.alloc' hle9
        have m3 := w2.ot _ _ hne39 (hA3.bx nb).alloc
        have mo := no.tks (s' := S2) w2.tk
        cases w with
        | false =>
          have hwE : W = .error a := by rw [hw, hgd]; rfl
          obtain ⟨S3, q1, q2⟩ := wr S2 a m1 m3 hwE
          simp (maxSteps := 1000000) (disch := omega) only [h3, h6, h7, h8, hpl, hlt, hia, fa3_0, fa3_1, fa3_2, ldcp, b2s_by hbm, hone, allocPV, ← hb9', a2, build2 Leaf_int Leaf_int, q1, qaaz, qabz, qacz, qadz, qaez, qafz, qagz, qahz, qaiz, qajz, qakz, qalz, qamz, qanz, evOp, qaoz, qapz, qaqz, qarz, qasz, qatz, qauz, qavz,
 ↓reduceIte, Nat.reduceEqDiff, List.nil_append, List.cons_append, List.append_nil, List.map_cons, List.map_nil, qawz, qaxz, qayz, Option.map_some, Option.map_none, qazz, qbaz, qbbz, qbcz, qbdz, qbez, qbfz, qbgz, qbhz, qbiz, qbjz, qbkz, qblz, qbmz, qbnz, qboz,
 qbpz, qbqz, qbrz, qbsz, qbtz, qbuz, qbvz, qbwz, qbxz, qbyz, qbzz, qcaz, qcbz, qccz, qcdz, qcez, qcfz, qcgz, qchz, qciz, beq_true, beq_false, Bool.not_eq_true', decide_eq_true_eq, decide_eq_false_iff_not, decide_true, decide_false,
 Int.toNat_natCast, Int.ofNat_lt, Int.ofNat_le, Int.natCast_inj, Bool.false_eq_true, Bool.true_eq_false, qcjz, List.getElem?_cons_zero, List.getElem?_cons_succ, qckz, Int.reduceToNat, Int.reduceLE, true_and, and_true, reduceCtorEq, or_false, false_or, or_true, Option.some.injEq, exists_eq_left', Bool.not_true, Bool.not_false, ne_eq, Int.reduceEq, not_true_eq_false, not_false_eq_true, Int.reduceLT, UInt8.reduceLT, UInt8.reduceLE, UInt8.reduceToNat]
          exact q2 _ rfl h3
        | true =>
          have hwO : W = preE (ds ++ [d]) (readG (Q.drop (i + 1))) := by
            rw [hw, hgd, hol]
            simp only [if_true]
            cases readG (Q.drop (i + 1)) with
            | ok l' => simp [preE]
            | error j => rfl
          have hne : ¬ ((ds.map dV).length : Int) = 4096 := by simp only [List.length_map]; omega
          obtain ⟨v', s', q1, q2, q3, q4⟩ := m1.appV (u := dV d) (w := .undef) (v := out) (esz := 3) (xs := ds.map dV) mo (by simp [room]; omega)
          simp (maxSteps := 1000000) (disch := omega) only [h3, h6, h7, h8, hpl, hlt, hia, fa3_0, fa3_1, fa3_2, ldcp, b2s_by hbm, hone, allocPV, ← hb9', a2, own_len mo, hne, w2.at_.ld3, lit_line, freshT_eq, q1, add_n, loopQ_normal, qaaz, qabz, qacz, qadz, qaez, qafz, qagz, qahz, qaiz, qajz, qakz, qalz, qamz, qanz, evOp, qaoz, qapz, qaqz, qarz, qasz, qatz, qauz, qavz,
 ↓reduceIte, Nat.reduceEqDiff, List.nil_append, List.cons_append, List.append_nil, List.map_cons, List.map_nil, qawz, qaxz, qayz, Option.map_some, Option.map_none, qazz, qbaz, qbbz, qbcz, qbdz, qbez, qbfz, qbgz, qbhz, qbiz, qbjz, qbkz, qblz, qbmz, qbnz, qboz,
 qbpz, qbqz, qbrz, qbsz, qbtz, qbuz, qbvz, qbwz, qbxz, qbyz, qbzz, qcaz, qcbz, qccz, qcdz, qcez, qcfz, qcgz, qchz, qciz, beq_true, beq_false, Bool.not_eq_true', decide_eq_true_eq, decide_eq_false_iff_not, decide_true, decide_false,
 Int.toNat_natCast, Int.ofNat_lt, Int.ofNat_le, Int.natCast_inj, Bool.false_eq_true, Bool.true_eq_false, qcjz, List.getElem?_cons_zero, List.getElem?_cons_succ, qckz, Int.reduceToNat, Int.reduceLE, true_and, and_true, reduceCtorEq, or_false, false_or, or_true, Option.some.injEq, exists_eq_left', Bool.not_true, Bool.not_false, ne_eq, Int.reduceEq, not_true_eq_false, not_false_eq_true, Int.reduceLT, UInt8.reduceLT, UInt8.reduceLE, UInt8.reduceToNat]
          refine ⟨_, ?_, i + 1, rfl, ?_⟩
          · omega
          rw [hJ]
          exact ⟨v', ds ++ [d], by omega, q2, m3.bx q4, by simpa using q3, fun h => by simp at h, hwO, by simp [hdl], h3, h6, rfl, rfl⟩
    · obtain rfl : i = Q.length := by omega
      simp (maxSteps := 1000000) (disch := omega) only [h3, h6, h7, h8, hpl, hlt, qaaz, qabz, qacz, qadz, qaez, qafz, qagz, qahz, qaiz, qajz, qakz, qalz, qamz, qanz, evOp, qaoz, qapz, qaqz, qarz, qasz, qatz, qauz, qavz,
 ↓reduceIte, Nat.reduceEqDiff, List.nil_append, List.cons_append, List.append_nil, List.map_cons, List.map_nil, qawz, qaxz, qayz, Option.map_some, Option.map_none, qazz, qbaz, qbbz, qbcz, qbdz, qbez, qbfz, qbgz, qbhz, qbiz, qbjz, qbkz, qblz, qbmz, qbnz, qboz,
 qbpz, qbqz, qbrz, qbsz, qbtz, qbuz, qbvz, qbwz, qbxz, qbyz, qbzz, qcaz, qcbz, qccz, qcdz, qcez, qcfz, qcgz, qchz, qciz, beq_true, beq_false, Bool.not_eq_true', decide_eq_true_eq, decide_eq_false_iff_not, decide_true, decide_false,
 Int.toNat_natCast, Int.ofNat_lt, Int.ofNat_le, Int.natCast_inj, Bool.false_eq_true, Bool.true_eq_false, qcjz, List.getElem?_cons_zero, List.getElem?_cons_succ, qckz, Int.reduceToNat, Int.reduceLE, true_and, and_true, reduceCtorEq, or_false, false_or, or_true, Option.some.injEq, exists_eq_left', Bool.not_true, Bool.not_false, ne_eq, Int.reduceEq, not_true_eq_false, not_false_eq_true, Int.reduceLT, UInt8.reduceLT, UInt8.reduceLE, UInt8.reduceToNat]
      rw [hQQ]
      left
      refine ⟨rfl, ?_⟩
      rw [hJ]
      exact ⟨out, ds, hi, hk, hA3, ho, hn, hw, hdl, h3, h6, h7, h8⟩
  · clear hk hA3 h3 h6 h7
    rintro e S hh
    rw [hJ] at hh
    obtain ⟨out, ds, hi, hk, hA3, ho, hn, hw, hdl, h3, h6, h7, h8⟩ := hh
    rw [List.drop_length] at hw
    obtain ⟨S2, a2, w2⟩ := hA3.st2 (v0 := .int .i64 0) (v1 := .int .i64 0) rfl rfl rfl rfl
    simp (maxSteps := 1000000) (disch := omega) only [h3, h7, build0i, a2, qaaz, qabz, qacz, qadz, qaez, qafz, qagz, qahz, qaiz, qajz, qakz, qalz, qamz, qanz, evOp, qaoz, qapz, qaqz, qarz, qasz, qatz, qauz, qavz,
 ↓reduceIte, Nat.reduceEqDiff, List.nil_append, List.cons_append, List.append_nil, List.map_cons, List.map_nil, qawz, qaxz, qayz, Option.map_some, Option.map_none, qazz, qbaz, qbbz, qbcz, qbdz, qbez, qbfz, qbgz, qbhz, qbiz, qbjz, qbkz, qblz, qbmz, qbnz, qboz,
 qbpz, qbqz, qbrz, qbsz, qbtz, qbuz, qbvz, qbwz, qbxz, qbyz, qbzz, qcaz, qcbz, qccz, qcdz, qcez, qcfz, qcgz, qchz, qciz, beq_true, beq_false, Bool.not_eq_true', decide_eq_true_eq, decide_eq_false_iff_not, decide_true, decide_false,
 Int.toNat_natCast, Int.ofNat_lt, Int.ofNat_le, Int.natCast_inj, Bool.false_eq_true, Bool.true_eq_false, qcjz, List.getElem?_cons_zero, List.getElem?_cons_succ, qckz, Int.reduceToNat, Int.reduceLE, true_and, and_true, reduceCtorEq, or_false, false_or, or_true, Option.some.injEq, exists_eq_left', Bool.not_true, Bool.not_false, ne_eq, Int.reduceEq, not_true_eq_false, not_false_eq_true, Int.reduceLT, UInt8.reduceLT, UInt8.reduceLE, UInt8.reduceToNat]
    exact finO _ _ out ds (w2.kp st hk (by omega)) w2.at_ (ho.tks w2.tk) hn (by rw [hrd, hw]; simp [preE, readG]) rfl h3
end Go.Ab

/-
  The sheet's values: escaped, unescaped; the program's and the document's answers.
-/
namespace Go.Ab
set_option linter.unusedVariables false
set_option linter.unusedSimpArgs false
variable {st : St} {e : Env}

def escC (c : UInt8) : List UInt8 := if c = 10 then [92, 110] else if c = 92 ∨ c = 59 ∨ c = 44 then [92, c] else [c]
def escOf (s : List UInt8) : List UInt8 := s.flatMap escC
theorem escC_len {c : UInt8} : (escC c).length ≤ 2 := by
  unfold escC
  split
  · simp
  · split <;> simp
theorem escOf_len : ∀ {s : List UInt8}, (escOf s).length ≤ 2 * s.length := by
  intro s
  induction s with
  | nil => simp [escOf]
  | cons c r ih => have := escC_len (c := c); simp only [escOf, List.flatMap_cons, List.length_append, List.length_cons] at ih ⊢; omega
theorem escC_ne {c : UInt8} : escC c ≠ [] := by
  unfold escC; split
  · simp
  · split <;> simp
theorem escOf_take {l : List UInt8} {i : Nat} (h : i < l.length) : escOf (l.take (i + 1)) = escOf (l.take i) ++ escC (l.getD i 0) := by
  rw [take_getD h]; simp [escOf]

theorem Escape_spec {s : List UInt8} (h : s.length ≤ 1000000) : call prog (.fn 43 []) [.str s] st = some (.str (escOf s), st) := by
  refine call_of_W prog_43 ?_
  unfold F_sheet_Escape; dsimp only
  simp (maxSteps := 1000000) (disch := omega) only [allocPV, len_s, qaaz, qabz, qacz, qadz, qaez, qafz, qagz, qahz, qaiz, qajz, qakz, qalz, qamz, qanz, evOp, qaoz, qapz, qaqz, qarz, qasz, qatz, qauz, qavz,
 ↓reduceIte, Nat.reduceEqDiff, List.nil_append, List.cons_append, List.append_nil, List.map_cons, List.map_nil, qawz, qaxz, qayz, Option.map_some, Option.map_none, qazz, qbaz, qbbz, qbcz, qbdz, qbez, qbfz, qbgz, qbhz, qbiz, qbjz, qbkz, qblz, qbmz, qbnz, qboz,
 qbpz, qbqz, qbrz, qbsz, qbtz, qbuz, qbvz, qbwz, qbxz, qbyz, qbzz, qcaz, qcbz, qccz, qcdz, qcez, qcfz, qcgz, qchz, qciz, beq_true, beq_false, Bool.not_eq_true', decide_eq_true_eq, decide_eq_false_iff_not, decide_true, decide_false,
 Int.toNat_natCast, Int.ofNat_lt, Int.ofNat_le, Int.natCast_inj, Bool.false_eq_true, Bool.true_eq_false, qcjz, List.getElem?_cons_zero, List.getElem?_cons_succ, qckz, Int.reduceToNat, Int.reduceLE, true_and, and_true, reduceCtorEq, or_false, false_or, or_true, Option.some.injEq, exists_eq_left', Bool.not_true, Bool.not_false, ne_eq, Int.reduceEq, not_true_eq_false, not_false_eq_true, Int.reduceLT, UInt8.reduceLT, UInt8.reduceLE, UInt8.reduceToNat]
  obtain ⟨I, hI⟩ : ∃ I : Nat → Env → St → Prop, I = fun n e s' => ∃ (i : Nat) (x : PV), n = s.length - i ∧ i ≤ s.length ∧ Kept st s' ∧ Bu s' st.boxes.length x (escOf (s.take i)) ∧ (∀ t, tokOf x = some t → st.toks.length ≤ t) ∧ (escOf (s.take i) = [] → x = .nils) ∧ e 0 = .str s ∧ e 3 = .ptr st.boxes.length 0 ∧ e 6 = .int .i64 (s.length : Int) ∧ e 7 = .int .i64 (i : Int) := ⟨_, rfl⟩
  refine W_loop I ?_ (n := s.length) (by
    rw [hI]
    exact ⟨0, .nils, rfl, by omega, Kept.start.alloc, ⟨.inl (by simp), .inl ⟨rfl, by simp [escOf]⟩⟩, fun t h => (by cases h), fun _ => rfl, rfl, rfl, rfl, rfl⟩)
  intro n e s' hh
  rw [hI] at hh
  obtain ⟨i, x, rfl, hi, hk, hb, hm, hz, h0, h3, h6, h7⟩ := hh
  have hel := escOf_len (s := s.take i)
  have hel2 : (escOf (s.take i)).length ≤ 2000000 := by simp at hel; omega
  by_cases hlt : i < s.length
  · obtain ⟨c, hc⟩ : ∃ c, c = s.getD i 0 := ⟨_, rfl⟩
    have hnext : ∀ (E : Env) (S : St) (y : PV), Kept st S → Bu S st.boxes.length y (escOf (s.take (i + 1))) → (∀ t, tokOf y = some t → st.toks.length ≤ t) → E 0 = .str s → E 3 = .ptr st.boxes.length 0 → E 6 = .int .i64 (s.length : Int) → E 7 = .int .i64 ((i + 1 : Nat) : Int) → I (s.length - (i + 1)) E S := by
      intro E S y k1 k2 k3 k4 k5 k6 k7
      rw [hI]
      refine ⟨i + 1, y, rfl, by omega, k1, k2, k3, fun hh => ?_, k4, k5, k6, k7⟩
      rw [escOf_take hlt] at hh
      have := List.append_eq_nil_iff.1 hh
      exact absurd this.2 escC_ne
    have hesc := escOf_take hlt
    rw [← hc] at hesc
    by_cases h10 : c = 10
    · obtain ⟨y, s2, a1, a2⟩ := WriteString_spec (m := [92, 110]) hb (by simp [room]; omega)
      obtain ⟨k1, k2⟩ := hk.step a2 (Nat.le_refl _) hm
      have hesc2 : escOf (s.take (i + 1)) = escOf (s.take i) ++ [92, 110] := by rw [hesc, h10]; rfl
      have n1 : ¬ c = 92 := by rw [h10]; decide
      have n2 : ¬ c = 59 := by rw [h10]; decide
      have n3 : ¬ c = 44 := by rw [h10]; decide
      simp (maxSteps := 1000000) (disch := omega) only [h0, h3, h6, h7, hlt, idx_s, ← hc, eq_true h10, n1, n2, n3, a1, add_n, qaaz, qabz, qacz, qadz, qaez, qafz, qagz, qahz, qaiz, qajz, qakz, qalz, qamz, qanz, evOp, qaoz, qapz, qaqz, qarz, qasz, qatz, qauz, qavz,
 ↓reduceIte, Nat.reduceEqDiff, List.nil_append, List.cons_append, List.append_nil, List.map_cons, List.map_nil, qawz, qaxz, qayz, Option.map_some, Option.map_none, qazz, qbaz, qbbz, qbcz, qbdz, qbez, qbfz, qbgz, qbhz, qbiz, qbjz, qbkz, qblz, qbmz, qbnz, qboz,
 qbpz, qbqz, qbrz, qbsz, qbtz, qbuz, qbvz, qbwz, qbxz, qbyz, qbzz, qcaz, qcbz, qccz, qcdz, qcez, qcfz, qcgz, qchz, qciz, beq_true, beq_false, Bool.not_eq_true', decide_eq_true_eq, decide_eq_false_iff_not, decide_true, decide_false,
 Int.toNat_natCast, Int.ofNat_lt, Int.ofNat_le, Int.natCast_inj, Bool.false_eq_true, Bool.true_eq_false, qcjz, List.getElem?_cons_zero, List.getElem?_cons_succ, qckz, Int.reduceToNat, Int.reduceLE, true_and, and_true, reduceCtorEq, or_false, false_or, or_true, Option.some.injEq, exists_eq_left', Bool.not_true, Bool.not_false, ne_eq, Int.reduceEq, not_true_eq_false, not_false_eq_true, Int.reduceLT, UInt8.reduceLT, UInt8.reduceLE, UInt8.reduceToNat]
      exact loopQ_intro (m := s.length - (i + 1)) (by omega) (hnext _ _ y k1 (by rw [hesc2]; exact a2.bu hb.lt) k2 h0 h3 h6 rfl)
    · by_cases hs : c = 92 ∨ c = 59 ∨ c = 44
      · obtain ⟨y, s2, a1, a2⟩ := WriteByte_spec (c := 92) hb (by simp [room]; omega)
        obtain ⟨k1, k2⟩ := hk.step a2 (Nat.le_refl _) hm
        obtain ⟨z, s3, b1, b2⟩ := WriteByte_spec (c := c) (a2.bu hb.lt) (by simp [room]; omega)
        obtain ⟨k3, k4⟩ := k1.step b2 (Nat.le_refl _) k2
        have hlt2 : st.boxes.length < s2.boxes.length := by rw [a2.bx]; simpa using hb.lt
        have hesc2 : escOf (s.take (i + 1)) = escOf (s.take i) ++ [92] ++ [c] := by rw [hesc]; simp [escC, h10, hs]
        by_cases h92 : c = 92
        · simp (maxSteps := 1000000) (disch := omega) only [h0, h3, h6, h7, hlt, idx_s, ← hc, eq_true h92, a1, b1, add_n, qaaz, qabz, qacz, qadz, qaez, qafz, qagz, qahz, qaiz, qajz, qakz, qalz, qamz, qanz, evOp, qaoz, qapz, qaqz, qarz, qasz, qatz, qauz, qavz,
 ↓reduceIte, Nat.reduceEqDiff, List.nil_append, List.cons_append, List.append_nil, List.map_cons, List.map_nil, qawz, qaxz, qayz, Option.map_some, Option.map_none, qazz, qbaz, qbbz, qbcz, qbdz, qbez, qbfz, qbgz, qbhz, qbiz, qbjz, qbkz, qblz, qbmz, qbnz, qboz,
 qbpz, qbqz, qbrz, qbsz, qbtz, qbuz, qbvz, qbwz, qbxz, qbyz, qbzz, qcaz, qcbz, qccz, qcdz, qcez, qcfz, qcgz, qchz, qciz, beq_true, beq_false, Bool.not_eq_true', decide_eq_true_eq, decide_eq_false_iff_not, decide_true, decide_false,
 Int.toNat_natCast, Int.ofNat_lt, Int.ofNat_le, Int.natCast_inj, Bool.false_eq_true, Bool.true_eq_false, qcjz, List.getElem?_cons_zero, List.getElem?_cons_succ, qckz, Int.reduceToNat, Int.reduceLE, true_and, and_true, reduceCtorEq, or_false, false_or, or_true, Option.some.injEq, exists_eq_left', Bool.not_true, Bool.not_false, ne_eq, Int.reduceEq, not_true_eq_false, not_false_eq_true, Int.reduceLT, UInt8.reduceLT, UInt8.reduceLE, UInt8.reduceToNat]
          exact loopQ_intro (m := s.length - (i + 1)) (by omega) (hnext _ _ z k3 (by rw [hesc2]; exact b2.bu hlt2) k4 h0 h3 h6 rfl)
        · by_cases h59 : c = 59
          · simp (maxSteps := 1000000) (disch := omega) only [h0, h3, h6, h7, hlt, idx_s, ← hc, h92, eq_true h59, a1, b1, add_n, qaaz, qabz, qacz, qadz, qaez, qafz, qagz, qahz, qaiz, qajz, qakz, qalz, qamz, qanz, evOp, qaoz, qapz, qaqz, qarz, qasz, qatz, qauz, qavz,
 ↓reduceIte, Nat.reduceEqDiff, List.nil_append, List.cons_append, List.append_nil, List.map_cons, List.map_nil, qawz, qaxz, qayz, Option.map_some, Option.map_none, qazz, qbaz, qbbz, qbcz, qbdz, qbez, qbfz, qbgz, qbhz, qbiz, qbjz, qbkz, qblz, qbmz, qbnz, qboz,
 qbpz, qbqz, qbrz, qbsz, qbtz, qbuz, qbvz, qbwz, qbxz, qbyz, qbzz, qcaz, qcbz, qccz, qcdz, qcez, qcfz, qcgz, qchz, qciz, beq_true, beq_false, Bool.not_eq_true', decide_eq_true_eq, decide_eq_false_iff_not, decide_true, decide_false,
 Int.toNat_natCast, Int.ofNat_lt, Int.ofNat_le, Int.natCast_inj, Bool.false_eq_true, Bool.true_eq_false, qcjz, List.getElem?_cons_zero, List.getElem?_cons_succ, qckz, Int.reduceToNat, Int.reduceLE, true_and, and_true, reduceCtorEq, or_false, false_or, or_true, Option.some.injEq, exists_eq_left', Bool.not_true, Bool.not_false, ne_eq, Int.reduceEq, not_true_eq_false, not_false_eq_true, Int.reduceLT, UInt8.reduceLT, UInt8.reduceLE, UInt8.reduceToNat]
            exact loopQ_intro (m := s.length - (i + 1)) (by omega) (hnext _ _ z k3 (by rw [hesc2]; exact b2.bu hlt2) k4 h0 h3 h6 rfl)
          · have h44 : c = 44 := by
              rcases hs with h | h | h
              · exact absurd h h92
              · exact absurd h h59
              · exact h
            simp (maxSteps := 1000000) (disch := omega) only [h0, h3, h6, h7, hlt, idx_s, ← hc, h92, h59, eq_true h44, a1, b1, add_n, qaaz, qabz, qacz, qadz, qaez, qafz, qagz, qahz, qaiz, qajz, qakz, qalz, qamz, qanz, evOp, qaoz, qapz, qaqz, qarz, qasz, qatz, qauz, qavz,
 ↓reduceIte, Nat.reduceEqDiff, List.nil_append, List.cons_append, List.append_nil, List.map_cons, List.map_nil, qawz, qaxz, qayz, Option.map_some, Option.map_none, qazz, qbaz, qbbz, qbcz, qbdz, qbez, qbfz, qbgz, qbhz, qbiz, qbjz, qbkz, qblz, qbmz, qbnz, qboz,
 qbpz, qbqz, qbrz, qbsz, qbtz, qbuz, qbvz, qbwz, qbxz, qbyz, qbzz, qcaz, qcbz, qccz, qcdz, qcez, qcfz, qcgz, qchz, qciz, beq_true, beq_false, Bool.not_eq_true', decide_eq_true_eq, decide_eq_false_iff_not, decide_true, decide_false,
 Int.toNat_natCast, Int.ofNat_lt, Int.ofNat_le, Int.natCast_inj, Bool.false_eq_true, Bool.true_eq_false, qcjz, List.getElem?_cons_zero, List.getElem?_cons_succ, qckz, Int.reduceToNat, Int.reduceLE, true_and, and_true, reduceCtorEq, or_false, false_or, or_true, Option.some.injEq, exists_eq_left', Bool.not_true, Bool.not_false, ne_eq, Int.reduceEq, not_true_eq_false, not_false_eq_true, Int.reduceLT, UInt8.reduceLT, UInt8.reduceLE, UInt8.reduceToNat]
            exact loopQ_intro (m := s.length - (i + 1)) (by omega) (hnext _ _ z k3 (by rw [hesc2]; exact b2.bu hlt2) k4 h0 h3 h6 rfl)
      · obtain ⟨y, s2, a1, a2⟩ := WriteByte_spec (c := c) hb (by simp [room]; omega)
        obtain ⟨k1, k2⟩ := hk.step a2 (Nat.le_refl _) hm
        have hesc2 : escOf (s.take (i + 1)) = escOf (s.take i) ++ [c] := by rw [hesc]; simp [escC, h10, hs]
        simp only [not_or] at hs
        simp (maxSteps := 1000000) (disch := omega) only [h0, h3, h6, h7, hlt, idx_s, ← hc, h10, hs.1, hs.2.1, hs.2.2, a1, add_n, qaaz, qabz, qacz, qadz, qaez, qafz, qagz, qahz, qaiz, qajz, qakz, qalz, qamz, qanz, evOp, qaoz, qapz, qaqz, qarz, qasz, qatz, qauz, qavz,
 ↓reduceIte, Nat.reduceEqDiff, List.nil_append, List.cons_append, List.append_nil, List.map_cons, List.map_nil, qawz, qaxz, qayz, Option.map_some, Option.map_none, qazz, qbaz, qbbz, qbcz, qbdz, qbez, qbfz, qbgz, qbhz, qbiz, qbjz, qbkz, qblz, qbmz, qbnz, qboz,
 qbpz, qbqz, qbrz, qbsz, qbtz, qbuz, qbvz, qbwz, qbxz, qbyz, qbzz, qcaz, qcbz, qccz, qcdz, qcez, qcfz, qcgz, qchz, qciz, beq_true, beq_false, Bool.not_eq_true', decide_eq_true_eq, decide_eq_false_iff_not, decide_true, decide_false,
 Int.toNat_natCast, Int.ofNat_lt, Int.ofNat_le, Int.natCast_inj, Bool.false_eq_true, Bool.true_eq_false, qcjz, List.getElem?_cons_zero, List.getElem?_cons_succ, qckz, Int.reduceToNat, Int.reduceLE, true_and, and_true, reduceCtorEq, or_false, false_or, or_true, Option.some.injEq, exists_eq_left', Bool.not_true, Bool.not_false, ne_eq, Int.reduceEq, not_true_eq_false, not_false_eq_true, Int.reduceLT, UInt8.reduceLT, UInt8.reduceLE, UInt8.reduceToNat]
        exact loopQ_intro (m := s.length - (i + 1)) (by omega) (hnext _ _ y k1 (by rw [hesc2]; exact a2.bu hb.lt) k2 h0 h3 h6 rfl)
  · obtain rfl : i = s.length := by omega
    rw [List.take_length] at hb hz
    obtain ⟨s2, b1, k2⟩ := hk.string (BString_spec hb hz (by simp only [room]; rw [List.take_length] at hel2; omega)) hm
    simp (maxSteps := 1000000) (disch := omega) only [h0, h3, h6, h7, hlt, b1, qaaz, qabz, qacz, qadz, qaez, qafz, qagz, qahz, qaiz, qajz, qakz, qalz, qamz, qanz, evOp, qaoz, qapz, qaqz, qarz, qasz, qatz, qauz, qavz,
 ↓reduceIte, Nat.reduceEqDiff, List.nil_append, List.cons_append, List.append_nil, List.map_cons, List.map_nil, qawz, qaxz, qayz, Option.map_some, Option.map_none, qazz, qbaz, qbbz, qbcz, qbdz, qbez, qbfz, qbgz, qbhz, qbiz, qbjz, qbkz, qblz, qbmz, qbnz, qboz,
 qbpz, qbqz, qbrz, qbsz, qbtz, qbuz, qbvz, qbwz, qbxz, qbyz, qbzz, qcaz, qcbz, qccz, qcdz, qcez, qcfz, qcgz, qchz, qciz, beq_true, beq_false, Bool.not_eq_true', decide_eq_true_eq, decide_eq_false_iff_not, decide_true, decide_false,
 Int.toNat_natCast, Int.ofNat_lt, Int.ofNat_le, Int.natCast_inj, Bool.false_eq_true, Bool.true_eq_false, qcjz, List.getElem?_cons_zero, List.getElem?_cons_succ, qckz, Int.reduceToNat, Int.reduceLE, true_and, and_true, reduceCtorEq, or_false, false_or, or_true, Option.some.injEq, exists_eq_left', Bool.not_true, Bool.not_false, ne_eq, Int.reduceEq, not_true_eq_false, not_false_eq_true, Int.reduceLT, UInt8.reduceLT, UInt8.reduceLE, UInt8.reduceToNat]
    exact ⟨.str (escOf s), rfl, k2.leave rfl (fun _ _ => rfl)⟩
end Go.Ab

/-
  Equal lines; what must come of fixed calls.
-/
namespace Go.Ab
set_option linter.unusedVariables false
set_option linter.unusedSimpArgs false
set_option maxRecDepth 20000
variable {st s : St} {e : Env}

theorem eqc_s {a b c d : Bs} : eqPV (.struct [.s, .s]) (.agg [.str a, .str b]) (.agg [.str c, .str d]) = some (decide (a = c ∧ b = d)) := by
  have h : eqPV (.struct [.s, .s]) (.agg [.str a, .str b]) (.agg [.str c, .str d]) = some ((a == c) && (b == d)) := by
    simp only [eqPV, eqCells, eqLeaf]
    cases (a == c) <;> cases (b == d) <;> rfl
  rw [h]; by_cases h1 : a = c <;> by_cases h2 : b = d <;> simp [h1, h2]
theorem eqc_i {a b c d : Int} : eqPV (.struct [.i, .i]) (.agg [.int .i64 a, .int .i64 b]) (.agg [.int .i64 c, .int .i64 d]) = some (decide (a = c ∧ b = d)) := by
  have h : eqPV (.struct [.i, .i]) (.agg [.int .i64 a, .int .i64 b]) (.agg [.int .i64 c, .int .i64 d]) = some ((a == c) && (b == d)) := by
    simp only [eqPV, eqCells, eqLeaf, if_true]
    cases (a == c) <;> cases (b == d) <;> rfl
  rw [h]; by_cases h1 : a = c <;> by_cases h2 : b = d <;> simp [h1, h2]
theorem neq_f {a b c d : Bs} : binPV .neq (.struct [.s, .s]) (.agg [.str a, .str b]) (.agg [.str c, .str d]) = some (.bool (decide (¬ (a = c ∧ b = d)))) := by
  show (eqPV _ _ _).map (fun b => PV.bool !b) = _
  rw [eqc_s, decide_not]; rfl
theorem eql_f {a b c d : Bs} : binPV .eql (.struct [.s, .s]) (.agg [.str a, .str b]) (.agg [.str c, .str d]) = some (.bool (decide (a = c ∧ b = d))) := by
  show (eqPV _ _ _).map PV.bool = _
  rw [eqc_s]; rfl
theorem eql_i2 {a b c d : Int} : binPV .eql (.struct [.i, .i]) (.agg [.int .i64 a, .int .i64 b]) (.agg [.int .i64 c, .int .i64 d]) = some (.bool (decide (a = c ∧ b = d))) := by
  show (eqPV _ _ _).map PV.bool = _
  rw [eqc_i]; rfl

theorem list_ext0 {α : Type} {d : α} {a b : List α} (h1 : a.length = b.length) (h2 : ∀ j, j < a.length → a.getD j d = b.getD j d) : a = b := by
  apply List.ext_getElem h1
  intro i i1 i2
  have := h2 i i1
  simpa [List.getD, i1, i2] using this
def sameLB (As Cs : List Ln) : Bool := decide (As.map ofLn = Cs.map ofLn)
theorem same_len {As Cs : List Ln} (h : As.map ofLn = Cs.map ofLn) : As.length = Cs.length := by simpa using congrArg List.length h
theorem same_get {As Cs : List Ln} (h : As.map ofLn = Cs.map ofLn) (j : Nat) : ofLn (As.getD j L0) = ofLn (Cs.getD j L0) := by
  have h1 := congrArg (fun l => l.getD j (ofLn L0)) h
  simp only [List.getD, List.getElem?_map] at h1 ⊢
  cases hA : As[j]? <;> cases hC : Cs[j]? <;> simp_all
theorem same_of {As Cs : List Ln} (hl : As.length = Cs.length) (h : ∀ j, j < As.length → ofLn (As.getD j L0) = ofLn (Cs.getD j L0)) : As.map ofLn = Cs.map ofLn := by
  refine list_ext0 (d := ofLn L0) (by simpa using hl) fun j hj => ?_
  have i1 : j < As.length := by simpa using hj
  have i2 : j < Cs.length := by omega
  have := h j i1
  simpa [List.getD, i1, i2] using this

set_option maxHeartbeats 4000000 in
theorem SameL_spec {x y : PV} {As Cs : List Ln} (hx : x.vs 3 = some (As.map lV)) (hy : y.vs 3 = some (Cs.map lV)) (hA : ∀ L ∈ As, L.pv.vs 2 = some (L.ps.map fV) ∧ L.ps.length ≤ 1000000) (hC : ∀ L ∈ Cs, L.pv.vs 2 = some (L.ps.map fV)) (hl : As.length ≤ 1000000) :
    call prog (.fn 92 []) [x, y] st = some (.bool (sameLB As Cs), st) := by
  refine call_of_W prog_92 ?_
  unfold F_posthornref10_Same; dsimp only
  generalize hQ1 : endQ st _ _ = Q0
  have hxl := len_vs hx
  have hyl := len_vs hy
  rw [List.length_map] at hxl hyl
  have no : ∀ (E : Env) (S : St), Kept st S → As.map ofLn ≠ Cs.map ofLn → E 4 = .bool false → Q0 .ret E S := fun E S k h h4 => by
    rw [← hQ1, qblz]
    exact retB h4 k (by simp [sameLB, h])
  have yes : ∀ (E : Env) (S : St), Kept st S → As.map ofLn = Cs.map ofLn → E 4 = .bool true → Q0 .ret E S := fun E S k h h4 => by
    rw [← hQ1, qblz]
    exact retB h4 k (by simp [sameLB, h])
  by_cases hlen : As.length = Cs.length
  · have e1 : ((As.length : Int) = (Cs.length : Int)) := by omega
    simp (maxSteps := 1000000) (disch := omega) only [hxl, hyl, hlen, qaaz, qabz, qacz, qadz, qaez, qafz, qagz, qahz, qaiz, qajz, qakz, qalz, qamz, qanz, evOp, qaoz, qapz, qaqz, qarz, qasz, qatz, qauz, qavz,
 ↓reduceIte, Nat.reduceEqDiff, List.nil_append, List.cons_append, List.append_nil, List.map_cons, List.map_nil, qawz, qaxz, qayz, Option.map_some, Option.map_none, qazz, qbaz, qbbz, qbcz, qbdz, qbez, qbfz, qbgz, qbhz, qbiz, qbjz, qbkz, qblz, qbmz, qbnz, qboz,
 qbpz, qbqz, qbrz, qbsz, qbtz, qbuz, qbvz, qbwz, qbxz, qbyz, qbzz, qcaz, qcbz, qccz, qcdz, qcez, qcfz, qcgz, qchz, qciz, beq_true, beq_false, Bool.not_eq_true', decide_eq_true_eq, decide_eq_false_iff_not, decide_true, decide_false,
 Int.toNat_natCast, Int.ofNat_lt, Int.ofNat_le, Int.natCast_inj, Bool.false_eq_true, Bool.true_eq_false, qcjz, List.getElem?_cons_zero, List.getElem?_cons_succ, qckz, Int.reduceToNat, Int.reduceLE, true_and, and_true, reduceCtorEq, or_false, false_or, or_true, Option.some.injEq, exists_eq_left', Bool.not_true, Bool.not_false, ne_eq, Int.reduceEq, not_true_eq_false, not_false_eq_true, Int.reduceLT, UInt8.reduceLT, UInt8.reduceLE, UInt8.reduceToNat]
    obtain ⟨I, hI⟩ : ∃ I : Nat → Env → St → Prop, I = fun k E S => ∃ i : Nat, k = As.length - i ∧ i ≤ As.length ∧ Kept st S ∧ (∀ j, j < i → ofLn (As.getD j L0) = ofLn (Cs.getD j L0)) ∧ E 0 = x ∧ E 1 = y ∧ E 5 = .int .i64 (i : Int) := ⟨_, rfl⟩
    refine W_loop I ?_ (n := As.length) (by
      rw [hI]; exact ⟨0, rfl, by omega, Kept.start, fun j hj => by omega, rfl, rfl, rfl⟩)
    intro k E S hh
    rw [hI] at hh
    obtain ⟨i, rfl, hi, hk, hall, h0, h1, h5⟩ := hh
    by_cases hlt : i < As.length
    · have hltC : i < Cs.length := by omega
      obtain ⟨A, hAe⟩ : ∃ A, A = As.getD i L0 := ⟨_, rfl⟩
      obtain ⟨C, hCe⟩ : ∃ C, C = Cs.getD i L0 := ⟨_, rfl⟩
      have hAm : A ∈ As := by rw [hAe]; simp [List.getD, hlt]
      have hCm : C ∈ Cs := by rw [hCe]; simp [List.getD, hltC]
      have hia := iaddr_L (k := .i64) (c := (i : Int)) hx (by omega) (by rw [Int.toNat_natCast]; exact hlt)
      have hic := iaddr_L (k := .i64) (c := (i : Int)) hy (by omega) (by rw [Int.toNat_natCast]; exact hltC)
      rw [Int.toNat_natCast, ← hAe] at hia
      rw [Int.toNat_natCast, ← hCe] at hic
      obtain ⟨hAv, hApl⟩ := hA A hAm
      have hCv := hC C hCm
      have hAl := len_vs hAv
      have hCl := len_vs hCv
      rw [List.length_map] at hAl hCl
      have dif : ofLn A ≠ ofLn C → As.map ofLn ≠ Cs.map ofLn := fun h q => h (by rw [hAe, hCe]; exact same_get q i)
      by_cases hn : A.n = C.n
      · by_cases hv : A.v = C.v
        · by_cases hp : A.ps.length = C.ps.length
          · have ep : ((A.ps.length : Int) = (C.ps.length : Int)) := by omega
            simp (maxSteps := 1000000) (disch := omega) only [h0, h1, h5, hxl, hlt, hia, hic, fa3_0, fa3_1, fa3_2, ldcp, eq_true hn, eq_true hv, hAl, hCl, hp, qaaz, qabz, qacz, qadz, qaez, qafz, qagz, qahz, qaiz, qajz, qakz, qalz, qamz, qanz, evOp, qaoz, qapz, qaqz, qarz, qasz, qatz, qauz, qavz,
 ↓reduceIte, Nat.reduceEqDiff, List.nil_append, List.cons_append, List.append_nil, List.map_cons, List.map_nil, qawz, qaxz, qayz, Option.map_some, Option.map_none, qazz, qbaz, qbbz, qbcz, qbdz, qbez, qbfz, qbgz, qbhz, qbiz, qbjz, qbkz, qblz, qbmz, qbnz, qboz,
 qbpz, qbqz, qbrz, qbsz, qbtz, qbuz, qbvz, qbwz, qbxz, qbyz, qbzz, qcaz, qcbz, qccz, qcdz, qcez, qcfz, qcgz, qchz, qciz, beq_true, beq_false, Bool.not_eq_true', decide_eq_true_eq, decide_eq_false_iff_not, decide_true, decide_false,
 Int.toNat_natCast, Int.ofNat_lt, Int.ofNat_le, Int.natCast_inj, Bool.false_eq_true, Bool.true_eq_false, qcjz, List.getElem?_cons_zero, List.getElem?_cons_succ, qckz, Int.reduceToNat, Int.reduceLE, true_and, and_true, reduceCtorEq, or_false, false_or, or_true, Option.some.injEq, exists_eq_left', Bool.not_true, Bool.not_false, ne_eq, Int.reduceEq, not_true_eq_false, not_false_eq_true, Int.reduceLT, UInt8.reduceLT, UInt8.reduceLE, UInt8.reduceToNat]
            obtain ⟨II, hII⟩ : ∃ II : Nat → Env → St → Prop, II = fun z E S => ∃ k : Nat, z = A.ps.length - k ∧ k ≤ A.ps.length ∧ Kept st S ∧ (∀ j, j < k → A.ps.getD j ([], []) = C.ps.getD j ([], [])) ∧ E 0 = x ∧ E 1 = y ∧ E 5 = .int .i64 (i : Int) ∧ E 6 = .int .i64 (k : Int) := ⟨_, rfl⟩
            refine W_loop II ?_ (n := A.ps.length) (by
              rw [hII]; exact ⟨0, rfl, by omega, hk, fun j hj => by omega, h0, h1, h5, rfl⟩)
            clear hk h0 h1 h5
            intro z E S hh
            rw [hII] at hh
            obtain ⟨k, rfl, hki, hk, hdif, h0, h1, h5, h6⟩ := hh
            by_cases hkt : k < A.ps.length
            · obtain ⟨f, hf⟩ : ∃ f, f = A.ps.getD k ([], []) := ⟨_, rfl⟩
              obtain ⟨g, hg⟩ : ∃ g, g = C.ps.getD k ([], []) := ⟨_, rfl⟩
              have hif := iaddr_f (k := .i64) (c := (k : Int)) hAv (by omega) (by rw [Int.toNat_natCast]; exact hkt)
              have hig := iaddr_f (k := .i64) (c := (k : Int)) hCv (by omega) (by rw [Int.toNat_natCast]; omega)
              rw [Int.toNat_natCast, ← hf] at hif
              rw [Int.toNat_natCast, ← hg] at hig
              by_cases hfg : f.1 = g.1 ∧ f.2 = g.2
              · simp (maxSteps := 1000000) (disch := omega) only [h0, h1, h5, h6, hia, hic, fa3_1, ldcp, hAl, hkt, hif, hig, load_f2, neq_f, hfg, add_n, loopQ_normal, qaaz, qabz, qacz, qadz, qaez, qafz, qagz, qahz, qaiz, qajz, qakz, qalz, qamz, qanz, evOp, qaoz, qapz, qaqz, qarz, qasz, qatz, qauz, qavz,
 ↓reduceIte, Nat.reduceEqDiff, List.nil_append, List.cons_append, List.append_nil, List.map_cons, List.map_nil, qawz, qaxz, qayz, Option.map_some, Option.map_none, qazz, qbaz, qbbz, qbcz, qbdz, qbez, qbfz, qbgz, qbhz, qbiz, qbjz, qbkz, qblz, qbmz, qbnz, qboz,
 qbpz, qbqz, qbrz, qbsz, qbtz, qbuz, qbvz, qbwz, qbxz, qbyz, qbzz, qcaz, qcbz, qccz, qcdz, qcez, qcfz, qcgz, qchz, qciz, beq_true, beq_false, Bool.not_eq_true', decide_eq_true_eq, decide_eq_false_iff_not, decide_true, decide_false,
 Int.toNat_natCast, Int.ofNat_lt, Int.ofNat_le, Int.natCast_inj, Bool.false_eq_true, Bool.true_eq_false, qcjz, List.getElem?_cons_zero, List.getElem?_cons_succ, qckz, Int.reduceToNat, Int.reduceLE, true_and, and_true, reduceCtorEq, or_false, false_or, or_true, Option.some.injEq, exists_eq_left', Bool.not_true, Bool.not_false, ne_eq, Int.reduceEq, not_true_eq_false, not_false_eq_true, Int.reduceLT, UInt8.reduceLT, UInt8.reduceLE, UInt8.reduceToNat]
                refine ⟨A.ps.length - (k + 1), by omega, ?_⟩
                rw [hII]
                refine ⟨k + 1, rfl, by omega, hk, fun j hj => ?_, h0, h1, h5, rfl⟩
                by_cases hjk : j = k
                · subst hjk; rw [← hf, ← hg]; exact Prod.ext hfg.1 hfg.2
                · exact hdif j (by omega)
              · simp (maxSteps := 1000000) (disch := omega) only [h0, h1, h5, h6, hia, hic, fa3_1, ldcp, hAl, hkt, hif, hig, load_f2, neq_f, hfg, qaaz, qabz, qacz, qadz, qaez, qafz, qagz, qahz, qaiz, qajz, qakz, qalz, qamz, qanz, evOp, qaoz, qapz, qaqz, qarz, qasz, qatz, qauz, qavz,
 ↓reduceIte, Nat.reduceEqDiff, List.nil_append, List.cons_append, List.append_nil, List.map_cons, List.map_nil, qawz, qaxz, qayz, Option.map_some, Option.map_none, qazz, qbaz, qbbz, qbcz, qbdz, qbez, qbfz, qbgz, qbhz, qbiz, qbjz, qbkz, qblz, qbmz, qbnz, qboz,
 qbpz, qbqz, qbrz, qbsz, qbtz, qbuz, qbvz, qbwz, qbxz, qbyz, qbzz, qcaz, qcbz, qccz, qcdz, qcez, qcfz, qcgz, qchz, qciz, beq_true, beq_false, Bool.not_eq_true', decide_eq_true_eq, decide_eq_false_iff_not, decide_true, decide_false,
 Int.toNat_natCast, Int.ofNat_lt, Int.ofNat_le, Int.natCast_inj, Bool.false_eq_true, Bool.true_eq_false, qcjz, List.getElem?_cons_zero, List.getElem?_cons_succ, qckz, Int.reduceToNat, Int.reduceLE, true_and, and_true, reduceCtorEq, or_false, false_or, or_true, Option.some.injEq, exists_eq_left', Bool.not_true, Bool.not_false, ne_eq, Int.reduceEq, not_true_eq_false, not_false_eq_true, Int.reduceLT, UInt8.reduceLT, UInt8.reduceLE, UInt8.reduceToNat]
                exact no _ _ hk (dif fun q => hfg (by
                  have q2 : A.ps = C.ps := congrArg (fun z : LnD => z.2.1) q
                  rw [hf, hg, q2]; exact ⟨rfl, rfl⟩)) rfl
            · obtain rfl : k = A.ps.length := by omega
              simp (maxSteps := 1000000) (disch := omega) only [h0, h1, h5, h6, hia, fa3_1, ldcp, hAl, hkt, add_n, loopQ_normal, qaaz, qabz, qacz, qadz, qaez, qafz, qagz, qahz, qaiz, qajz, qakz, qalz, qamz, qanz, evOp, qaoz, qapz, qaqz, qarz, qasz, qatz, qauz, qavz,
 ↓reduceIte, Nat.reduceEqDiff, List.nil_append, List.cons_append, List.append_nil, List.map_cons, List.map_nil, qawz, qaxz, qayz, Option.map_some, Option.map_none, qazz, qbaz, qbbz, qbcz, qbdz, qbez, qbfz, qbgz, qbhz, qbiz, qbjz, qbkz, qblz, qbmz, qbnz, qboz,
 qbpz, qbqz, qbrz, qbsz, qbtz, qbuz, qbvz, qbwz, qbxz, qbyz, qbzz, qcaz, qcbz, qccz, qcdz, qcez, qcfz, qcgz, qchz, qciz, beq_true, beq_false, Bool.not_eq_true', decide_eq_true_eq, decide_eq_false_iff_not, decide_true, decide_false,
 Int.toNat_natCast, Int.ofNat_lt, Int.ofNat_le, Int.natCast_inj, Bool.false_eq_true, Bool.true_eq_false, qcjz, List.getElem?_cons_zero, List.getElem?_cons_succ, qckz, Int.reduceToNat, Int.reduceLE, true_and, and_true, reduceCtorEq, or_false, false_or, or_true, Option.some.injEq, exists_eq_left', Bool.not_true, Bool.not_false, ne_eq, Int.reduceEq, not_true_eq_false, not_false_eq_true, Int.reduceLT, UInt8.reduceLT, UInt8.reduceLE, UInt8.reduceToNat]
              refine ⟨As.length - (i + 1), by omega, ?_⟩
              rw [hI]
              refine ⟨i + 1, rfl, by omega, hk, fun j hj => ?_, h0, h1, rfl⟩
              by_cases hji : j = i
              · subst hji
                rw [← hAe, ← hCe]
                have hps : A.ps = C.ps := list_ext0 hp hdif
                unfold ofLn; rw [hn, hv, hps]
              · exact hall j (by omega)
          · have ep : ¬ ((A.ps.length : Int) = (C.ps.length : Int)) := by omega
            simp (maxSteps := 1000000) (disch := omega) only [h0, h1, h5, hxl, hlt, hia, hic, fa3_0, fa3_1, fa3_2, ldcp, eq_true hn, eq_true hv, hAl, hCl, hp, qaaz, qabz, qacz, qadz, qaez, qafz, qagz, qahz, qaiz, qajz, qakz, qalz, qamz, qanz, evOp, qaoz, qapz, qaqz, qarz, qasz, qatz, qauz, qavz,
 ↓reduceIte, Nat.reduceEqDiff, List.nil_append, List.cons_append, List.append_nil, List.map_cons, List.map_nil, qawz, qaxz, qayz, Option.map_some, Option.map_none, qazz, qbaz, qbbz, qbcz, qbdz, qbez, qbfz, qbgz, qbhz, qbiz, qbjz, qbkz, qblz, qbmz, qbnz, qboz,
 qbpz, qbqz, qbrz, qbsz, qbtz, qbuz, qbvz, qbwz, qbxz, qbyz, qbzz, qcaz, qcbz, qccz, qcdz, qcez, qcfz, qcgz, qchz, qciz, beq_true, beq_false, Bool.not_eq_true', decide_eq_true_eq, decide_eq_false_iff_not, decide_true, decide_false,
 Int.toNat_natCast, Int.ofNat_lt, Int.ofNat_le, Int.natCast_inj, Bool.false_eq_true, Bool.true_eq_false, qcjz, List.getElem?_cons_zero, List.getElem?_cons_succ, qckz, Int.reduceToNat, Int.reduceLE, true_and, and_true, reduceCtorEq, or_false, false_or, or_true, Option.some.injEq, exists_eq_left', Bool.not_true, Bool.not_false, ne_eq, Int.reduceEq, not_true_eq_false, not_false_eq_true, Int.reduceLT, UInt8.reduceLT, UInt8.reduceLE, UInt8.reduceToNat]
            exact no _ _ hk (dif fun q => hp (by rw [show A.ps = C.ps from congrArg (fun z : LnD => z.2.1) q])) rfl
        · simp (maxSteps := 1000000) (disch := omega) only [h0, h1, h5, hxl, hlt, hia, hic, fa3_0, fa3_1, fa3_2, ldcp, eq_true hn, hv, qaaz, qabz, qacz, qadz, qaez, qafz, qagz, qahz, qaiz, qajz, qakz, qalz, qamz, qanz, evOp, qaoz, qapz, qaqz, qarz, qasz, qatz, qauz, qavz,
 ↓reduceIte, Nat.reduceEqDiff, List.nil_append, List.cons_append, List.append_nil, List.map_cons, List.map_nil, qawz, qaxz, qayz, Option.map_some, Option.map_none, qazz, qbaz, qbbz, qbcz, qbdz, qbez, qbfz, qbgz, qbhz, qbiz, qbjz, qbkz, qblz, qbmz, qbnz, qboz,
 qbpz, qbqz, qbrz, qbsz, qbtz, qbuz, qbvz, qbwz, qbxz, qbyz, qbzz, qcaz, qcbz, qccz, qcdz, qcez, qcfz, qcgz, qchz, qciz, beq_true, beq_false, Bool.not_eq_true', decide_eq_true_eq, decide_eq_false_iff_not, decide_true, decide_false,
 Int.toNat_natCast, Int.ofNat_lt, Int.ofNat_le, Int.natCast_inj, Bool.false_eq_true, Bool.true_eq_false, qcjz, List.getElem?_cons_zero, List.getElem?_cons_succ, qckz, Int.reduceToNat, Int.reduceLE, true_and, and_true, reduceCtorEq, or_false, false_or, or_true, Option.some.injEq, exists_eq_left', Bool.not_true, Bool.not_false, ne_eq, Int.reduceEq, not_true_eq_false, not_false_eq_true, Int.reduceLT, UInt8.reduceLT, UInt8.reduceLE, UInt8.reduceToNat]
          exact no _ _ hk (dif fun q => hv (congrArg (fun z : LnD => z.2.2) q)) rfl
      · simp (maxSteps := 1000000) (disch := omega) only [h0, h1, h5, hxl, hlt, hia, hic, fa3_0, fa3_1, fa3_2, ldcp, hn, qaaz, qabz, qacz, qadz, qaez, qafz, qagz, qahz, qaiz, qajz, qakz, qalz, qamz, qanz, evOp, qaoz, qapz, qaqz, qarz, qasz, qatz, qauz, qavz,
 ↓reduceIte, Nat.reduceEqDiff, List.nil_append, List.cons_append, List.append_nil, List.map_cons, List.map_nil, qawz, qaxz, qayz, Option.map_some, Option.map_none, qazz, qbaz, qbbz, qbcz, qbdz, qbez, qbfz, qbgz, qbhz, qbiz, qbjz, qbkz, qblz, qbmz, qbnz, qboz,
 qbpz, qbqz, qbrz, qbsz, qbtz, qbuz, qbvz, qbwz, qbxz, qbyz, qbzz, qcaz, qcbz, qccz, qcdz, qcez, qcfz, qcgz, qchz, qciz, beq_true, beq_false, Bool.not_eq_true', decide_eq_true_eq, decide_eq_false_iff_not, decide_true, decide_false,
 Int.toNat_natCast, Int.ofNat_lt, Int.ofNat_le, Int.natCast_inj, Bool.false_eq_true, Bool.true_eq_false, qcjz, List.getElem?_cons_zero, List.getElem?_cons_succ, qckz, Int.reduceToNat, Int.reduceLE, true_and, and_true, reduceCtorEq, or_false, false_or, or_true, Option.some.injEq, exists_eq_left', Bool.not_true, Bool.not_false, ne_eq, Int.reduceEq, not_true_eq_false, not_false_eq_true, Int.reduceLT, UInt8.reduceLT, UInt8.reduceLE, UInt8.reduceToNat]
        exact no _ _ hk (dif fun q => hn (congrArg (fun z : LnD => z.1) q)) rfl
    · obtain rfl : i = As.length := by omega
      simp (maxSteps := 1000000) (disch := omega) only [h0, h1, h5, hxl, hlt, qaaz, qabz, qacz, qadz, qaez, qafz, qagz, qahz, qaiz, qajz, qakz, qalz, qamz, qanz, evOp, qaoz, qapz, qaqz, qarz, qasz, qatz, qauz, qavz,
 ↓reduceIte, Nat.reduceEqDiff, List.nil_append, List.cons_append, List.append_nil, List.map_cons, List.map_nil, qawz, qaxz, qayz, Option.map_some, Option.map_none, qazz, qbaz, qbbz, qbcz, qbdz, qbez, qbfz, qbgz, qbhz, qbiz, qbjz, qbkz, qblz, qbmz, qbnz, qboz,
 qbpz, qbqz, qbrz, qbsz, qbtz, qbuz, qbvz, qbwz, qbxz, qbyz, qbzz, qcaz, qcbz, qccz, qcdz, qcez, qcfz, qcgz, qchz, qciz, beq_true, beq_false, Bool.not_eq_true', decide_eq_true_eq, decide_eq_false_iff_not, decide_true, decide_false,
 Int.toNat_natCast, Int.ofNat_lt, Int.ofNat_le, Int.natCast_inj, Bool.false_eq_true, Bool.true_eq_false, qcjz, List.getElem?_cons_zero, List.getElem?_cons_succ, qckz, Int.reduceToNat, Int.reduceLE, true_and, and_true, reduceCtorEq, or_false, false_or, or_true, Option.some.injEq, exists_eq_left', Bool.not_true, Bool.not_false, ne_eq, Int.reduceEq, not_true_eq_false, not_false_eq_true, Int.reduceLT, UInt8.reduceLT, UInt8.reduceLE, UInt8.reduceToNat]
      exact yes _ _ hk (same_of hlen hall) rfl
  · have e1 : ¬ ((As.length : Int) = (Cs.length : Int)) := by omega
    simp (maxSteps := 1000000) (disch := omega) only [hxl, hyl, hlen, qaaz, qabz, qacz, qadz, qaez, qafz, qagz, qahz, qaiz, qajz, qakz, qalz, qamz, qanz, evOp, qaoz, qapz, qaqz, qarz, qasz, qatz, qauz, qavz,
 ↓reduceIte, Nat.reduceEqDiff, List.nil_append, List.cons_append, List.append_nil, List.map_cons, List.map_nil, qawz, qaxz, qayz, Option.map_some, Option.map_none, qazz, qbaz, qbbz, qbcz, qbdz, qbez, qbfz, qbgz, qbhz, qbiz, qbjz, qbkz, qblz, qbmz, qbnz, qboz,
 qbpz, qbqz, qbrz, qbsz, qbtz, qbuz, qbvz, qbwz, qbxz, qbyz, qbzz, qcaz, qcbz, qccz, qcdz, qcez, qcfz, qcgz, qchz, qciz, beq_true, beq_false, Bool.not_eq_true', decide_eq_true_eq, decide_eq_false_iff_not, decide_true, decide_false,
 Int.toNat_natCast, Int.ofNat_lt, Int.ofNat_le, Int.natCast_inj, Bool.false_eq_true, Bool.true_eq_false, qcjz, List.getElem?_cons_zero, List.getElem?_cons_succ, qckz, Int.reduceToNat, Int.reduceLE, true_and, and_true, reduceCtorEq, or_false, false_or, or_true, Option.some.injEq, exists_eq_left', Bool.not_true, Bool.not_false, ne_eq, Int.reduceEq, not_true_eq_false, not_false_eq_true, Int.reduceLT, UInt8.reduceLT, UInt8.reduceLE, UInt8.reduceToNat]
    exact no _ _ Kept.start (fun h => hlen (same_len h)) rfl

/-! ### Fixed calls -/
def alS : Bs := [97, 116, 116, 101, 110, 100, 101, 101, 59, 67, 78, 61, 34, 97, 44, 32, 98, 34, 58, 109, 97, 105, 108, 116, 111, 58, 120]
def alN : Bs := [65, 84, 84, 69, 78, 68, 69, 69]
def alV : Bs := [109, 97, 105, 108, 116, 111, 58, 120]
def alP : Fld := ([67, 78], [97, 44, 32, 98])
theorem al_rt : rtB ⟨alN, .nils, [alP], alV⟩ = true := by
  refine rtB_true ⟨by kernel_rfl, by kernel_rfl, by decide, by decide, fun i hi => ?_, fun i hi k hk => ?_⟩
  · simp only [List.length_singleton] at hi
    obtain rfl : i = 0 := by omega
    exact ⟨by kernel_rfl, by kernel_rfl, by decide, by kernel_rfl⟩
  · simp only [List.length_singleton] at hi
    omega
theorem al_one : oneL alS = some (alN, [alP], alV) := by
  have h1 : goL (alS.length + 1) [] (cutV [59, 58] alS).2.1 (cutV [59, 58] alS).2.2 = some ([alP], alV) := by kernel_rfl
  have h2 : upOf (cutV [59, 58] alS).1 = alN := by kernel_rfl
  unfold oneL
  rw [h1, h2, oneG, if_pos al_rt]
theorem al_none : oneL [97] = none := by
  have h1 : goL (([97] : Bs).length + 1) [] (cutV [59, 58] [97]).2.1 (cutV [59, 58] [97]).2.2 = none := by kernel_rfl
  unfold oneL
  rw [h1]; rfl
theorem al_esc : escOf [97, 59, 98] = [97, 92, 59, 98] := by kernel_rfl

set_option maxHeartbeats 4000000 in
theorem alive10_spec : call prog (.fn 40 []) [] st = some (.bool true, st) := by
  refine call_of_W prog_40 ?_
  unfold F_posthornlaw10_alive; dsimp only
  have o1 := fun S : St => One_spec (st := S) (x := alS) (by decide)
  have o2 := fun S : St => One_spec (st := S) (x := [97]) (by decide)
  rw [al_one] at o1
  rw [al_none] at o2
  simp only [oneV] at o1 o2
  refine W_cut (fun E S => Kept st S) ?_ ?_
  · simp (maxSteps := 1000000) (disch := omega) only [qaaz, qabz, qacz, qadz, qaez, qafz, qagz, qahz, qaiz, qajz, qakz, qalz, qamz, qanz, evOp, qaoz, qapz, qaqz, qarz, qasz, qatz, qauz, qavz,
 ↓reduceIte, Nat.reduceEqDiff, List.nil_append, List.cons_append, List.append_nil, List.map_cons, List.map_nil, qawz, qaxz, qayz, Option.map_some, Option.map_none, qazz, qbaz, qbbz, qbcz, qbdz, qbez, qbfz, qbgz, qbhz, qbiz, qbjz, qbkz, qblz, qbmz, qbnz, qboz,
 qbpz, qbqz, qbrz, qbsz, qbtz, qbuz, qbvz, qbwz, qbxz, qbyz, qbzz, qcaz, qcbz, qccz, qcdz, qcez, qcfz, qcgz, qchz, qciz, beq_true, beq_false, Bool.not_eq_true', decide_eq_true_eq, decide_eq_false_iff_not, decide_true, decide_false,
 Int.toNat_natCast, Int.ofNat_lt, Int.ofNat_le, Int.natCast_inj, Bool.false_eq_true, Bool.true_eq_false, qcjz, List.getElem?_cons_zero, List.getElem?_cons_succ, qckz, Int.reduceToNat, Int.reduceLE, true_and, and_true, reduceCtorEq, or_false, false_or, or_true, Option.some.injEq, exists_eq_left', Bool.not_true, Bool.not_false, ne_eq, Int.reduceEq, not_true_eq_false, not_false_eq_true, Int.reduceLT, UInt8.reduceLT, UInt8.reduceLE, UInt8.reduceToNat]
    exact Kept.start
  rintro e S hk
  obtain ⟨PVv, hPV⟩ : ∃ v, v = newSl S 2 ([alP].map fV) := ⟨_, rfl⟩
  have hiv : iaddrPV 2 PVv (.int .i64 0) = some (.cp [.str alP.1, .str alP.2]) := by rw [hPV]; rfl
  have hln : lenPV false PVv = some (.int .i64 1) := by rw [hPV]; rfl
  have hlf : leafOk PVv = true ∧ ∀ n, PVv.inB n = true := by rw [hPV]; exact newSl_leaf
  obtain ⟨b1, hb1⟩ : ∃ b1, b1 = S.boxes.length := ⟨_, rfl⟩
  have hle1 : st.boxes.length ≤ b1 := by have := hk.bl; omega
  refine W_cut (fun E S => Kept st S ∧ At S b1 [.str alN, PVv, .str alV] ∧ E 1 = .ptr b1 0 ∧ E 2 = .int .i64 0) ?_ ?_
  · have q1 := o1 S
    rw [← hPV] at q1
    obtain ⟨S1, hS1⟩ : ∃ S1, S1 = newS S ([alP].map fV).isEmpty := ⟨_, rfl⟩
    obtain ⟨nb, nl, np⟩ := newS_bx (S := S) (b := ([alP].map fV).isEmpty)
    have k1 := hk.newS (b := ([alP].map fV).isEmpty)
    rw [← hS1] at q1 nb nl np k1
    have hA := At.last (s := S1) (z := [.str [], .nils, .str []]) (T := S1.toks) (Lp := S1.loops) (lo := S1.low)
    have hb1' : b1 = S1.boxes.length := by rw [nb]; exact hb1
    rw [← hb1'] at hA
    obtain ⟨S2, a2, w2⟩ := hA.st3 (v0 := .str alN) (v1 := PVv) (v2 := .str alV) rfl hlf.1 rfl rfl (hlf.2 _) rfl
    have q1' : call prog (.fn 55 []) [.str [97, 116, 116, 101, 110, 100, 101, 101, 59, 67, 78, 61, 34, 97, 44, 32, 98, 34, 58, 109, 97, 105, 108, 116, 111, 58, 120]] S = some (.tup [.agg [.str alN, PVv, .str alV], .int .i64 0], S1) := q1
    simp (maxSteps := 1000000) (disch := omega) only [q1', allocPV, ← hb1', a2, qaaz, qabz, qacz, qadz, qaez, qafz, qagz, qahz, qaiz, qajz, qakz, qalz, qamz, qanz, evOp, qaoz, qapz, qaqz, qarz, qasz, qatz, qauz, qavz,
 ↓reduceIte, Nat.reduceEqDiff, List.nil_append, List.cons_append, List.append_nil, List.map_cons, List.map_nil, qawz, qaxz, qayz, Option.map_some, Option.map_none, qazz, qbaz, qbbz, qbcz, qbdz, qbez, qbfz, qbgz, qbhz, qbiz, qbjz, qbkz, qblz, qbmz, qbnz, qboz,
 qbpz, qbqz, qbrz, qbsz, qbtz, qbuz, qbvz, qbwz, qbxz, qbyz, qbzz, qcaz, qcbz, qccz, qcdz, qcez, qcfz, qcgz, qchz, qciz, beq_true, beq_false, Bool.not_eq_true', decide_eq_true_eq, decide_eq_false_iff_not, decide_true, decide_false,
 Int.toNat_natCast, Int.ofNat_lt, Int.ofNat_le, Int.natCast_inj, Bool.false_eq_true, Bool.true_eq_false, qcjz, List.getElem?_cons_zero, List.getElem?_cons_succ, qckz, Int.reduceToNat, Int.reduceLE, true_and, and_true, reduceCtorEq, or_false, false_or, or_true, Option.some.injEq, exists_eq_left', Bool.not_true, Bool.not_false, ne_eq, Int.reduceEq, not_true_eq_false, not_false_eq_true, Int.reduceLT, UInt8.reduceLT, UInt8.reduceLE, UInt8.reduceToNat]
    exact ⟨w2.kp st k1.alloc' hle1, w2.at_⟩
  clear hk hb1
  rintro e S ⟨hk, hA, h1, h2⟩
  obtain ⟨b3, hb3⟩ : ∃ b3, b3 = S.boxes.length := ⟨_, rfl⟩
  have hne13 : b1 ≠ b3 := by have := hA.lt; omega
  have hle3 : st.boxes.length ≤ b3 := by have := hk.bl; omega
  refine W_cut (fun E S => Kept st S ∧ At S b1 [.str alN, PVv, .str alV] ∧ E 1 = .ptr b1 0 ∧ E 2 = .int .i64 0 ∧ E 4 = .int .i64 90) ?_ ?_
  · have hA3 := At.last (s := S) (z := [.str [], .nils, .str []]) (T := S.toks) (Lp := S.loops) (lo := S.low)
    rw [← hb3] at hA3
    obtain ⟨S2, a2, w2⟩ := hA3.st3 (v0 := .str []) (v1 := .nils) (v2 := .str []) rfl rfl rfl rfl rfl rfl
    simp (maxSteps := 1000000) (disch := omega) only [h1, h2, o2, allocPV, ← hb3, a2, qaaz, qabz, qacz, qadz, qaez, qafz, qagz, qahz, qaiz, qajz, qakz, qalz, qamz, qanz, evOp, qaoz, qapz, qaqz, qarz, qasz, qatz, qauz, qavz,
 ↓reduceIte, Nat.reduceEqDiff, List.nil_append, List.cons_append, List.append_nil, List.map_cons, List.map_nil, qawz, qaxz, qayz, Option.map_some, Option.map_none, qazz, qbaz, qbbz, qbcz, qbdz, qbez, qbfz, qbgz, qbhz, qbiz, qbjz, qbkz, qblz, qbmz, qbnz, qboz,
 qbpz, qbqz, qbrz, qbsz, qbtz, qbuz, qbvz, qbwz, qbxz, qbyz, qbzz, qcaz, qcbz, qccz, qcdz, qcez, qcfz, qcgz, qchz, qciz, beq_true, beq_false, Bool.not_eq_true', decide_eq_true_eq, decide_eq_false_iff_not, decide_true, decide_false,
 Int.toNat_natCast, Int.ofNat_lt, Int.ofNat_le, Int.natCast_inj, Bool.false_eq_true, Bool.true_eq_false, qcjz, List.getElem?_cons_zero, List.getElem?_cons_succ, qckz, Int.reduceToNat, Int.reduceLE, true_and, and_true, reduceCtorEq, or_false, false_or, or_true, Option.some.injEq, exists_eq_left', Bool.not_true, Bool.not_false, ne_eq, Int.reduceEq, not_true_eq_false, not_false_eq_true, Int.reduceLT, UInt8.reduceLT, UInt8.reduceLE, UInt8.reduceToNat]
    exact ⟨w2.kp st hk.alloc' hle3, w2.ot _ _ hne13 hA.alloc⟩
  clear hk hA h1 h2 hb3
  rintro e S ⟨hk, hA, h1, h2, h4⟩
  have l0 := hA.load (k := 0) (v := .str alN) (r := [PVv, .str alV]) rfl
  have l1 := hA.load (k := 1) (v := PVv) (r := [.str alV]) rfl
  have l2 := hA.load (k := 2) (v := .str alV) (r := []) rfl
  have hes := fun S : St => Escape_spec (st := S) (s := [97, 59, 98]) (by simp)
  rw [al_esc] at hes
  have hbu : buildCells [.str [], .str []] [(0, 1, .str [67, 78]), (1, 1, .str [97, 44, 32, 98])] = some [.str [67, 78], .str [97, 44, 32, 98]] := rfl
  have e1 : (alN = [65, 84, 84, 69, 78, 68, 69, 69]) = True := eq_true rfl
  have e2 : (alV = [109, 97, 105, 108, 116, 111, 58, 120]) = True := eq_true rfl
  have e3 : (alP.1 = [67, 78] ∧ alP.2 = [97, 44, 32, 98]) = True := eq_true ⟨rfl, rfl⟩
  simp (maxSteps := 1000000) (disch := omega) only [h1, h2, h4, faddrPV, Nat.zero_add, l0, l1, l2, hln, hiv, load_f2, hbu, eql_f, e1, e2, e3, hes, qaaz, qabz, qacz, qadz, qaez, qafz, qagz, qahz, qaiz, qajz, qakz, qalz, qamz, qanz, evOp, qaoz, qapz, qaqz, qarz, qasz, qatz, qauz, qavz,
 ↓reduceIte, Nat.reduceEqDiff, List.nil_append, List.cons_append, List.append_nil, List.map_cons, List.map_nil, qawz, qaxz, qayz, Option.map_some, Option.map_none, qazz, qbaz, qbbz, qbcz, qbdz, qbez, qbfz, qbgz, qbhz, qbiz, qbjz, qbkz, qblz, qbmz, qbnz, qboz,
 qbpz, qbqz, qbrz, qbsz, qbtz, qbuz, qbvz, qbwz, qbxz, qbyz, qbzz, qcaz, qcbz, qccz, qcdz, qcez, qcfz, qcgz, qchz, qciz, beq_true, beq_false, Bool.not_eq_true', decide_eq_true_eq, decide_eq_false_iff_not, decide_true, decide_false,
 Int.toNat_natCast, Int.ofNat_lt, Int.ofNat_le, Int.natCast_inj, Bool.false_eq_true, Bool.true_eq_false, qcjz, List.getElem?_cons_zero, List.getElem?_cons_succ, qckz, Int.reduceToNat, Int.reduceLE, true_and, and_true, reduceCtorEq, or_false, false_or, or_true, Option.some.injEq, exists_eq_left', Bool.not_true, Bool.not_false, ne_eq, Int.reduceEq, not_true_eq_false, not_false_eq_true, Int.reduceLT, UInt8.reduceLT, UInt8.reduceLE, UInt8.reduceToNat]
  exact retB rfl hk rfl
end Go.Ab

/-
  What the laws of lines' reading ask: plain.
-/
namespace Go.Ab
set_option linter.unusedVariables false
set_option linter.unusedSimpArgs false
set_option maxRecDepth 20000
variable {st s : St} {e : Env}

theorem segs_half : ∀ (k : Nat) (l acc : Bs), l.length ≤ k → 2 * (segs l acc).length ≤ acc.length + l.length + 1 := by
  intro k
  induction k with
  | zero =>
    intro l acc h
    have : l = [] := List.eq_nil_of_length_eq_zero (by omega)
    subst this
    simp only [segs]
    split
    · simp
    · rename_i hne
      have : 1 ≤ acc.length := List.length_pos_iff.2 hne
      simp; omega
  | succ k ih =>
    intro l acc h
    match l with
    | [] =>
      simp only [segs]
      split
      · simp
      · rename_i hne
        have : 1 ≤ acc.length := List.length_pos_iff.2 hne
        simp; omega
    | [c] => simp [segs]
    | c :: d :: r =>
      simp only [segs]
      split
      · have := ih r [] (by simp at h; omega)
        simp at this ⊢; omega
      · have := ih (d :: r) (acc ++ [c]) (by simp at h ⊢; omega)
        simp at this ⊢; omega
theorem place_len2 : ∀ (p : List (Bs × Bool)) (a : Nat), (place a p).length = p.length := by
  intro p
  induction p with
  | nil => intro a; rfl
  | cons z r ih => intro a; simp [place, ih]
theorem refLines_half {l : Bs} : 2 * (refLines l).length ≤ l.length + 1 := by
  have := segs_half l.length l [] (Nat.le_refl _)
  unfold refLines
  rw [place_len2]
  simpa using this
theorem readL_ok {l : Bs} {ds : List LnD} (h : readL l = .ok ds) : (∀ d ∈ ds, rtB (toLn d) = true) ∧ (ds.map fun d => (textOfL (toLn d)).length + 2).sum ≤ l.length ∧ 2 * ds.length ≤ l.length + 1 := by
  have hu := unfV_len _ l (Nat.le_refl _)
  unfold readL at h
  cases hp : ptsOf ((unfV l).length + 1) (unfV l) 0 with
  | error i => rw [hp] at h; cases h
  | ok r =>
    rw [hp] at h
    simp only at h
    cases hg : readG (refLines (unfV l)) with
    | error i => rw [hg] at h; cases h
    | ok ds' =>
      rw [hg] at h; cases h
      obtain ⟨h1, h2⟩ := refLines_len (l := unfV l)
      obtain ⟨h3, h4, h5⟩ := h2 _ hg
      have h6 := refLines_half (l := unfV l)
      exact ⟨h3, by omega, by omega⟩

/-! ### Lines that were read may be -/
theorem toLn_vs {d : LnD} : (toLn d).pv.vs 2 = some ((toLn d).ps.map fV) := by
  obtain ⟨n, ps, v⟩ := d
  cases ps with
  | nil => simp [toLn, PV.vs]
  | cons p r => simp [toLn, PV.vs]
theorem dV_map (ds : List LnD) : ds.map dV = (ds.map toLn).map lV := by rw [List.map_map]; rfl
/-- What reading hands back. -/
theorem readV_parts (r : Except (Nat × Int) (List LnD)) : ∃ (j c : Int) (ds : List LnD), (∀ S : St, ∃ v S', readV S r = (.tup [v, .agg [.int .i64 j, .int .i64 c]], S') ∧ v.vs 3 = some ((ds.map toLn).map lV) ∧ (∀ st, Kept st S → Kept st S') ∧ S'.boxes = S.boxes) ∧
    (match r with | .error (j', c') => j = (j' : Int) ∧ c = c' ∧ ds = [] | .ok ds' => j = 0 ∧ c = 0 ∧ ds = ds') := by
  cases r with
  | error q =>
    obtain ⟨j, c⟩ := q
    exact ⟨j, c, [], fun S => ⟨.nils, S, rfl, by simp [PV.vs], fun _ h => h, rfl⟩, rfl, rfl, rfl⟩
  | ok ds =>
    exact ⟨0, 0, ds, fun S => ⟨newSl S 3 (ds.map dV), newS S (ds.map dV).isEmpty, rfl, by rw [← dV_map]; exact newSl_vs3, fun _ h => h.newS, newS_bx.1⟩, rfl, rfl, rfl⟩
theorem oneV_parts (r : Option LnD) : ∃ (d : LnD) (c : Int), (∀ S : St, ∃ pv S', oneV S r = (.tup [.agg [.str d.1, pv, .str d.2.2], .int .i64 c], S') ∧ leafOk pv = true ∧ (∀ n, pv.inB n = true) ∧ (∀ z, litFill 3 (List.replicate 1 z) [(0, .agg [.str d.1, pv, .str d.2.2])] = some [dV d]) ∧ (∀ st, Kept st S → Kept st S') ∧ S'.boxes = S.boxes) ∧
    (r = none → d.2.1 = []) ∧ (∀ d', r = some d' → d = d') := by
  cases r with
  | none =>
    refine ⟨([], [], []), 90, fun S => ⟨.nils, S, rfl, rfl, fun _ => rfl, fun z => ?_, fun _ h => h, rfl⟩, ⟨fun _ => rfl, fun d' h => by cases h⟩⟩
    exact lit_line (S := S) (d := ([], [], []))
  | some d =>
    exact ⟨d, 0, fun S => ⟨newSl S 2 (d.2.1.map fV), newS S (d.2.1.map fV).isEmpty, rfl, newSl_leaf.1, newSl_leaf.2, fun z => lit_line, fun _ h => h.newS, newS_bx.1⟩, ⟨fun h => (by cases h), fun d' h => (by cases h; rfl)⟩⟩

/-! ### How long what is written is -/
end Go.Ab

/-
  The laws SheetReads, SheetRight, SheetBack.
-/
namespace Go.Ab
set_option linter.unusedVariables false
set_option linter.unusedSimpArgs false
set_option maxRecDepth 20000
variable {st s : St} {e : Env}

theorem hTl {ds : List LnD} (h : ∀ d ∈ ds, rtB (toLn d) = true) : ∀ L ∈ ds.map toLn, L.pv.vs 2 = some (L.ps.map fV) ∧ L.ps.length ≤ 1000000 := fun L hL => by
  obtain ⟨d, hd, rfl⟩ := List.mem_map.1 hL
  exact ⟨toLn_vs, by have := (rt_of (h d hd)).2.2.2.1; omega⟩

set_option maxHeartbeats 4000000 in
theorem law_SheetReads {x : PV} {l t : Bs} (hx : x.by = some l) : ∃ s', call prog (.fn 93 []) [x, .str t] ⟨[], [], [], 0⟩ = some (.bool true, s') := by
  refine law_of_W prog_93 rfl ?_
  unfold F_posthornlaw10_SheetReads; dsimp only
  obtain ⟨st, hst⟩ : ∃ st : St, st = ⟨[], [], [], 0⟩ := ⟨_, rfl⟩
  have halv := fun S : St => alive10_spec (st := S)
  refine W_cut (fun E S => Kept st S ∧ E 0 = x ∧ E 1 = .str t) ?_ ?_
  · simp (maxSteps := 1000000) (disch := omega) only [List.length_nil, qaaz, qabz, qacz, qadz, qaez, qafz, qagz, qahz, qaiz, qajz, qakz, qalz, qamz, qanz, evOp, qaoz, qapz, qaqz, qarz, qasz, qatz, qauz, qavz,
 ↓reduceIte, Nat.reduceEqDiff, List.nil_append, List.cons_append, List.append_nil, List.map_cons, List.map_nil, qawz, qaxz, qayz, Option.map_some, Option.map_none, qazz, qbaz, qbbz, qbcz, qbdz, qbez, qbfz, qbgz, qbhz, qbiz, qbjz, qbkz, qblz, qbmz, qbnz, qboz,
 qbpz, qbqz, qbrz, qbsz, qbtz, qbuz, qbvz, qbwz, qbxz, qbyz, qbzz, qcaz, qcbz, qccz, qcdz, qcez, qcfz, qcgz, qchz, qciz, beq_true, beq_false, Bool.not_eq_true', decide_eq_true_eq, decide_eq_false_iff_not, decide_true, decide_false,
 Int.toNat_natCast, Int.ofNat_lt, Int.ofNat_le, Int.natCast_inj, Bool.false_eq_true, Bool.true_eq_false, qcjz, List.getElem?_cons_zero, List.getElem?_cons_succ, qckz, Int.reduceToNat, Int.reduceLE, true_and, and_true, reduceCtorEq, or_false, false_or, or_true, Option.some.injEq, exists_eq_left', Bool.not_true, Bool.not_false, ne_eq, Int.reduceEq, not_true_eq_false, not_false_eq_true, Int.reduceLT, UInt8.reduceLT, UInt8.reduceLE, UInt8.reduceToNat]
    rw [hst]; exact Kept.start
  rintro e S ⟨hk, h0, h1⟩
  by_cases hg : 6000 < l.length
  · have e1 : (6000 : Int) < (l.length : Int) := by omega
    simp (maxSteps := 1000000) (disch := omega) only [h0, h1, len_by hx, e1, halv, qaaz, qabz, qacz, qadz, qaez, qafz, qagz, qahz, qaiz, qajz, qakz, qalz, qamz, qanz, evOp, qaoz, qapz, qaqz, qarz, qasz, qatz, qauz, qavz,
 ↓reduceIte, Nat.reduceEqDiff, List.nil_append, List.cons_append, List.append_nil, List.map_cons, List.map_nil, qawz, qaxz, qayz, Option.map_some, Option.map_none, qazz, qbaz, qbbz, qbcz, qbdz, qbez, qbfz, qbgz, qbhz, qbiz, qbjz, qbkz, qblz, qbmz, qbnz, qboz,
 qbpz, qbqz, qbrz, qbsz, qbtz, qbuz, qbvz, qbwz, qbxz, qbyz, qbzz, qcaz, qcbz, qccz, qcdz, qcez, qcfz, qcgz, qchz, qciz, beq_true, beq_false, Bool.not_eq_true', decide_eq_true_eq, decide_eq_false_iff_not, decide_true, decide_false,
 Int.toNat_natCast, Int.ofNat_lt, Int.ofNat_le, Int.natCast_inj, Bool.false_eq_true, Bool.true_eq_false, qcjz, List.getElem?_cons_zero, List.getElem?_cons_succ, qckz, Int.reduceToNat, Int.reduceLE, true_and, and_true, reduceCtorEq, or_false, false_or, or_true, Option.some.injEq, exists_eq_left', Bool.not_true, Bool.not_false, ne_eq, Int.reduceEq, not_true_eq_false, not_false_eq_true, Int.reduceLT, UInt8.reduceLT, UInt8.reduceLE, UInt8.reduceToNat]
  by_cases hg2 : 2000 < t.length
  · have e1 : ¬ (6000 : Int) < (l.length : Int) := by omega
    have e2 : (2000 : Int) < (t.length : Int) := by omega
    simp (maxSteps := 1000000) (disch := omega) only [h0, h1, len_by hx, len_s, e1, e2, halv, qaaz, qabz, qacz, qadz, qaez, qafz, qagz, qahz, qaiz, qajz, qakz, qalz, qamz, qanz, evOp, qaoz, qapz, qaqz, qarz, qasz, qatz, qauz, qavz,
 ↓reduceIte, Nat.reduceEqDiff, List.nil_append, List.cons_append, List.append_nil, List.map_cons, List.map_nil, qawz, qaxz, qayz, Option.map_some, Option.map_none, qazz, qbaz, qbbz, qbcz, qbdz, qbez, qbfz, qbgz, qbhz, qbiz, qbjz, qbkz, qblz, qbmz, qbnz, qboz,
 qbpz, qbqz, qbrz, qbsz, qbtz, qbuz, qbvz, qbwz, qbxz, qbyz, qbzz, qcaz, qcbz, qccz, qcdz, qcez, qcfz, qcgz, qchz, qciz, beq_true, beq_false, Bool.not_eq_true', decide_eq_true_eq, decide_eq_false_iff_not, decide_true, decide_false,
 Int.toNat_natCast, Int.ofNat_lt, Int.ofNat_le, Int.natCast_inj, Bool.false_eq_true, Bool.true_eq_false, qcjz, List.getElem?_cons_zero, List.getElem?_cons_succ, qckz, Int.reduceToNat, Int.reduceLE, true_and, and_true, reduceCtorEq, or_false, false_or, or_true, Option.some.injEq, exists_eq_left', Bool.not_true, Bool.not_false, ne_eq, Int.reduceEq, not_true_eq_false, not_false_eq_true, Int.reduceLT, UInt8.reduceLT, UInt8.reduceLE, UInt8.reduceToNat]
  refine W_cut (fun E S => Kept st S ∧ E 0 = x ∧ E 1 = .str t) ?_ ?_
  · have e1 : ¬ (6000 : Int) < (l.length : Int) := by omega
    have e2 : ¬ (2000 : Int) < (t.length : Int) := by omega
    simp (maxSteps := 1000000) (disch := omega) only [h0, h1, len_by hx, len_s, e1, e2, qaaz, qabz, qacz, qadz, qaez, qafz, qagz, qahz, qaiz, qajz, qakz, qalz, qamz, qanz, evOp, qaoz, qapz, qaqz, qarz, qasz, qatz, qauz, qavz,
 ↓reduceIte, Nat.reduceEqDiff, List.nil_append, List.cons_append, List.append_nil, List.map_cons, List.map_nil, qawz, qaxz, qayz, Option.map_some, Option.map_none, qazz, qbaz, qbbz, qbcz, qbdz, qbez, qbfz, qbgz, qbhz, qbiz, qbjz, qbkz, qblz, qbmz, qbnz, qboz,
 qbpz, qbqz, qbrz, qbsz, qbtz, qbuz, qbvz, qbwz, qbxz, qbyz, qbzz, qcaz, qcbz, qccz, qcdz, qcez, qcfz, qcgz, qchz, qciz, beq_true, beq_false, Bool.not_eq_true', decide_eq_true_eq, decide_eq_false_iff_not, decide_true, decide_false,
 Int.toNat_natCast, Int.ofNat_lt, Int.ofNat_le, Int.natCast_inj, Bool.false_eq_true, Bool.true_eq_false, qcjz, List.getElem?_cons_zero, List.getElem?_cons_succ, qckz, Int.reduceToNat, Int.reduceLE, true_and, and_true, reduceCtorEq, or_false, false_or, or_true, Option.some.injEq, exists_eq_left', Bool.not_true, Bool.not_false, ne_eq, Int.reduceEq, not_true_eq_false, not_false_eq_true, Int.reduceLT, UInt8.reduceLT, UInt8.reduceLE, UInt8.reduceToNat]
    exact hk
  clear hk h0 h1
  rintro e S ⟨hk, h0, h1⟩
  have hN : (refLines (unfV l)).length ≤ 4096 := by
    have h6 := refLines_half (l := unfV l)
    have hu := unfV_len _ l (Nat.le_refl _)
    omega
  obtain ⟨j, c, ds, hrv, hrd⟩ := readV_parts (readL l)
  have hds : (∀ d ∈ ds, rtB (toLn d) = true) ∧ ds.length ≤ 6001 := by
    cases hr : readL l with
    | error q => rw [hr] at hrd; obtain ⟨-, -, rfl⟩ := hrd; simp
    | ok ds' =>
      rw [hr] at hrd
      obtain ⟨-, -, rfl⟩ := hrd
      obtain ⟨q1, -, q3⟩ := readL_ok hr
      exact ⟨q1, by omega⟩
  obtain ⟨d, c2, hov, hd1, hd2⟩ := oneV_parts (oneL t)
  have hdp : d.2.1.length ≤ 1000000 := by
    cases ho : oneL t with
    | none => rw [hd1 ho]; simp
    | some d' =>
      rw [hd2 d' ho]
      have := (rt_of (one_some ho).1).2.2.2.1
      simp only [toLn] at this; omega
  obtain ⟨b6, hb6⟩ : ∃ b6, b6 = S.boxes.length := ⟨_, rfl⟩
  refine W_cut (fun E S => Kept st S ∧ At S b6 [.int .i64 j, .int .i64 c] ∧ (∃ v, E 5 = v ∧ v.vs 3 = some ((ds.map toLn).map lV)) ∧ E 0 = x ∧ E 1 = .str t ∧ E 6 = .ptr b6 0) ?_ ?_
  · have q1 := Read_spec (st := S) hx (by omega) hN
    obtain ⟨v, S1, q2, q3, q4, q5⟩ := hrv S
    rw [q2] at q1
    have hA := At.last (s := S1) (z := [.int .i64 0, .int .i64 0]) (T := S1.toks) (Lp := S1.loops) (lo := S1.low)
    have hb6' : b6 = S1.boxes.length := by rw [q5]; exact hb6
    rw [← hb6'] at hA
    obtain ⟨S2, a2, w2⟩ := hA.st2 (v0 := .int .i64 j) (v1 := .int .i64 c) rfl rfl rfl rfl
    simp (maxSteps := 1000000) (disch := omega) only [h0, h1, q1, allocPV, ← hb6', a2, qaaz, qabz, qacz, qadz, qaez, qafz, qagz, qahz, qaiz, qajz, qakz, qalz, qamz, qanz, evOp, qaoz, qapz, qaqz, qarz, qasz, qatz, qauz, qavz,
 ↓reduceIte, Nat.reduceEqDiff, List.nil_append, List.cons_append, List.append_nil, List.map_cons, List.map_nil, qawz, qaxz, qayz, Option.map_some, Option.map_none, qazz, qbaz, qbbz, qbcz, qbdz, qbez, qbfz, qbgz, qbhz, qbiz, qbjz, qbkz, qblz, qbmz, qbnz, qboz,
 qbpz, qbqz, qbrz, qbsz, qbtz, qbuz, qbvz, qbwz, qbxz, qbyz, qbzz, qcaz, qcbz, qccz, qcdz, qcez, qcfz, qcgz, qchz, qciz, beq_true, beq_false, Bool.not_eq_true', decide_eq_true_eq, decide_eq_false_iff_not, decide_true, decide_false,
 Int.toNat_natCast, Int.ofNat_lt, Int.ofNat_le, Int.natCast_inj, Bool.false_eq_true, Bool.true_eq_false, qcjz, List.getElem?_cons_zero, List.getElem?_cons_succ, qckz, Int.reduceToNat, Int.reduceLE, true_and, and_true, reduceCtorEq, or_false, false_or, or_true, Option.some.injEq, exists_eq_left', Bool.not_true, Bool.not_false, ne_eq, Int.reduceEq, not_true_eq_false, not_false_eq_true, Int.reduceLT, UInt8.reduceLT, UInt8.reduceLE, UInt8.reduceToNat]
    exact ⟨w2.kp st (q4 st hk).alloc' (by rw [hst]; simp), w2.at_, q3⟩
  clear hk h0 h1 hb6
  rintro e S ⟨hk, hA6, ⟨v5, h5, hv5⟩, h0, h1, h6⟩
  obtain ⟨b8, hb8⟩ : ∃ b8, b8 = S.boxes.length := ⟨_, rfl⟩
  have hne68 : b6 ≠ b8 := by have := hA6.lt; omega
  refine W_cut (fun E S => Kept st S ∧ At S b6 [.int .i64 j, .int .i64 c] ∧ At S b8 [.int .i64 j, .int .i64 c] ∧ E 5 = v5 ∧ (∃ v, E 7 = v ∧ v.vs 3 = some ((ds.map toLn).map lV)) ∧ E 1 = .str t ∧ E 6 = .ptr b6 0 ∧ E 8 = .ptr b8 0) ?_ ?_
  · have q1 := rRead_spec (st := S) hx (by omega) hN
    obtain ⟨v, S1, q2, q3, q4, q5⟩ := hrv S
    rw [q2] at q1
    have hA := At.last (s := S1) (z := [.int .i64 0, .int .i64 0]) (T := S1.toks) (Lp := S1.loops) (lo := S1.low)
    have hb8' : b8 = S1.boxes.length := by rw [q5]; exact hb8
    rw [← hb8'] at hA
    obtain ⟨S2, a2, w2⟩ := hA.st2 (v0 := .int .i64 j) (v1 := .int .i64 c) rfl rfl rfl rfl
    simp (maxSteps := 1000000) (disch := omega) only [h0, h1, h5, h6, q1, allocPV, ← hb8', a2, qaaz, qabz, qacz, qadz, qaez, qafz, qagz, qahz, qaiz, qajz, qakz, qalz, qamz, qanz, evOp, qaoz, qapz, qaqz, qarz, qasz, qatz, qauz, qavz,
 ↓reduceIte, Nat.reduceEqDiff, List.nil_append, List.cons_append, List.append_nil, List.map_cons, List.map_nil, qawz, qaxz, qayz, Option.map_some, Option.map_none, qazz, qbaz, qbbz, qbcz, qbdz, qbez, qbfz, qbgz, qbhz, qbiz, qbjz, qbkz, qblz, qbmz, qbnz, qboz,
 qbpz, qbqz, qbrz, qbsz, qbtz, qbuz, qbvz, qbwz, qbxz, qbyz, qbzz, qcaz, qcbz, qccz, qcdz, qcez, qcfz, qcgz, qchz, qciz, beq_true, beq_false, Bool.not_eq_true', decide_eq_true_eq, decide_eq_false_iff_not, decide_true, decide_false,
 Int.toNat_natCast, Int.ofNat_lt, Int.ofNat_le, Int.natCast_inj, Bool.false_eq_true, Bool.true_eq_false, qcjz, List.getElem?_cons_zero, List.getElem?_cons_succ, qckz, Int.reduceToNat, Int.reduceLE, true_and, and_true, reduceCtorEq, or_false, false_or, or_true, Option.some.injEq, exists_eq_left', Bool.not_true, Bool.not_false, ne_eq, Int.reduceEq, not_true_eq_false, not_false_eq_true, Int.reduceLT, UInt8.reduceLT, UInt8.reduceLE, UInt8.reduceToNat]
    exact ⟨w2.kp st (q4 st hk).alloc' (by rw [hst]; simp), w2.ot _ _ hne68 (hA6.bx q5).alloc, w2.at_, q3⟩
  clear hk hA6 h5 h0 h1 h6 hb8
  rintro e S ⟨hk, hA6, hA8, h5, ⟨v7, h7, hv7⟩, h1, h6, h8⟩
  obtain ⟨b9, hb9⟩ : ∃ b9, b9 = S.boxes.length := ⟨_, rfl⟩
  have hne69 : b6 ≠ b9 := by have := hA6.lt; omega
  have hne89 : b8 ≠ b9 := by have := hA8.lt; omega
  refine W_cut (fun E S => Kept st S ∧ At S b6 [.int .i64 j, .int .i64 c] ∧ At S b8 [.int .i64 j, .int .i64 c] ∧ (∃ pv, At S b9 [.str d.1, pv, .str d.2.2] ∧ (∀ z, litFill 3 (List.replicate 1 z) [(0, .agg [.str d.1, pv, .str d.2.2])] = some [dV d])) ∧ E 5 = v5 ∧ E 7 = v7 ∧ E 1 = .str t ∧ E 6 = .ptr b6 0 ∧ E 8 = .ptr b8 0 ∧ E 9 = .ptr b9 0 ∧ E 10 = .int .i64 c2) ?_ ?_
  · have q1 := One_spec (st := S) (x := t) (by omega)
    obtain ⟨pv, S1, q2, q3, q4, q5, q6, q7⟩ := hov S
    rw [q2] at q1
    have hA := At.last (s := S1) (z := [.str [], .nils, .str []]) (T := S1.toks) (Lp := S1.loops) (lo := S1.low)
    have hb9' : b9 = S1.boxes.length := by rw [q7]; exact hb9
    rw [← hb9'] at hA
    obtain ⟨S2, a2, w2⟩ := hA.st3 (v0 := .str d.1) (v1 := pv) (v2 := .str d.2.2) rfl q3 rfl rfl (q4 _) rfl
    simp (maxSteps := 1000000) (disch := omega) only [h1, h5, h6, h7, h8, q1, allocPV, ← hb9', a2, qaaz, qabz, qacz, qadz, qaez, qafz, qagz, qahz, qaiz, qajz, qakz, qalz, qamz, qanz, evOp, qaoz, qapz, qaqz, qarz, qasz, qatz, qauz, qavz,
 ↓reduceIte, Nat.reduceEqDiff, List.nil_append, List.cons_append, List.append_nil, List.map_cons, List.map_nil, qawz, qaxz, qayz, Option.map_some, Option.map_none, qazz, qbaz, qbbz, qbcz, qbdz, qbez, qbfz, qbgz, qbhz, qbiz, qbjz, qbkz, qblz, qbmz, qbnz, qboz,
 qbpz, qbqz, qbrz, qbsz, qbtz, qbuz, qbvz, qbwz, qbxz, qbyz, qbzz, qcaz, qcbz, qccz, qcdz, qcez, qcfz, qcgz, qchz, qciz, beq_true, beq_false, Bool.not_eq_true', decide_eq_true_eq, decide_eq_false_iff_not, decide_true, decide_false,
 Int.toNat_natCast, Int.ofNat_lt, Int.ofNat_le, Int.natCast_inj, Bool.false_eq_true, Bool.true_eq_false, qcjz, List.getElem?_cons_zero, List.getElem?_cons_succ, qckz, Int.reduceToNat, Int.reduceLE, true_and, and_true, reduceCtorEq, or_false, false_or, or_true, Option.some.injEq, exists_eq_left', Bool.not_true, Bool.not_false, ne_eq, Int.reduceEq, not_true_eq_false, not_false_eq_true, Int.reduceLT, UInt8.reduceLT, UInt8.reduceLE, UInt8.reduceToNat]
    exact ⟨w2.kp st (q6 st hk).alloc' (by rw [hst]; simp), w2.ot _ _ hne69 (hA6.bx q7).alloc, w2.ot _ _ hne89 (hA8.bx q7).alloc, pv, w2.at_, q5⟩
  clear hk hA6 hA8 h1 h5 h6 h7 h8 hb9
  rintro e S ⟨hk, hA6, hA8, ⟨pv9, hA9, hl9⟩, h5, h7, h1, h6, h8, h9, h10⟩
  obtain ⟨b11, hb11⟩ : ∃ b11, b11 = S.boxes.length := ⟨_, rfl⟩
  have hne6 : b6 ≠ b11 := by have := hA6.lt; omega
  have hne8 : b8 ≠ b11 := by have := hA8.lt; omega
  have hne9 : b9 ≠ b11 := by have := hA9.lt; omega
  refine W_cut (fun E S => Kept st S ∧ At S b6 [.int .i64 j, .int .i64 c] ∧ At S b8 [.int .i64 j, .int .i64 c] ∧ At S b9 [.str d.1, pv9, .str d.2.2] ∧ (∃ pv, At S b11 [.str d.1, pv, .str d.2.2] ∧ (∀ z, litFill 3 (List.replicate 1 z) [(0, .agg [.str d.1, pv, .str d.2.2])] = some [dV d])) ∧ E 5 = v5 ∧ E 7 = v7 ∧ E 6 = .ptr b6 0 ∧ E 8 = .ptr b8 0 ∧ E 9 = .ptr b9 0 ∧ E 10 = .int .i64 c2 ∧ E 11 = .ptr b11 0 ∧ E 12 = .int .i64 c2) ?_ ?_
  · have q1 := rOne_spec (st := S) (x := t) (by omega)
    obtain ⟨pv, S1, q2, q3, q4, q5, q6, q7⟩ := hov S
    rw [q2] at q1
    have hA := At.last (s := S1) (z := [.str [], .nils, .str []]) (T := S1.toks) (Lp := S1.loops) (lo := S1.low)
    have hb11' : b11 = S1.boxes.length := by rw [q7]; exact hb11
    rw [← hb11'] at hA
    obtain ⟨S2, a2, w2⟩ := hA.st3 (v0 := .str d.1) (v1 := pv) (v2 := .str d.2.2) rfl q3 rfl rfl (q4 _) rfl
    simp (maxSteps := 1000000) (disch := omega) only [h1, h5, h6, h7, h8, h9, h10, q1, allocPV, ← hb11', a2, qaaz, qabz, qacz, qadz, qaez, qafz, qagz, qahz, qaiz, qajz, qakz, qalz, qamz, qanz, evOp, qaoz, qapz, qaqz, qarz, qasz, qatz, qauz, qavz,
 ↓reduceIte, Nat.reduceEqDiff, List.nil_append, List.cons_append, List.append_nil, List.map_cons, List.map_nil, qawz, qaxz, qayz, Option.map_some, Option.map_none, qazz, qbaz, qbbz, qbcz, qbdz, qbez, qbfz, qbgz, qbhz, qbiz, qbjz, qbkz, qblz, qbmz, qbnz, qboz,
 qbpz, qbqz, qbrz, qbsz, qbtz, qbuz, qbvz, qbwz, qbxz, qbyz, qbzz, qcaz, qcbz, qccz, qcdz, qcez, qcfz, qcgz, qchz, qciz, beq_true, beq_false, Bool.not_eq_true', decide_eq_true_eq, decide_eq_false_iff_not, decide_true, decide_false,
 Int.toNat_natCast, Int.ofNat_lt, Int.ofNat_le, Int.natCast_inj, Bool.false_eq_true, Bool.true_eq_false, qcjz, List.getElem?_cons_zero, List.getElem?_cons_succ, qckz, Int.reduceToNat, Int.reduceLE, true_and, and_true, reduceCtorEq, or_false, false_or, or_true, Option.some.injEq, exists_eq_left', Bool.not_true, Bool.not_false, ne_eq, Int.reduceEq, not_true_eq_false, not_false_eq_true, Int.reduceLT, UInt8.reduceLT, UInt8.reduceLE, UInt8.reduceToNat]
    exact ⟨w2.kp st (q6 st hk).alloc' (by rw [hst]; simp), w2.ot _ _ hne6 (hA6.bx q7).alloc, w2.ot _ _ hne8 (hA8.bx q7).alloc, w2.ot _ _ hne9 (hA9.bx q7).alloc, pv, w2.at_, q5⟩
  clear hk hA6 hA8 hA9 h1 h5 h6 h7 h8 h9 h10 hb11
  rintro e S ⟨hk, hA6, hA8, hA9, ⟨pv11, hA11, hl11⟩, h5, h7, h6, h8, h9, h10, h11, h12⟩
  have s1 := fun S : St => SameL_spec (st := S) hv5 hv7 (hTl hds.1) (fun L hL => (hTl hds.1 L hL).1) (by simp; omega)
  have hsame : ∀ Ls : List Ln, sameLB Ls Ls = true := fun Ls => by simp [sameLB]
  rw [hsame] at s1
  have hvs1 : ∀ k, (PV.sl 3 (.own k) [dV d]).vs 3 = some ([toLn d].map lV) := fun k => by simp [PV.vs, dV]
  have s2 := fun (S : St) (a b : Nat) => SameL_spec (st := S) (hvs1 a) (hvs1 b) (fun L hL => by
    simp only [List.mem_singleton] at hL; subst hL; exact ⟨toLn_vs, hdp⟩) (fun L hL => by
    simp only [List.mem_singleton] at hL; subst hL; exact toLn_vs) (by simp)
  rw [hsame] at s2
  simp (maxSteps := 1000000) (disch := omega) only [h5, h6, h7, h8, h9, h10, h11, h12, halv, s1, hA6.ld2, hA8.ld2, eql_i2, hA9.ld3, hl9, freshT_eq, St.tok1, (hA11.bx (s' := ⟨S.boxes, S.toks ++ [true], S.loops, S.low⟩) rfl).ld3, hl11, s2, qaaz, qabz, qacz, qadz, qaez, qafz, qagz, qahz, qaiz, qajz, qakz, qalz, qamz, qanz, evOp, qaoz, qapz, qaqz, qarz, qasz, qatz, qauz, qavz,
 ↓reduceIte, Nat.reduceEqDiff, List.nil_append, List.cons_append, List.append_nil, List.map_cons, List.map_nil, qawz, qaxz, qayz, Option.map_some, Option.map_none, qazz, qbaz, qbbz, qbcz, qbdz, qbez, qbfz, qbgz, qbhz, qbiz, qbjz, qbkz, qblz, qbmz, qbnz, qboz,
 qbpz, qbqz, qbrz, qbsz, qbtz, qbuz, qbvz, qbwz, qbxz, qbyz, qbzz, qcaz, qcbz, qccz, qcdz, qcez, qcfz, qcgz, qchz, qciz, beq_true, beq_false, Bool.not_eq_true', decide_eq_true_eq, decide_eq_false_iff_not, decide_true, decide_false,
 Int.toNat_natCast, Int.ofNat_lt, Int.ofNat_le, Int.natCast_inj, Bool.false_eq_true, Bool.true_eq_false, qcjz, List.getElem?_cons_zero, List.getElem?_cons_succ, qckz, Int.reduceToNat, Int.reduceLE, true_and, and_true, reduceCtorEq, or_false, false_or, or_true, Option.some.injEq, exists_eq_left', Bool.not_true, Bool.not_false, ne_eq, Int.reduceEq, not_true_eq_false, not_false_eq_true, Int.reduceLT, UInt8.reduceLT, UInt8.reduceLE, UInt8.reduceToNat]

end Go.Ab

/-
  The library's searches as primitives, out of the shelf's contracts.
-/
namespace Go.Ab
open Go.Shelf Go.Proofs
set_option linter.unusedVariables false
set_option linter.unusedSimpArgs false
variable {P : Program} {g : GMap} {ρ : Go.Shelf.Ren}

def numsOf (a : List UInt8) : List Int := a.map fun b => (b.toNat : Int)
theorem bytesOf_nums (a : List UInt8) : Lib.bytesOf (numsOf a) = a := by
  simp [Lib.bytesOf, numsOf, Function.comp_def]
theorem nums_range (a : List UInt8) : ∀ x ∈ numsOf a, 0 ≤ x ∧ x < 256 := by
  intro x hx
  simp only [numsOf, List.mem_map] at hx
  obtain ⟨b, _, rfl⟩ := hx
  have := b.toNat_lt
  omega
theorem nums_getD (a : List UInt8) {i : Nat} (h : i < a.length) : (numsOf a).getD i 0 = ((a[i]).toNat : Int) := by
  simp [numsOf, List.getD, h]

theorem cells_of {κ : K} {w : World} (hC : ∀ b i u, κ.C b i = some u → w.cell? ⟨b, i, none⟩ = some u) {blk off : Nat} {a : List UInt8} (hb : ∀ (i : Nat) (b : UInt8), a[i]? = some b → κ.C blk (off + i) = some (.int .u8 b.toNat)) :
    ∀ i, i < a.length → w.cell? ((⟨blk, off, none⟩ : Addr).add i) = some (.int .u8 ((numsOf a).getD i 0)) := by
  intro i hi
  rw [add_eq, nums_getD a hi]
  exact hC _ _ _ (hb i _ (by simp [hi]))

theorem primIndex (L : Lays.n185 P ρ) (hm : ∀ κ, g.inv κ → ∃ m, κ.C (ρ.g 1) 0 = some (.int .i64 m)) {pf : Func} (hpf : P.funcs[ρ.f 185]? = some pf) (hb : pf.body.isSome = true) (hn : pf.name ≠ "runtime.NumGoroutine") : PrimOK P g (ρ.f 185) pBytesIndex := by
  refine prim_of_calls hpf hb hn (fun κ w args ps v hi hC hsz hargs hp => ?_)
  obtain ⟨m, hm⟩ := hm κ hi
  have hmc := hC _ _ _ hm
  match ps, hp with
  | [x, y], hp =>
    simp only [pBytesIndex] at hp
    cases hx : x.by with
    | none => simp [hx] at hp
    | some a =>
      cases hy : y.by with
      | none => simp [hx, hy] at hp
      | some b =>
        simp only [hx, hy] at hp
        split at hp
        · rename_i hlen
          cases hp
          obtain ⟨u1, u2, rfl⟩ : ∃ u1 u2, args = #[u1, u2] := by
            obtain ⟨l⟩ := args
            match l, hsz with
            | [u1, u2], _ => exact ⟨u1, u2, rfl⟩
          have r1 := hargs 0 u1 x rfl rfl
          have r2 := hargs 1 u2 y rfl rfl
          have post : ∀ (n : Int), n = Lib.index a b → ∀ (e : Ending) (w' : World), (e = .returned (.int .i64 n) ∧ ∃ q, w' = w.drewN q) → ∃ z, e = .returned z ∧ (∀ κ', R g κ' z (.int .i64 (Lib.index a b))) ∧ w'.heap = w.heap ∧ w'.os = w.os ∧ w'.tape = w.tape ∧ w'.output = w.output := by
            rintro n rfl e w' ⟨rfl, q, rfl⟩
            exact ⟨_, rfl, fun κ' => .int .i64 _ (by decide), rfl, rfl, rfl, rfl⟩
          have post0 : ∀ (n : Int), n = Lib.index a b → ∀ (e : Ending) (w' : World), (e = .returned (.int .i64 n) ∧ w' = w) → ∃ z, e = .returned z ∧ (∀ κ', R g κ' z (.int .i64 (Lib.index a b))) ∧ w'.heap = w.heap ∧ w'.os = w.os ∧ w'.tape = w.tape ∧ w'.output = w.output := by
            rintro n rfl e w' ⟨rfl, rfl⟩
            exact ⟨_, rfl, fun κ' => .int .i64 _ (by decide), rfl, rfl, rfl, rfl⟩
          rcases by_cases' hx with ⟨rfl, rfl⟩ | ⟨t, rfl⟩
          · cases r1
            rcases by_cases' hy with ⟨rfl, rfl⟩ | ⟨t2, rfl⟩
            · cases r2
              exact (Any.bytes_Index_none L none none 0 0 0 w).mono (post0 0 (by simp [Lib.index]))
            · cases r2 with
              | bys blk off n c _ _ h1 h2 h3 h4 _ =>
                subst h1
                refine (Any.bytes_Index_nil L (some ⟨blk, off, none⟩) b.length c w (by omega) (fun h1 => ?_)).mono (post0 _ ?_)
                · have := cells_of hC h3 0 (by omega)
                  rw [add_eq] at this
                  exact ⟨blk, off, _, rfl, this⟩
                · cases b <;> simp [Lib.index]
          · cases r1 with
            | bys blk off n c _ _ h1 h2 h3 h4 _ =>
              subst h1
              rcases by_cases' hy with ⟨rfl, rfl⟩ | ⟨t2, rfl⟩
              · cases r2
                exact (Any.bytes_Index_none L (some ⟨blk, off, none⟩) none a.length c 0 w).mono (post0 0 (Lib.index_empty a).symm)
              · cases r2 with
                | bys blk2 off2 n2 c2 _ _ k1 k2 k3 k4 _ =>
                  subst k1
                  refine (Any.bytes_Index_at L ⟨blk, off, none⟩ ⟨blk2, off2, none⟩ a.length c b.length c2 (numsOf a) (numsOf b) m w (by simp [numsOf]) (by simp [numsOf]) (nums_range a) (nums_range b) (cells_of hC h3) (cells_of hC k3) h2 hlen.1 (by omega) hmc).mono (post _ ?_)
                  rw [bytesOf_nums, bytesOf_nums]
        · cases hp
  | [], hp => simp [pBytesIndex] at hp
  | [_], hp => simp [pBytesIndex] at hp
  | _ :: _ :: _ :: _, hp => simp [pBytesIndex] at hp
end Go.Ab

/-
  A Builder's text: the walk of the library's function, its end said whole (after the shelf's own proof).
-/
namespace Go.Proofs
open Go.Shelf Go.RowKit
set_option linter.unusedVariables false
variable {P : Program} {ρ : Ren}

set_option maxHeartbeats 2000000 in
set_option maxRecDepth 100000 in
/-- A Builder's text, and all that turns: the shelf's proof, its end turned. -/
theorem bstring_walk (L : Lays.n169 P ρ) (X : Builder.Extra P ρ) (b g cap cells : Nat) (l : List UInt8) (w : World) (h0 : l ≠ []) (hcap : l.length ≤ cap) (hcc : l.length ≤ cells) (hmax : l.length ≤ 9223372036854775807)
    (hb : w.cell? ⟨b, 1, none⟩ = some (.slice (some ⟨g, 0, none⟩) l.length cap)) (hsh : w.shape? g = some (ρ.t 5, cells)) (hcell : ∀ j x, l[j]? = some x → w.cell? ⟨g, j, none⟩ = some (.int .u8 x.toNat)) :
    Calls P (ρ.f 169) #[.pointer (some ⟨b, 0, none⟩)] w fun e w' => e = .returned (.string ⟨l.toArray⟩) ∧ w' = w.drew.freeze ⟨g, 0, none⟩ l.length := by
  have hl0 : l.length ≠ 0 := by simpa using h0
  have c1 : w.drew.cell? ⟨b, 1, none⟩ = some (.slice (some ⟨g, 0, none⟩) l.length cap) := hb
  have hSD : (Builtin.unsafeSliceData_ #[(ρ.t 37)] (ρ.t 127) #[.slice (some ⟨g, 0, none⟩) l.length cap]).run P w.drew = .ok (.pointer (some ⟨g, 0, none⟩)) w.drew :=
    Lib.run_unsafeSliceData_row _ _ _ _ _ _ (by omega)
  have hUS : (Builtin.unsafeString_ #[(ρ.t 127), (ρ.t 3)] (ρ.t 9) #[.pointer (some ⟨g, 0, none⟩), .int .i64 l.length]).run P w.drew = .ok (.string ⟨l.toArray⟩) (w.drew.freeze ⟨g, 0, none⟩ l.length) := by
    refine Lib.run_unsafeString_row w.drew (ρ.t 127) (ρ.t 3) (ρ.t 9) (ρ.t 5) L.t127 X.cellsByte g cells hsh l h0 hcc hmax ?_
    intro j x hx
    have := hcell j x hx
    simp only [Addr.add]
    split
    · rename_i h; subst h; exact this
    · simpa using this
  clear hcell hsh hb
  have mixed := L.mixed
  have t72 := L.t72; have a72 := L.a72; have z72 := L.z72; have v72 := L.v72; have u72 := run_underlying L.t72
  have t70 := L.t70; have a70 := L.a70; have z70 := L.z70; have v70 := L.v70; have u70 := run_underlying L.t70
  have t37 := L.t37; have a37 := L.a37; have z37 := L.z37; have v37 := L.v37; have u37 := run_underlying L.t37
  have t127 := L.t127; have a127 := L.a127; have z127 := L.z127; have v127 := L.v127; have u127 := run_underlying L.t127
  have t3 := L.t3; have a3 := L.a3; have z3 := L.z3; have v3 := L.v3; have u3 := run_underlying L.t3
  have t9 := L.t9; have a9 := L.a9; have z9 := L.z9; have v9 := L.v9; have u9 := run_underlying L.t9
  have t5 := X.t5; have a5 := X.a5; have z5 := X.z5; have v5 := X.v5; have u5 := run_underlying X.t5
  go_enter L.f169, Body.n169_ntmps ρ
  go_wp2
  go_region_o
  all_goals (go_wp2; go_ret; exact ⟨rfl, rfl⟩)

set_option maxHeartbeats 2000000 in
set_option maxRecDepth 100000 in
theorem bstring_nil (L : Lays.n169 P ρ) (X : Builder.Extra P ρ) (b : Nat) (w : World) (hb : w.cell? ⟨b, 1, none⟩ = some (.slice none 0 0)) :
    Calls P (ρ.f 169) #[.pointer (some ⟨b, 0, none⟩)] w fun e w' => e = .returned (.string ⟨#[]⟩) ∧ w' = w.drew := by
  have hUS := Any.unsafeString_none L X
  have hSD : (Builtin.unsafeSliceData_ #[(ρ.t 37)] (ρ.t 127) #[.slice none 0 0]).run P w.drew = .ok (.pointer none) w.drew := rfl
  have c1 : w.drew.cell? ⟨b, 1, none⟩ = some (.slice none 0 0) := hb
  have mixed := L.mixed
  have t72 := L.t72; have a72 := L.a72; have z72 := L.z72; have v72 := L.v72; have u72 := run_underlying L.t72
  have t70 := L.t70; have a70 := L.a70; have z70 := L.z70; have v70 := L.v70; have u70 := run_underlying L.t70
  have t37 := L.t37; have a37 := L.a37; have z37 := L.z37; have v37 := L.v37; have u37 := run_underlying L.t37
  have t127 := L.t127; have a127 := L.a127; have z127 := L.z127; have v127 := L.v127; have u127 := run_underlying L.t127
  have t3 := L.t3; have a3 := L.a3; have z3 := L.z3; have v3 := L.v3; have u3 := run_underlying L.t3
  have t9 := L.t9; have a9 := L.a9; have z9 := L.z9; have v9 := L.v9; have u9 := run_underlying L.t9
  have t5 := X.t5; have a5 := X.a5; have z5 := X.z5; have v5 := X.v5; have u5 := run_underlying X.t5
  go_enter L.f169, Body.n169_ntmps ρ
  go_wp2
  go_region_o
  all_goals (go_wp2; go_ret; exact ⟨rfl, rfl⟩)

/-- What copyCheck names. -/
structure CCLay (P : Program) (ρ : Ren) : Prop where
  mixed : P.follows .mixedOrders = true
  f240 : P.funcs[ρ.f 240]? = some (Body.n240 ρ)
  f276 : P.funcs[ρ.f 276]? = some (Body.n276 ρ)
  t4 : P.underlying (ρ.t 4) = some (TypeDesc.bool)
  a4 : ∀ w, (isAgg (ρ.t 4)).run P w = .ok false w
  z4 : ∀ w, (Go.sizeOf (ρ.t 4)).run P w = .ok 1 w
  v4 : ∀ w, (zeroValue (ρ.t 4)).run P w = .ok (Value.bool false) w
  t70 : P.underlying (ρ.t 70) = some (TypeDesc.pointer (ρ.t 72))
  a70 : ∀ w, (isAgg (ρ.t 70)).run P w = .ok false w
  z70 : ∀ w, (Go.sizeOf (ρ.t 70)).run P w = .ok 1 w
  v70 : ∀ w, (zeroValue (ρ.t 70)).run P w = .ok (Value.pointer none) w
  t72 : P.underlying (ρ.t 72) = some (TypeDesc.struct #[{ name := "addr", type := ρ.t 70, offset := 0, embedded := false, tag := "", pkgPath := "strings", byteOffset := 0 }, { name := "buf", type := ρ.t 37, offset := 1, embedded := false, tag := "", pkgPath := "strings", byteOffset := 8 }])
  a72 : ∀ w, (isAgg (ρ.t 72)).run P w = .ok true w
  z72 : ∀ w, (Go.sizeOf (ρ.t 72)).run P w = .ok 2 w
  v72 : ∀ w, (zeroValue (ρ.t 72)).run P w = .ok (Value.agg #[Value.pointer none, Value.slice none 0 0]) w
  t164 : P.underlying (ρ.t 164) = some (TypeDesc.unsafePointer)
  a164 : ∀ w, (isAgg (ρ.t 164)).run P w = .ok false w
  z164 : ∀ w, (Go.sizeOf (ρ.t 164)).run P w = .ok 1 w
  v164 : ∀ w, (zeroValue (ρ.t 164)).run P w = .ok (Value.pointer none) w

set_option maxHeartbeats 1000000 in
set_option maxRecDepth 100000 in
/-- copyCheck at a builder that has been used: nothing turns (after the shelf's proof). -/
theorem cc_used (L : CCLay P ρ) (X : Builder.X72 P ρ) (b : Nat) (w : World) (h0 : w.cell? ⟨b, 0, none⟩ = some (.pointer (some ⟨b, 0, none⟩))) :
    Calls P (ρ.f 240) #[.pointer (some ⟨b, 0, none⟩)] w fun e w' => e = .returned (.tuple #[]) ∧ w' = w := by
  obtain ⟨j, hj, _⟩ := Option.map_eq_some_iff.1 X.sizeBuilder
  have mixed := L.mixed
  have t72 := L.t72; have a72 := L.a72; have z72 := L.z72; have v72 := L.v72; have u72 := run_underlying L.t72
  have t70 := L.t70; have a70 := L.a70; have z70 := L.z70; have v70 := L.v70; have u70 := run_underlying L.t70
  have t4 := L.t4; have a4 := L.a4; have z4 := L.z4; have v4 := L.v4; have u4 := run_underlying L.t4
  have t164 := L.t164; have a164 := L.a164; have z164 := L.z164; have v164 := L.v164; have u164 := run_underlying L.t164
  go_enter L.f240, Body.n240_ntmps ρ
  go_wp2
  rw [Lib.run_neq_ptr_same w _ L.t70 hj]
  go_wp2
  go_end0
  exact ⟨rfl, rfl⟩

set_option maxHeartbeats 1000000 in
set_option maxRecDepth 100000 in
/-- copyCheck at a fresh builder: it stores its own address (after the shelf's proof). -/
theorem cc_fresh (L : CCLay P ρ) (X : Builder.X72 P ρ) (b : Nat) (w : World) (h0 : w.cell? ⟨b, 0, none⟩ = some (.pointer none)) (hsh : w.shape? b = some ((ρ.t 72), 2)) (hfz : w.frozen? ⟨b, 0, none⟩ = false) :
    Calls P (ρ.f 240) #[.pointer (some ⟨b, 0, none⟩)] w fun e w' => e = .returned (.tuple #[]) ∧ w' = w.setCell ⟨b, 0, none⟩ (.pointer (some ⟨b, 0, none⟩)) := by
  obtain ⟨j, hj, hjs⟩ := Option.map_eq_some_iff.1 X.sizeBuilder
  have mixed := L.mixed
  have t72 := L.t72; have a72 := L.a72; have z72 := L.z72; have v72 := L.v72; have u72 := run_underlying L.t72
  have t70 := L.t70; have a70 := L.a70; have z70 := L.z70; have v70 := L.v70; have u70 := run_underlying L.t70
  have t4 := L.t4; have a4 := L.a4; have z4 := L.z4; have v4 := L.v4; have u4 := run_underlying L.t4
  have t164 := L.t164; have a164 := L.a164; have z164 := L.z164; have v164 := L.v164; have u164 := run_underlying L.t164
  go_enter L.f240, Body.n240_ntmps ρ
  go_wp2
  rw [Lib.run_to_unsafe w ⟨b, 0, none⟩ L.t70 L.t164 hj (by rw [hjs]; decide) hsh (Nat.zero_lt_succ 1)]
  simp only [Result.andThen]
  rw [Oper.upon_value]
  go_wp2
  rw [run_callFunc_extern L.f276 (by kernel_rfl) (by kernel_rfl) (by kernel_rfl) (e := Extern.AbiNoEscape.same) (by kernel_rfl)]
  rw [Lib.run_noEscape]
  simp only [Result.andThen]
  rw [Oper.upon_value]
  go_wp2
  rw [Lib.run_from_unsafe w ⟨b, 0, none⟩ L.t164 L.t70 hj hsh X.liesBuilder]
  simp only [Result.andThen]
  rw [Oper.upon_value]
  go_wp2
  go_end0
  exact ⟨rfl, rfl⟩
end Go.Proofs

/-
  The library's functions on texts as primitives, out of the shelf's contracts.
-/
namespace Go.Ab
open Go.Shelf Go.Proofs
set_option linter.unusedVariables false
set_option linter.unusedSimpArgs false
variable {P : Program} {g : GMap} {ρ : Go.Shelf.Ren}

theorem primStrIndex (L : Lays.n219 P ρ) (hm : ∀ κ, g.inv κ → ∃ m, κ.C (ρ.g 1) 0 = some (.int .i64 m)) {pf : Func} (hpf : P.funcs[ρ.f 219]? = some pf) (hb : pf.body.isSome = true) (hn : pf.name ≠ "runtime.NumGoroutine") : PrimOK P g (ρ.f 219) pStrIndex := by
  refine prim_of_calls hpf hb hn (fun κ w args ps v hi hC hsz hargs hp => ?_)
  obtain ⟨m, hm⟩ := hm κ hi
  have hmc := hC _ _ _ hm
  unfold pStrIndex at hp
  split at hp
  · rename_i a b
    split at hp
    · rename_i hlen
      cases hp
      obtain ⟨u1, u2, rfl⟩ : ∃ u1 u2, args = #[u1, u2] := by
        obtain ⟨l⟩ := args
        match l, hsz with
        | [u1, u2], _ => exact ⟨u1, u2, rfl⟩
      have r1 := hargs 0 u1 _ rfl rfl
      have r2 := hargs 1 u2 _ rfl rfl
      cases r1 with | str sa _ ha => cases r2 with | str sb _ hb =>
      refine (Any.stringslite_Index L sa sb m w (by rw [← ha] at hlen; simpa using hlen) hmc).mono ?_
      rintro e w' ⟨rfl, rfl⟩
      exact ⟨_, rfl, fun κ' => by rw [ha, hb]; exact .int .i64 _ (by decide), rfl, rfl, rfl, rfl⟩
    · cases hp
  · cases hp

theorem primStrIndexByte (L : Lays.n137 P ρ) {pf : Func} (hpf : P.funcs[ρ.f 137]? = some pf) (hb : pf.body.isSome = true) (hn : pf.name ≠ "runtime.NumGoroutine") : PrimOK P g (ρ.f 137) pStrIndexByte := by
  refine prim_of_calls hpf hb hn (fun κ w args ps v hi hC hsz hargs hp => ?_)
  unfold pStrIndexByte at hp
  split at hp
  · rename_i a c
    cases hp
    obtain ⟨u1, u2, rfl⟩ : ∃ u1 u2, args = #[u1, u2] := by
      obtain ⟨l⟩ := args
      match l, hsz with
      | [u1, u2], _ => exact ⟨u1, u2, rfl⟩
    have r1 := hargs 0 u1 _ rfl rfl
    have r2 := hargs 1 u2 _ rfl rfl
    cases r1 with | str sa _ ha => cases r2 with | b8 _ n hn =>
    refine (Any.strings_IndexByte L sa n w).mono ?_
    rintro e w' ⟨rfl, rfl⟩
    refine ⟨_, rfl, fun κ' => ?_, rfl, rfl, rfl, rfl⟩
    have : n.toNat.toUInt8 = c := by rw [hn]; simp
    rw [ha, this]; exact .int .i64 _ (by decide)
  · cases hp

/-- A primitive that may put a cell, out of a contract. -/
theorem primS_of_calls {f' : FuncId} {p : List PV → List (List PV) → Option (PV × Upd)} {pf : Func} (hpf : P.funcs[f']? = some pf) (hb : pf.body.isSome = true) (hn : pf.name ≠ "runtime.NumGoroutine")
    (h : ∀ (base : Nat) (κ : K) (w : World) (st : St) (args : Array Value) (ps : List PV) (v : PV) (u : Upd) (st' : St), SR P g base κ w st → args.size = ps.length → (∀ (i : Nat) (u : Value) (q : PV), args[i]? = some u → ps[i]? = some q → R g κ u q) → p ps st.boxes = some (v, u) → updS st u = some st' →
      Calls P f' args w fun e w' => ∃ z, e = .returned z ∧ R g κ z v ∧ SR P g base κ w' st' ∧ Fr base κ.lam w w') : PrimSOK P g f' p := by
  intro base κ w st args ps v u st' hsr hsz hargs hp hu F hF nn o a next Q hnext
  have hrun : (callFunc f' args).run P w = .ok (.enter f' args) w := by
    have hb2 : pf.body.isNone = false := by
      cases hbb : pf.body with
      | none => rw [hbb] at hb; cases hb
      | some c => rfl
    have hn2 : (pf.name == "runtime.NumGoroutine") = false := by simpa using hn
    unfold callFunc
    simp only [Sem.run_bind, Go.program, Sem.run, Result.andThen, hpf, hn2, hb2]
    rfl
  rw [hrun]
  refine ⟨hF.deep, callsIn_of_calls hF ?_⟩
  refine (h base κ w st args ps v u st' hsr hsz hargs hp hu).mono ?_
  rintro e w' ⟨z, rfl, hz, hs, hf⟩
  exact hnext κ z w' (K.le.refl κ) rfl hs hz hf

theorem setCell_eq {w : World} {blk off : Nat} {v : Value} {rs : Array Value} {el : TypeId} {fz : Nat × Nat} (hw : w.heap[blk]? = some (.cells rs el fz)) : w.setCell ⟨blk, off, none⟩ v = setBlk w blk (setA rs off [v]) el fz := by
  have hlt := (Array.getElem?_eq_some_iff.1 hw).1
  simp only [World.setCell, setBlk]
  congr 1
  apply Array.ext_getElem?
  intro j
  rw [Array.getElem?_modify]
  by_cases hj : blk = j
  · subst hj
    rw [if_pos rfl, hw]
    simp [hlt, setA]
  · rw [if_neg hj, Array.getElem?_setIfInBounds_ne hj]

theorem primCopyCheck (L : CCLay P ρ) (X : Builder.X72 P ρ) (htB : g.tB = ρ.t 72) {pf : Func} (hpf : P.funcs[ρ.f 240]? = some pf) (hb : pf.body.isSome = true) (hn : pf.name ≠ "runtime.NumGoroutine") : PrimSOK P g (ρ.f 240) pCopyCheck := by
  refine primS_of_calls hpf hb hn (fun base κ w st args ps v u st' hsr hsz hargs hp hu => ?_)
  unfold pCopyCheck at hp
  split at hp
  · rename_i bs b
    obtain ⟨u1, rfl⟩ : ∃ u1, args = #[u1] := by
      obtain ⟨l⟩ := args
      match l, hsz with
      | [u1], _ => exact ⟨u1, rfl⟩
    have r1 := hargs 0 u1 _ rfl rfl
    cases r1 with | ptr _ _ blk hφ =>
    split at hp
    · -- fresh
      rename_i x hbx
      simp only [Option.some.injEq, Prod.mk.injEq] at hp
      obtain ⟨rfl, rfl⟩ := hp
      have hB := hsr.bx b blk _ hbx hφ
      obtain ⟨rs, ⟨el, lo, hi, hw, hf⟩, hl, hr⟩ := hB.ex
      obtain ⟨v0, h0, hr0⟩ := hr 0 .bslot rfl
      cases hr0
      have hsh := hB.sb (by simp)
      rw [htB] at hsh
      have hc0 : w.cell? ⟨blk, 0, none⟩ = some (.pointer none) := by simp [World.cell?, hw, h0]
      have hrs : rs.size = 2 := by
        simp only [World.shape?, hw, Option.some.injEq, Prod.mk.injEq] at hsh; exact hsh.2
      have hfz : w.frozen? ⟨blk, 0, none⟩ = false := by
        simp only [World.frozen?, hw, Bool.and_eq_false_iff, decide_eq_false_iff_not]
        rcases hf with h | h
        · subst h; omega
        · left; omega
      refine (cc_fresh L X blk w hc0 hsh hfz).mono ?_
      rintro e w' ⟨rfl, rfl⟩
      -- the store's own law
      have hst : storePV st 1 (.ptr b 0) (.ptr b 0) = some st' := hu
      simp only [storePV, hbx] at hst
      split at hst
      · cases hst
        refine ⟨_, rfl, .tup #[] [] rfl rfl (fun i v p a => by simp at a), ?_, ?_⟩
        · rw [setCell_eq hw]
          have := hsr.setBox (rs' := setA rs 0 [.pointer (some ⟨blk, 0, none⟩)]) (cs' := setCells [.bslot, x] 0 [.ptr b 0]) (if hasTok [PV.ptr b 0] then min st.low b else st.low) hbx hφ hw hf (setA_size _ _ _) (by rw [setCells_length]; exact hl) (fun i c hc => ?_) ?_ (fun c hc => ?_) (fun hm => ?_)
          · exact this
          · simp only [setCells, List.set_cons_zero] at hc
            match i with
            | 0 =>
              simp at hc; subst hc
              exact ⟨.pointer (some ⟨blk, 0, none⟩), by simp [setA, hrs], .ptr b 0 blk hφ⟩
            | i + 1 =>
              have hc' : [PV.bslot, x][i + 1]? = some c := by simpa using hc
              obtain ⟨v1, h1, hr1⟩ := hr (i + 1) c hc'
              refine ⟨v1, ?_, hr1⟩
              simp [setA]; exact h1
          · have := hB.lf
            simp only [setCells, List.set_cons_zero, List.all_cons, leafB] at this ⊢
            simpa using this
          · simp only [setCells, List.set_cons_zero, List.mem_cons, List.not_mem_nil, or_false] at hc
            rcases hc with rfl | rfl
            · simp [PV.inB]
            · exact hB.lw _ (by simp)
          · simp
        · rw [setCell_eq hw]
          exact Fr.setBlk hw hB.ge
      · cases hst
    · -- used
      rename_i b' x hbx
      split at hp
      · rename_i hbb
        subst hbb
        simp only [Option.some.injEq, Prod.mk.injEq] at hp
        obtain ⟨rfl, rfl⟩ := hp
        simp only [updS, Option.some.injEq] at hu
        subst hu
        have hB := hsr.bx b' blk _ hbx hφ
        obtain ⟨rs, ⟨el, lo, hi, hw, hf⟩, hl, hr⟩ := hB.ex
        obtain ⟨v0, h0, hr0⟩ := hr 0 _ rfl
        cases hr0 with | ptr _ _ blk' hφ' =>
        rw [hφ] at hφ'; cases hφ'
        have hc0 : w.cell? ⟨blk, 0, none⟩ = some (.pointer (some ⟨blk, 0, none⟩)) := by simp [World.cell?, hw, h0]
        refine (cc_used L X blk w hc0).mono ?_
        rintro e w' ⟨rfl, rfl⟩
        exact ⟨_, rfl, .tup #[] [] rfl rfl (fun i v p a => by simp at a), hsr, Fr.refl _ _⟩
      · cases hp
    · cases hp
  · cases hp


/-- A room that is nobody's more: its row may be frozen. -/
theorem SR.kill {base : Nat} {κ : K} {w w' : World} {st : St} (h : SR P g base κ w st) {i blk e ce : Nat} {rs : Array Value} {el : TypeId} {fz fz' : Nat × Nat} (hi : st.toks[i]? = some true) (hτ : κ.τ[i]? = some (blk, e, ce))
    (hw : w.heap[blk]? = some (.cells rs el fz)) (hw' : w'.heap = (setBlk w blk rs el fz').heap) : SR P g base κ w' { st with toks := st.toks.set i false } := by
  have hk := h.tk i blk e ce hi hτ
  suffices hs : SR P g base κ (setBlk w blk rs el fz') { st with toks := st.toks.set i false } from hs.heap hw'
  have hcell : ∀ b i, (setBlk w blk rs el fz').cell? ⟨b, i, none⟩ = w.cell? ⟨b, i, none⟩ := fun b i => by
    by_cases hb : b = blk
    · subst hb
      have hlt := (Array.getElem?_eq_some_iff.1 hw).1
      have h2 : (setBlk w b rs el fz').heap[b]? = some (.cells rs el fz') := by simp [setBlk, hlt]
      simp only [World.cell?]
      rw [h2, hw]
    · exact cell_setBlk_other hb
  have hobj : ∀ (k : Nat) (o : Obj), w.heap[k]? = some o → isCells o = false → (setBlk w blk rs el fz').heap[k]? = some o := fun k o ho hc => by
    rw [setBlk_other]
    · exact ho
    · rintro rfl; rw [hw] at ho; cases ho; simp [isCells] at hc
  have hset : ∀ j : Nat, (st.toks.set i false)[j]? = some true → st.toks[j]? = some true ∧ j ≠ i := fun j hj => by
    by_cases hji : j = i
    · subst hji
      rw [List.getElem?_set] at hj
      simp at hj
    · rw [List.getElem?_set_ne (fun h => hji h.symm)] at hj
      exact ⟨hj, hji⟩
  refine { cC := fun b i v hc => by rw [hcell]; exact h.cC b i v hc, sh := fun b t hb => (h.sh b t hb).imp fun n hn => (by rw [shape_setBlk hw rfl]; exact hn), bl := h.bl, bn := h.bn, bx := fun b k cs h1 h2 => ?_, tl := by simp [h.tl], tk := fun j k e ce h1 h2 => ?_,
           td := fun a b ba ea ca bb eb cb h1 h2 h3 h4 h5 => h.td a b ba ea ca bb eb cb (hset a h1).1 (hset b h2).1 h3 h4 h5, ll := h.ll, ln := h.ln, lb := h.lb, lp := fun k l D r h1 h2 => (h.lp k l D r h1 h2).mono (K.le.refl _) hobj, hb := by simpa [setBlk] using h.hb, gv := h.gv }
  · have hx := h.bx b k cs h1 h2
    have hne : k ≠ blk := by rintro rfl; exact hk.nb (List.mem_of_getElem? h2)
    obtain ⟨rs', hc, h3, h4⟩ := hx.ex
    exact ⟨hx.ge, hx.nc, ⟨rs', hc.congr (setBlk_other hne), h3, h4⟩, hx.lf, hx.lw, fun hm => by rw [← hx.sb hm]; exact shape_congr (setBlk_other hne)⟩
  · obtain ⟨q1, q2⟩ := hset j h1
    have hx := h.tk j k e ce q1 h2
    have hne : k ≠ blk := h.td j i k e ce blk _ _ q1 hi h2 hτ q2
    obtain ⟨rs', hc, h3⟩ := hx.ex
    exact ⟨hx.ge, hx.nb, hx.nc, ⟨rs', hc.congr (setBlk_other hne), h3⟩⟩

theorem primBuilderString (L : Lays.n169 P ρ) (X : Builder.Extra P ρ) (htU : g.tU = ρ.t 5) {pf : Func} (hpf : P.funcs[ρ.f 169]? = some pf) (hb : pf.body.isSome = true) (hn : pf.name ≠ "runtime.NumGoroutine") : PrimSOK P g (ρ.f 169) pBuilderString := by
  refine primS_of_calls hpf hb hn (fun base κ w st args ps v u st' hsr hsz hargs hp hu => ?_)
  unfold pBuilderString at hp
  split at hp
  · rename_i bs b
    obtain ⟨u1, rfl⟩ : ∃ u1, args = #[u1] := by
      obtain ⟨l⟩ := args
      match l, hsz with
      | [u1], _ => exact ⟨u1, rfl⟩
    have r1 := hargs 0 u1 _ rfl rfl
    cases r1 with | ptr _ _ blk hφ =>
    split at hp
    · -- nothing was written
      rename_i c0 hbx
      simp only [Option.some.injEq, Prod.mk.injEq] at hp
      obtain ⟨rfl, rfl⟩ := hp
      simp only [updS, Option.some.injEq] at hu
      subst hu
      have hB := hsr.bx b blk _ hbx hφ
      obtain ⟨rs, ⟨el, lo, hi, hw, hf⟩, hl, hr⟩ := hB.ex
      obtain ⟨v0, h0, hr0⟩ := hr 1 .nils rfl
      cases hr0
      have hc : w.cell? ⟨blk, 1, none⟩ = some (.slice none 0 0) := by simp [World.cell?, hw, h0]
      refine (bstring_nil L X blk w hc).mono ?_
      rintro e w' ⟨rfl, rfl⟩
      exact ⟨_, rfl, .str _ _ rfl, hsr.heap rfl, Fr.same rfl rfl rfl rfl⟩
    · rename_i c0 i l hbx
      split at hp
      · cases hp
      · rename_i hne0
        obtain ⟨hne, hrm⟩ : l ≠ [] ∧ l.length ≤ room := by simpa [not_or] using hne0
        simp only [Option.some.injEq, Prod.mk.injEq] at hp
        obtain ⟨rfl, rfl⟩ := hp
        simp only [updS] at hu
        split at hu
        · rename_i hti
          cases hu
          have hB := hsr.bx b blk _ hbx hφ
          obtain ⟨rs, ⟨el, lo, hi, hw, hf⟩, hl, hr⟩ := hB.ex
          obtain ⟨v0, h0, hr0⟩ := hr 1 _ rfl
          cases hr0 with
          | bys blk' off n c _ _ hn2 hc hbb ht hz =>
            obtain ⟨rfl, hS⟩ := hz i rfl
            subst hn2
            obtain ⟨n', hsh⟩ := hsr.sh blk' _ hS
            obtain ⟨e', ce, hτ, hroom⟩ := ht
            have hTK := hsr.tk i blk' e' ce hti hτ
            obtain ⟨rs', ⟨el', lo', hi', hw', hf'⟩, hce⟩ := hTK.ex
            have hn' : n' = rs'.size ∧ el' = g.tU := by
              simp only [World.shape?, hw', Option.some.injEq, Prod.mk.injEq] at hsh
              exact ⟨hsh.2.symm, hsh.1⟩
            have hcl : ∀ j x, l[j]? = some x → w.cell? ⟨blk', j, none⟩ = some (.int .u8 x.toNat) := fun j x hx => by
              have := hsr.cC _ _ _ (hbb j x hx)
              simpa using this
            have hcells : l.length ≤ n' := by
              rcases Nat.lt_or_ge n' l.length with h1 | h1
              · exfalso
                have h2 := hcl n' l[n'] (by simp [h1])
                simp only [World.cell?, hw'] at h2
                simp [hn'.1] at h2
              · exact h1
            have hmax : l.length ≤ 9223372036854775807 := by have e : room = 68719476736 := rfl; omega
            have hcell : w.cell? ⟨blk, 1, none⟩ = some (.slice (some ⟨blk', 0, none⟩) l.length c) := by simp [World.cell?, hw, h0]
            refine (bstring_walk L X blk blk' c n' l w hne hc hcells hmax hcell (by rw [hsh, htU]) hcl).mono ?_
            rintro e w1 ⟨rfl, rfl⟩
            have hlt := (Array.getElem?_eq_some_iff.1 hw').1
            have hfr : ∃ fz, (w.drew.freeze ⟨blk', 0, none⟩ l.length).heap = (setBlk w blk' rs' el' fz).heap := by
              refine ⟨if lo' == hi' then (0, 0 + l.length) else (min lo' 0, max hi' (0 + l.length)), ?_⟩
              simp only [World.freeze, setBlk, World.drew]
              rw [if_neg (by simpa using hne)]
              apply Array.ext_getElem?
              intro j
              rw [Array.getElem?_modify]
              by_cases hj : blk' = j
              · subst hj; rw [if_pos rfl, hw']; simp [hlt]
              · rw [if_neg hj, Array.getElem?_setIfInBounds_ne hj]
            obtain ⟨fz, hfr⟩ := hfr
            refine ⟨_, rfl, .str _ _ rfl, hsr.kill hti hτ hw' hfr, ?_⟩
            refine Fr.of ⟨?_, ?_, ?_, ?_, fun k hk => ?_⟩ fun k o ho hc => ?_
            · simp only [World.freeze]; split <;> rfl
            · simp only [World.freeze]; split <;> rfl
            · simp only [World.freeze]; split <;> rfl
            · rw [hfr]; simp [setBlk]
            · rw [hfr]; exact setBlk_other (by have := hTK.ge; omega)
            · rw [hfr, setBlk_other]
              · exact ho
              · rintro rfl; rw [hw'] at ho; cases ho; simp [isCells] at hc
        · cases hu
    · cases hp
  · cases hp
end Go.Ab

/-
  A row that lists variables: the wrap, the world's shape and what the listed variables hold kept.
-/
namespace Go.Ab
open Go
variable {H : Type} {enc : TypeId × Value → H}

theorem returns_laid_shaped {a : Assume} {C : Checked} {os : Os} {f : FuncId} {fn : Func} {s : ChangeSpec} {conds : List PathCond} {apart fresh handsOn again : Bool} (X : World → Prop) (hX : ∀ w w' : World, w.heap = w'.heap → X w → X w')
    (own : ownKnob C.prog.godebug = none) (started : os.Started) (noInit : C.prog.inits.idxOf? f = none) (hfn : C.prog.funcs[f]? = some fn)
    (witness : ∃ (w : World) (tape : Tape) (i : Input), w.os = os ∧ (w.forCall tape i).Shaped C.prog ∧ i.vars = [] ∧ Input.okWide C.prog (w.forCall tape i) .any w.heap.size f i ∧
      ((s.pre enc C.prog fn conds apart (w.forCall tape i).memory i.args ∧ X (w.forCall tape i).memory) ∧ sizedMet enc C.prog fn (OpenSpec.ofChange s) apart (w.forCall tape i).memory i.args) ∧ a.holds C.prog (lone (Frame.enter C.prog f i.args .normal) [] (w.forCall tape i)))
    (contract : ∀ (W : World) (base : Nat) (args : Array Value) (ds gs : List (DataW H)) (before : List MemPlace),
      (∀ (j : Nat) t v, fn.params[j]? = some t → args[j]? = some v → Value.okWide C.prog W .any base t v) →
      DataW.Whole enc C.prog fn.params.toList s.vars apart W args.toList ds gs before →
      X W →
      (DataW.weightsEach C.prog (fn.params.toList ++ s.plain.varTypes C.prog) (ds ++ gs)).all (· ≤ reachBytes) = true →
      W.ShapedOpen C.prog →
      a.holds C.prog (lone (Frame.enter C.prog f args .normal) [] W) →
      Calls C.prog f args W fun e W' => ∃ v, e = .returned v ∧ s.post enc C.prog fn apart fresh handsOn again W args v W') :
    ReturnsInHanded a C os f .any (fun w args => (s.pre enc C.prog fn conds apart w args ∧ X w) ∧ sizedMet enc C.prog fn (OpenSpec.ofChange s) apart w args) (s.post enc C.prog fn apart fresh handsOn again) := by
  refine returnsInHanded_of_calls own started noInit witness ?_
  intro w tape i _ hshape _ hok hpre hholds
  obtain ⟨_, _, _, fn2, hfn2, _, _, _, _, hval⟩ := hok
  obtain rfl : fn2 = fn := Option.some.inj (hfn2.symm.trans hfn)
  obtain ⟨⟨⟨ds, gs, before, hwhole, _⟩, hlaid⟩, hsized⟩ := hpre
  have hlaid2 : X (w.forCall tape i) := hX _ _ (by rfl) hlaid
  have hwhole2 := DataW.Whole.of_heap (w' := w.forCall tape i) (by rfl) hwhole
  have hrun := contract _ w.heap.size i.args ds gs before hval hwhole2 hlaid2 (hsized.weights hwhole) hshape hholds
  refine hrun.mono ?_
  rintro e W2 ⟨v, rfl, hpost⟩
  exact ChangeSpec.post_blind hpost
end Go.Ab
