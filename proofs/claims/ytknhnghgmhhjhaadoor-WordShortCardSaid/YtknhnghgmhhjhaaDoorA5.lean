/-
  Signs of six digits: written, walked.
-/
import Derived.Test.YtknhnghgmhhjhaaDoorA4
import Derived.Lib.IndexMore
namespace Go.Ab
set_option linter.unusedVariables false
set_option linter.unusedSimpArgs false
set_option maxRecDepth 20000
variable {st s : St} {e : Env}

theorem wrapU32 {n : Int} (h1 : 0 ≤ n) (h2 : n < 4294967296) : IntKind.u32.wrap n = n := by
  unfold IntKind.wrap
  simp only [IntKind.signed, IntKind.bits]
  simp
  omega
theorem c32 {c : UInt8} : cIntPV .u32 (.b8 c) = some (.int .u32 ((c.toNat : Nat) : Int)) := rfl
theorem shl32 {ek : EK} {p k : Nat} (hk : k ≤ 31) (h : p * 2 ^ k < 4294967296) : binPV .shl ek (.int .u32 (p : Int)) (.int .u64 (k : Int)) = some (.int .u32 ((p * 2 ^ k : Nat) : Int)) := by
  simp only [binPV, shI]
  rw [if_neg (by omega)]
  have h6 : min (k : Int).toNat IntKind.u32.bits = k := by
    show min (k : Int).toNat 32 = k
    omega
  have : (p : Int) * 2 ^ (min (k : Int).toNat IntKind.u32.bits) = ((p * 2 ^ k : Nat) : Int) := by rw [h6]; push_cast; rfl
  simp only [this]
  rw [wrapU32 (by omega) (by omega)]
theorem or32 {ek : EK} {p q k : Nat} (h : p * 2 ^ k < 4294967296) (hq : q < 2 ^ k) (hs : p * 2 ^ k + q < 4294967296) : binPV .or ek (.int .u32 ((p * 2 ^ k : Nat) : Int)) (.int .u32 (q : Int)) = some (.int .u32 ((p * 2 ^ k + q : Nat) : Int)) := by
  simp only [binPV, binI, if_true]
  have h3 : (BitVec.ofInt IntKind.u32.bits ((p * 2 ^ k : Nat) : Int) ||| BitVec.ofInt IntKind.u32.bits (q : Int)).toNat = p * 2 ^ k + q := by
    show (BitVec.ofInt 32 ((p * 2 ^ k : Nat) : Int) ||| BitVec.ofInt 32 (q : Int)).toNat = _
    rw [BitVec.ofInt_natCast, BitVec.ofInt_natCast, BitVec.toNat_or, BitVec.toNat_ofNat, BitVec.toNat_ofNat, Nat.mod_eq_of_lt (by omega), Nat.mod_eq_of_lt (by omega)]
    have := Nat.two_pow_add_eq_or_of_lt (i := k) (b := q) hq p
    rw [Nat.mul_comm] at this
    exact this.symm
  rw [h3, wrapU32 (by omega) (by omega)]
theorem shr32 {ek : EK} {k' : IntKind} {p k : Nat} (hk : k ≤ 31) : binPV .shr ek (.int .u32 (p : Int)) (.int k' (k : Int)) = some (.int .u32 ((p / 2 ^ k : Nat) : Int)) := by
  have h6 : min (k : Int).toNat IntKind.u32.bits = k := by
    show min (k : Int).toNat 32 = k
    omega
  have e1 : (p : Int).fdiv (2 ^ (min (k : Int).toNat IntKind.u32.bits)) = ((p / 2 ^ k : Nat) : Int) := by
    rw [h6, Int.fdiv_eq_ediv_of_nonneg _ (Int.le_of_lt (Int.pow_pos (by decide)))]; push_cast; rfl
  simp only [binPV, shI, e1]
  rw [if_neg (by omega)]
theorem and63w {ek : EK} {m : Nat} (h : m < 4294967296) : binPV .and ek (.int .u32 (m : Int)) (.int .u32 63) = some (.int .u32 ((m % 64 : Nat) : Int)) := by
  simp only [binPV, binI, reduceIte, Option.some.injEq]
  have e1 : (BitVec.ofInt IntKind.u32.bits (m : Int) &&& BitVec.ofInt IntKind.u32.bits 63).toNat = m % 64 := by
    rw [BitVec.toNat_and]
    have a1 : (BitVec.ofInt IntKind.u32.bits (m : Int)).toNat = m := by
      simp only [IntKind.bits, BitVec.ofInt_natCast, BitVec.toNat_ofNat]
      exact Nat.mod_eq_of_lt h
    have a2 : (BitVec.ofInt IntKind.u32.bits 63).toNat = 63 := by decide
    rw [a1, a2]
    exact Nat.and_two_pow_sub_one_eq_mod m 6
  rw [e1, wrapU32 (by omega) (by omega)]
theorem sgn_at {m : Nat} (h : m < 64) : idxSPV (.str [65, 66, 67, 68, 69, 70, 71, 72, 73, 74, 75, 76, 77, 78, 79, 80, 81, 82, 83, 84, 85, 86, 87, 88, 89, 90, 97, 98, 99, 100, 101, 102, 103, 104, 105, 106, 107, 108, 109, 110, 111, 112, 113, 114, 115, 116, 117, 118, 119, 120, 121, 122, 48, 49, 50, 51, 52, 53, 54, 55, 56, 57, 43, 47]) (.int .u32 (m : Int)) = some (.b8 (sg m)) := by
  show idxSPV (.str sgns) (.int .u32 (m : Int)) = _
  have hl : sgns.length = 64 := rfl
  simp only [idxSPV, intOf, hl]
  rw [if_pos ⟨by omega, by omega⟩, Int.toNat_natCast]
  rfl

/-- Three bytes as a number. -/
def v3 (r : Bs) : Nat := (r.getD 0 0).toNat * 2 ^ 16 + (r.getD 1 0).toNat * 2 ^ 8 + (r.getD 2 0).toNat
/-- The i-th of four signs of what stands at the front. -/
def ch4 (r : Bs) (i : Nat) : UInt8 := if i ≤ min r.length 3 then sg (v3 r / 2 ^ (18 - 6 * i) % 64) else 61
theorem v3_lt (r : Bs) : v3 r < 16777216 := by
  have h0 := (r.getD 0 0).toNat_lt; have h1 := (r.getD 1 0).toNat_lt; have h2 := (r.getD 2 0).toNat_lt
  unfold v3; omega
theorem enc64_step {r : Bs} (h : r ≠ []) : enc64 r = [ch4 r 0, ch4 r 1, ch4 r 2, ch4 r 3] ++ enc64 (r.drop 3) := by
  match r, h with
  | [a], _ =>
    have ha := a.toNat_lt
    have e0 : v3 [a] = a.toNat * 65536 := by simp [v3]
    simp only [enc64, ch4, e0, List.length_cons, List.length_nil, List.drop]
    rw [show a.toNat * 65536 / 2 ^ (18 - 6 * 0) % 64 = a.toNat / 4 by omega, show a.toNat * 65536 / 2 ^ (18 - 6 * 1) % 64 = a.toNat % 4 * 16 by omega]
    simp
  | [a, b], _ =>
    have ha := a.toNat_lt; have hb := b.toNat_lt
    have e0 : v3 [a, b] = a.toNat * 65536 + b.toNat * 256 := by simp [v3]
    simp only [enc64, ch4, e0, List.length_cons, List.length_nil, List.drop]
    rw [show (a.toNat * 65536 + b.toNat * 256) / 2 ^ (18 - 6 * 0) % 64 = a.toNat / 4 by omega, show (a.toNat * 65536 + b.toNat * 256) / 2 ^ (18 - 6 * 1) % 64 = a.toNat % 4 * 16 + b.toNat / 16 by omega,
      show (a.toNat * 65536 + b.toNat * 256) / 2 ^ (18 - 6 * 2) % 64 = b.toNat % 16 * 4 by omega]
    simp
  | a :: b :: c :: t, _ =>
    have ha := a.toNat_lt; have hb := b.toNat_lt; have hc := c.toNat_lt
    have e0 : v3 (a :: b :: c :: t) = a.toNat * 65536 + b.toNat * 256 + c.toNat := by simp [v3]
    have e1 : min (a :: b :: c :: t).length 3 = 3 := by simp
    simp only [enc64, ch4, e0, e1, List.drop]
    rw [show (a.toNat * 65536 + b.toNat * 256 + c.toNat) / 2 ^ (18 - 6 * 0) % 64 = a.toNat / 4 by omega, show (a.toNat * 65536 + b.toNat * 256 + c.toNat) / 2 ^ (18 - 6 * 1) % 64 = a.toNat % 4 * 16 + b.toNat / 16 by omega,
      show (a.toNat * 65536 + b.toNat * 256 + c.toNat) / 2 ^ (18 - 6 * 2) % 64 = b.toNat % 16 * 4 + c.toNat / 64 by omega, show (a.toNat * 65536 + b.toNat * 256 + c.toNat) / 2 ^ (18 - 6 * 3) % 64 = c.toNat % 64 by omega]
    simp
theorem three_set (r : Bs) (h : r ≠ []) : setCells [.b8 0, .b8 0, .b8 0] 0 ((r.take 3).map .b8) = [.b8 (r.getD 0 0), .b8 (r.getD 1 0), .b8 (r.getD 2 0)] := by
  match r, h with
  | [a], _ => simp [setCells]
  | [a, b], _ => simp [setCells]
  | a :: b :: c :: t, _ => simp [setCells]

theorem fits_spec {n : Nat} (h : n ≤ 1048576) : call prog (.fn 245 []) [.int .i64 (n : Int), .int .i64 0] st = some (.int .i64 0, st) := by
  refine call_of_W prog_245 ?_
  unfold F_bits_fits; dsimp only
  have r4 : binPV .rem .no (.int .i64 0) (.int .i64 4) = some (.int .i64 0) := rfl
  have e1 : ¬ ((n : Int) < 0) := by omega
  have e2 : ¬ ((1048576 : Int) < (n : Int)) := by omega
  simp (maxSteps := 1000000) (disch := omega) only [r4, e1, e2, W_seq, W_region, W_cond, W_block, W_skip, W_label, W_exit, W_goto, W_ret, WO_cons, WO_consG, WO_nil, wantedA_eq, wantB, evOp, ev_tmp, ev_const, ev_fn, WN_some, WN_none, updO_some, updO_none, upd_eq,
 ↓reduceIte, Nat.reduceEqDiff, List.nil_append, List.cons_append, List.append_nil, List.map_cons, List.map_nil, env0_zero, env0_succ, env0_nil, Option.map_some, Option.map_none, seqQ_normal, seqQ_ret, seqQ_exit, seqQ_goto, blockQ_normal, blockQ_ret, blockQ_exit, blockQ_goto, condW_bool, loopQ_ret, loopQ_exit, loopQ_goto, endQ_ret, endQ_normal, keep_mk, keep_st,
 lss_i, leq_i, gtr_i, geq_i, eql_i, neq_i, eql_8, neq_8, lss_8, leq_8, gtr_8, geq_8, eql_s, neq_s, eql_b, neq_b, not_b, by_bys, by_nils, load_cp1, beq_true, beq_false, Bool.not_eq_true', decide_eq_true_eq, decide_eq_false_iff_not, decide_true, decide_false,
 Int.toNat_natCast, Int.ofNat_lt, Int.ofNat_le, Int.natCast_inj, Bool.false_eq_true, Bool.true_eq_false, extPV, List.getElem?_cons_zero, List.getElem?_cons_succ, nilckPV, Int.reduceToNat, Int.reduceLE, true_and, and_true, reduceCtorEq, or_false, false_or, or_true, Option.some.injEq, exists_eq_left', Bool.not_true, Bool.not_false, ne_eq, Int.reduceEq, not_true_eq_false, not_false_eq_true, Int.reduceLT, UInt8.reduceLT, UInt8.reduceLE, UInt8.reduceToNat]
  exact retI rfl Kept.start rfl
theorem Bu.alloc {b : Nat} {x : PV} {l : Bs} {z : List PV} (h : Bu s b x l) : Bu ⟨s.boxes ++ [z], s.toks, s.loops, s.low⟩ b x l := by
  have hlt := h.lt
  refine ⟨?_, h.lv.move fun _ _ => rfl⟩
  rw [List.getElem?_append_left hlt]; exact h.bx

set_option maxHeartbeats 4000000 in
theorem bEncode_spec {v : PV} {l : Bs} (hv : v.by = some l) (hl : l.length ≤ 1000000) : call prog (.fn 234 []) [v, .int .i64 0] st = some (.tup [.str (enc64 l), .int .i64 0], st) := by
  refine call_of_W prog_234 ?_
  unfold F_bits_Encode; dsimp only
  have hft := fun S : St => fits_spec (st := S) (n := l.length) (by omega)
  obtain ⟨T, hT⟩ : ∃ T, T = enc64 l := ⟨_, rfl⟩
  rw [← hT]
  simp (maxSteps := 1000000) (disch := omega) only [len_by hv, hft, allocPV, W_seq, W_region, W_cond, W_block, W_skip, W_label, W_exit, W_goto, W_ret, WO_cons, WO_consG, WO_nil, wantedA_eq, wantB, evOp, ev_tmp, ev_const, ev_fn, WN_some, WN_none, updO_some, updO_none, upd_eq,
 ↓reduceIte, Nat.reduceEqDiff, List.nil_append, List.cons_append, List.append_nil, List.map_cons, List.map_nil, env0_zero, env0_succ, env0_nil, Option.map_some, Option.map_none, seqQ_normal, seqQ_ret, seqQ_exit, seqQ_goto, blockQ_normal, blockQ_ret, blockQ_exit, blockQ_goto, condW_bool, loopQ_ret, loopQ_exit, loopQ_goto, endQ_ret, endQ_normal, keep_mk, keep_st,
 lss_i, leq_i, gtr_i, geq_i, eql_i, neq_i, eql_8, neq_8, lss_8, leq_8, gtr_8, geq_8, eql_s, neq_s, eql_b, neq_b, not_b, by_bys, by_nils, load_cp1, beq_true, beq_false, Bool.not_eq_true', decide_eq_true_eq, decide_eq_false_iff_not, decide_true, decide_false,
 Int.toNat_natCast, Int.ofNat_lt, Int.ofNat_le, Int.natCast_inj, Bool.false_eq_true, Bool.true_eq_false, extPV, List.getElem?_cons_zero, List.getElem?_cons_succ, nilckPV, Int.reduceToNat, Int.reduceLE, true_and, and_true, reduceCtorEq, or_false, false_or, or_true, Option.some.injEq, exists_eq_left', Bool.not_true, Bool.not_false, ne_eq, Int.reduceEq, not_true_eq_false, not_false_eq_true, Int.reduceLT, UInt8.reduceLT, UInt8.reduceLE, UInt8.reduceToNat]
  obtain ⟨Q0, hQ0⟩ : ∃ Q0 : Ex → Env → St → Prop, Q0 = endQ st [.tmp 4, .tmp 5] (.tup [.str T, .int .i64 0], st) := ⟨_, rfl⟩
  rw [← hQ0]
  obtain ⟨b, hb0⟩ : ∃ b, b = st.boxes.length := ⟨_, rfl⟩
  obtain ⟨I, hI⟩ : ∃ I : Nat → Env → St → Prop, I = fun k E S => ∃ (r acc : Bs) (x y : PV) (m : Nat), k = r.length ∧ Kept st S ∧ Bu S b x acc ∧ (∀ t, tokOf x = some t → st.toks.length ≤ t) ∧ (acc = [] → x = .nils) ∧ acc.length + 4 * r.length ≤ 4 * l.length ∧ m + 4 * r.length ≤ 4 * l.length ∧ T = acc ++ enc64 r ∧ y.by = some r ∧ E 0 = y ∧ E 1 = .int .i64 0 ∧ E 7 = .ptr b 0 ∧ E 8 = .int .i64 (m : Int) := ⟨_, rfl⟩
  refine W_loop I ?_ (n := l.length) (by
    rw [hI]
    exact ⟨l, [], .nils, v, 0, rfl, Kept.start.alloc, ⟨.inl (by rw [hb0]; simp), .inl ⟨rfl, rfl⟩⟩, fun t h => (by cases h), fun _ => rfl, by simp, by omega, hT, hv, rfl, rfl, by rw [hb0]; rfl, rfl⟩)
  intro k E S hh
  rw [hI] at hh
  obtain ⟨r, acc, x, y, m, rfl, hk, hb, hm, hz, hal, hml, hTT, hy, h0, h1, h7, h8⟩ := hh
  have hroom : room = 68719476736 := rfl
  by_cases hr : r = []
  · subst hr
    have hln : lenPV false y = some (.int .i64 0) := by rw [len_by hy]; rfl
    rw [enc64, List.append_nil] at hTT
    obtain ⟨s3, b1, k3⟩ := hk.string (BString_spec hb hz (by omega)) hm
    simp (maxSteps := 1000000) (disch := omega) only [h0, h1, h7, h8, hln, b1, W_seq, W_region, W_cond, W_block, W_skip, W_label, W_exit, W_goto, W_ret, WO_cons, WO_consG, WO_nil, wantedA_eq, wantB, evOp, ev_tmp, ev_const, ev_fn, WN_some, WN_none, updO_some, updO_none, upd_eq,
 ↓reduceIte, Nat.reduceEqDiff, List.nil_append, List.cons_append, List.append_nil, List.map_cons, List.map_nil, env0_zero, env0_succ, env0_nil, Option.map_some, Option.map_none, seqQ_normal, seqQ_ret, seqQ_exit, seqQ_goto, blockQ_normal, blockQ_ret, blockQ_exit, blockQ_goto, condW_bool, loopQ_ret, loopQ_exit, loopQ_goto, endQ_ret, endQ_normal, keep_mk, keep_st,
 lss_i, leq_i, gtr_i, geq_i, eql_i, neq_i, eql_8, neq_8, lss_8, leq_8, gtr_8, geq_8, eql_s, neq_s, eql_b, neq_b, not_b, by_bys, by_nils, load_cp1, beq_true, beq_false, Bool.not_eq_true', decide_eq_true_eq, decide_eq_false_iff_not, decide_true, decide_false,
 Int.toNat_natCast, Int.ofNat_lt, Int.ofNat_le, Int.natCast_inj, Bool.false_eq_true, Bool.true_eq_false, extPV, List.getElem?_cons_zero, List.getElem?_cons_succ, nilckPV, Int.reduceToNat, Int.reduceLE, true_and, and_true, reduceCtorEq, or_false, false_or, or_true, Option.some.injEq, exists_eq_left', Bool.not_true, Bool.not_false, ne_eq, Int.reduceEq, not_true_eq_false, not_false_eq_true, Int.reduceLT, UInt8.reduceLT, UInt8.reduceLE, UInt8.reduceToNat]
    rw [hQ0, endQ_ret, hTT]
    exact retV2 rfl rfl rfl rfl k3 ⟨fun _ => rfl, fun _ _ => rfl⟩
  · have hpos := List.length_pos_iff.2 hr
    have hlp : (0 : Int) < (r.length : Int) := by omega
    obtain ⟨n, hn⟩ : ∃ n, n = min r.length 3 := ⟨_, rfl⟩
    have hn1 : 1 ≤ n ∧ n ≤ 3 ∧ n ≤ r.length := by omega
    obtain ⟨q, hq⟩ : ∃ q, q = S.boxes.length := ⟨_, rfl⟩
    obtain ⟨S2, hS2⟩ : ∃ S2 : St, S2 = ⟨S.boxes ++ [[.b8 (r.getD 0 0), .b8 (r.getD 1 0), .b8 (r.getD 2 0)]], S.toks, S.loops, S.low⟩ := ⟨_, rfl⟩
    have hsl : slcAPV 3 1 (.ptr q 0) none none none = some (.ms q 0 3) := by simp [slcAPV, bnd]
    have hcp : copyPV ⟨S.boxes ++ [[.b8 0, .b8 0, .b8 0]], S.toks, S.loops, S.low⟩ (.ms q 0 3) y = some (.int .i64 (n : Int), S2) := by
      have h3 := three_set r hr
      simp only [copyPV, src8_by hy]
      rw [hq, hS2, hn]
      simp only [List.map_take, List.getD_eq_getElem?_getD] at h3
      simp [h3]
    have hd : slcPV 1 y (some (.int .i64 (n : Int))) none none = some (y.dropB n) := by rw [slc_lo hy (by omega) (by omega)]; rfl
    have hdd := dropB_by (i := n) hy
    have hdn : r.drop n = r.drop 3 := by
      rcases Nat.lt_or_ge r.length 3 with h | h
      · rw [List.drop_of_length_le (by omega), List.drop_of_length_le (by omega)]
      · rw [hn, Nat.min_eq_right h]
    have hbx2 : S2.boxes[q]? = some [.b8 (r.getD 0 0), .b8 (r.getD 1 0), .b8 (r.getD 2 0)] := by rw [hS2, hq]; simp
    have p0 : iaddrAPV 3 1 (.ptr q 0) (.int .i64 0) = some (.ptr q 0) := by simp [iaddrAPV, intOf, faddrPV]
    have p1 : iaddrAPV 3 1 (.ptr q 0) (.int .i64 1) = some (.ptr q 1) := by simp [iaddrAPV, intOf, faddrPV]
    have p2 : iaddrAPV 3 1 (.ptr q 0) (.int .i64 2) = some (.ptr q 2) := by simp [iaddrAPV, intOf, faddrPV]
    have l0 : loadPV S2 false 1 (.ptr q 0) = some (.b8 (r.getD 0 0)) := by simp [loadPV, hbx2, readCells]
    have l1 : loadPV S2 false 1 (.ptr q 1) = some (.b8 (r.getD 1 0)) := by simp [loadPV, hbx2, readCells]
    have l2 : loadPV S2 false 1 (.ptr q 2) = some (.b8 (r.getD 2 0)) := by simp [loadPV, hbx2, readCells]
    have b0 := (r.getD 0 0).toNat_lt; have b1 := (r.getD 1 0).toNat_lt; have b2 := (r.getD 2 0).toNat_lt
    obtain ⟨V, hV⟩ : ∃ V, V = v3 r := ⟨_, rfl⟩
    have hVl : V < 16777216 := by rw [hV]; exact v3_lt r
    have q1 : binPV .shl .no (.int .u32 (((r.getD 0 0).toNat : Nat) : Int)) (.int .u64 16) = some (.int .u32 (((r.getD 0 0).toNat * 2 ^ 16 : Nat) : Int)) := shl32 (k := 16) (by omega) (by omega)
    have q2 : binPV .shl .no (.int .u32 (((r.getD 1 0).toNat : Nat) : Int)) (.int .u64 8) = some (.int .u32 (((r.getD 1 0).toNat * 2 ^ 8 : Nat) : Int)) := shl32 (k := 8) (by omega) (by omega)
    have q3 : binPV .or .no (.int .u32 (((r.getD 0 0).toNat * 2 ^ 16 : Nat) : Int)) (.int .u32 (((r.getD 1 0).toNat * 2 ^ 8 : Nat) : Int)) = some (.int .u32 ((((r.getD 0 0).toNat * 2 ^ 8 + (r.getD 1 0).toNat) * 2 ^ 8 : Nat) : Int)) := by
      rw [or32 (k := 16) (by omega) (by omega) (by omega)]; congr 3; omega
    have q4 : binPV .or .no (.int .u32 ((((r.getD 0 0).toNat * 2 ^ 8 + (r.getD 1 0).toNat) * 2 ^ 8 : Nat) : Int)) (.int .u32 (((r.getD 2 0).toNat : Nat) : Int)) = some (.int .u32 (V : Int)) := by
      rw [or32 (k := 8) (by omega) (by omega) (by omega), hV]; unfold v3; congr 3; omega
    have k2 : Kept st S2 := by rw [hS2]; exact hk.alloc
    have hb2 : Bu S2 b x acc := by rw [hS2]; exact hb.alloc
    rw [enc64_step hr] at hTT
    simp (maxSteps := 1000000) (disch := omega) only [h0, h1, h7, h8, len_by hy, hlp, allocPV, ← hq, hsl, hcp, hd, p0, p1, p2, l0, l1, l2, c32, q1, q2, q3, q4, W_seq, W_region, W_cond, W_block, W_skip, W_label, W_exit, W_goto, W_ret, WO_cons, WO_consG, WO_nil, wantedA_eq, wantB, evOp, ev_tmp, ev_const, ev_fn, WN_some, WN_none, updO_some, updO_none, upd_eq,
 ↓reduceIte, Nat.reduceEqDiff, List.nil_append, List.cons_append, List.append_nil, List.map_cons, List.map_nil, env0_zero, env0_succ, env0_nil, Option.map_some, Option.map_none, seqQ_normal, seqQ_ret, seqQ_exit, seqQ_goto, blockQ_normal, blockQ_ret, blockQ_exit, blockQ_goto, condW_bool, loopQ_ret, loopQ_exit, loopQ_goto, endQ_ret, endQ_normal, keep_mk, keep_st,
 lss_i, leq_i, gtr_i, geq_i, eql_i, neq_i, eql_8, neq_8, lss_8, leq_8, gtr_8, geq_8, eql_s, neq_s, eql_b, neq_b, not_b, by_bys, by_nils, load_cp1, beq_true, beq_false, Bool.not_eq_true', decide_eq_true_eq, decide_eq_false_iff_not, decide_true, decide_false,
 Int.toNat_natCast, Int.ofNat_lt, Int.ofNat_le, Int.natCast_inj, Bool.false_eq_true, Bool.true_eq_false, extPV, List.getElem?_cons_zero, List.getElem?_cons_succ, nilckPV, Int.reduceToNat, Int.reduceLE, true_and, and_true, reduceCtorEq, or_false, false_or, or_true, Option.some.injEq, exists_eq_left', Bool.not_true, Bool.not_false, ne_eq, Int.reduceEq, not_true_eq_false, not_false_eq_true, Int.reduceLT, UInt8.reduceLT, UInt8.reduceLE, UInt8.reduceToNat]
    refine W_mono (Q := fun xx E2 S3 => xx = .exit 2 ∧ ∃ x2 : PV, Kept st S3 ∧ Bu S3 b x2 (acc ++ [ch4 r 0, ch4 r 1, ch4 r 2, ch4 r 3]) ∧ (∀ t, tokOf x2 = some t → st.toks.length ≤ t) ∧ E2 0 = y.dropB n ∧ E2 1 = .int .i64 0 ∧ E2 7 = .ptr b 0 ∧ E2 8 = .int .i64 (m : Int)) ?_ ?_
    · obtain ⟨J, hJ⟩ : ∃ J : Nat → Env → St → Prop, J = fun k E2 S3 => ∃ (i : Nat) (x2 : PV), k = 4 - i ∧ i ≤ 4 ∧ Kept st S3 ∧ Bu S3 b x2 (acc ++ (List.range i).map (ch4 r)) ∧ (∀ t, tokOf x2 = some t → st.toks.length ≤ t) ∧ E2 0 = y.dropB n ∧ E2 1 = .int .i64 0 ∧ E2 7 = .ptr b 0 ∧ E2 8 = .int .i64 (m : Int) ∧ E2 10 = .int .i64 (n : Int) ∧ E2 11 = .int .u32 (V : Int) ∧ E2 50 = .int .i64 (i : Int) := ⟨_, rfl⟩
      refine W_loop J ?_ (n := 4) (by
        rw [hJ]
        exact ⟨0, x, rfl, by omega, k2, by simpa using hb2, hm, rfl, h1, h7, h8, rfl, rfl, rfl⟩)
      intro k E2 S3 hh2
      rw [hJ] at hh2
      obtain ⟨i, x2, rfl, hi, hk3, hb3, hm3, g0, g1, g7, g8, g10, g11, g50⟩ := hh2
      by_cases hi4 : i < 4
      · have hi4' : (i : Int) < 4 := by omega
        obtain ⟨x3, S4, w1, w2⟩ := WriteByte_spec (c := ch4 r i) hb3 (by simp; omega)
        obtain ⟨k4, k5⟩ := hk3.step w2 (by omega) hm3
        have next : ∀ E3 : Env, E3 0 = y.dropB n → E3 1 = .int .i64 0 → E3 7 = .ptr b 0 → E3 8 = .int .i64 (m : Int) → E3 10 = .int .i64 (n : Int) → E3 11 = .int .u32 (V : Int) → E3 50 = .int .i64 ((i + 1 : Nat) : Int) → ∃ m, m < 4 - i ∧ J m E3 S4 := fun E3 e0 e1 e7 e8 e10 e11 e50 => by
          refine ⟨4 - (i + 1), by omega, ?_⟩
          rw [hJ]
          refine ⟨i + 1, x3, rfl, by omega, k4, ?_, k5, e0, e1, e7, e8, e10, e11, e50⟩
          have := w2.bu hb3.lt
          rw [List.range_succ, List.map_append, ← List.append_assoc]
          exact this
        by_cases hin : i ≤ n
        · have hin' : (i : Int) ≤ (n : Int) := by omega
          have m1 : binPV .mul .no (.int .i64 6) (.int .i64 (i : Int)) = some (.int .i64 ((6 * i : Nat) : Int)) := mul_n (c := 6) (by omega)
          have m2 : binPV .sub .no (.int .i64 18) (.int .i64 ((6 * i : Nat) : Int)) = some (.int .i64 ((18 - 6 * i : Nat) : Int)) := by
            rw [sub_i (by omega) (by omega)]; congr 2; omega
          have m3 : binPV .shr .no (.int .u32 (V : Int)) (.int .i64 ((18 - 6 * i : Nat) : Int)) = some (.int .u32 ((V / 2 ^ (18 - 6 * i) : Nat) : Int)) := shr32 (by omega)
          have hdv : V / 2 ^ (18 - 6 * i) ≤ V := Nat.div_le_self _ _
          have m4 : binPV .and .no (.int .u32 ((V / 2 ^ (18 - 6 * i) : Nat) : Int)) (.int .u32 63) = some (.int .u32 ((V / 2 ^ (18 - 6 * i) % 64 : Nat) : Int)) := and63w (by omega)
          have m5 := sgn_at (m := V / 2 ^ (18 - 6 * i) % 64) (Nat.mod_lt _ (by omega))
          have hch : ch4 r i = sg (V / 2 ^ (18 - 6 * i) % 64) := by unfold ch4; rw [← hn, if_pos hin, hV]
          rw [hch] at w1
          simp (maxSteps := 1000000) (disch := omega) only [g0, g1, g7, g8, g10, g11, g50, hi4', hin', m1, m2, m3, m4, m5, w1, add_n, loopQ_normal, W_seq, W_region, W_cond, W_block, W_skip, W_label, W_exit, W_goto, W_ret, WO_cons, WO_consG, WO_nil, wantedA_eq, wantB, evOp, ev_tmp, ev_const, ev_fn, WN_some, WN_none, updO_some, updO_none, upd_eq,
 ↓reduceIte, Nat.reduceEqDiff, List.nil_append, List.cons_append, List.append_nil, List.map_cons, List.map_nil, env0_zero, env0_succ, env0_nil, Option.map_some, Option.map_none, seqQ_normal, seqQ_ret, seqQ_exit, seqQ_goto, blockQ_normal, blockQ_ret, blockQ_exit, blockQ_goto, condW_bool, loopQ_ret, loopQ_exit, loopQ_goto, endQ_ret, endQ_normal, keep_mk, keep_st,
 lss_i, leq_i, gtr_i, geq_i, eql_i, neq_i, eql_8, neq_8, lss_8, leq_8, gtr_8, geq_8, eql_s, neq_s, eql_b, neq_b, not_b, by_bys, by_nils, load_cp1, beq_true, beq_false, Bool.not_eq_true', decide_eq_true_eq, decide_eq_false_iff_not, decide_true, decide_false,
 Int.toNat_natCast, Int.ofNat_lt, Int.ofNat_le, Int.natCast_inj, Bool.false_eq_true, Bool.true_eq_false, extPV, List.getElem?_cons_zero, List.getElem?_cons_succ, nilckPV, Int.reduceToNat, Int.reduceLE, true_and, and_true, reduceCtorEq, or_false, false_or, or_true, Option.some.injEq, exists_eq_left', Bool.not_true, Bool.not_false, ne_eq, Int.reduceEq, not_true_eq_false, not_false_eq_true, Int.reduceLT, UInt8.reduceLT, UInt8.reduceLE, UInt8.reduceToNat]
          exact next _ g0 g1 g7 g8 g10 g11 rfl
        · have hin' : ¬ (i : Int) ≤ (n : Int) := by omega
          have hch : ch4 r i = 61 := by unfold ch4; rw [← hn, if_neg hin]
          rw [hch] at w1
          simp (maxSteps := 1000000) (disch := omega) only [g0, g1, g7, g8, g10, g11, g50, hi4', hin', w1, add_n, loopQ_normal, W_seq, W_region, W_cond, W_block, W_skip, W_label, W_exit, W_goto, W_ret, WO_cons, WO_consG, WO_nil, wantedA_eq, wantB, evOp, ev_tmp, ev_const, ev_fn, WN_some, WN_none, updO_some, updO_none, upd_eq,
 ↓reduceIte, Nat.reduceEqDiff, List.nil_append, List.cons_append, List.append_nil, List.map_cons, List.map_nil, env0_zero, env0_succ, env0_nil, Option.map_some, Option.map_none, seqQ_normal, seqQ_ret, seqQ_exit, seqQ_goto, blockQ_normal, blockQ_ret, blockQ_exit, blockQ_goto, condW_bool, loopQ_ret, loopQ_exit, loopQ_goto, endQ_ret, endQ_normal, keep_mk, keep_st,
 lss_i, leq_i, gtr_i, geq_i, eql_i, neq_i, eql_8, neq_8, lss_8, leq_8, gtr_8, geq_8, eql_s, neq_s, eql_b, neq_b, not_b, by_bys, by_nils, load_cp1, beq_true, beq_false, Bool.not_eq_true', decide_eq_true_eq, decide_eq_false_iff_not, decide_true, decide_false,
 Int.toNat_natCast, Int.ofNat_lt, Int.ofNat_le, Int.natCast_inj, Bool.false_eq_true, Bool.true_eq_false, extPV, List.getElem?_cons_zero, List.getElem?_cons_succ, nilckPV, Int.reduceToNat, Int.reduceLE, true_and, and_true, reduceCtorEq, or_false, false_or, or_true, Option.some.injEq, exists_eq_left', Bool.not_true, Bool.not_false, ne_eq, Int.reduceEq, not_true_eq_false, not_false_eq_true, Int.reduceLT, UInt8.reduceLT, UInt8.reduceLE, UInt8.reduceToNat]
          exact next _ g0 g1 g7 g8 g10 g11 rfl
      · have hi4' : ¬ (i : Int) < 4 := by omega
        obtain rfl : i = 4 := by omega
        simp (maxSteps := 1000000) (disch := omega) only [g0, g1, g7, g8, g10, g11, g50, hi4', W_seq, W_region, W_cond, W_block, W_skip, W_label, W_exit, W_goto, W_ret, WO_cons, WO_consG, WO_nil, wantedA_eq, wantB, evOp, ev_tmp, ev_const, ev_fn, WN_some, WN_none, updO_some, updO_none, upd_eq,
 ↓reduceIte, Nat.reduceEqDiff, List.nil_append, List.cons_append, List.append_nil, List.map_cons, List.map_nil, env0_zero, env0_succ, env0_nil, Option.map_some, Option.map_none, seqQ_normal, seqQ_ret, seqQ_exit, seqQ_goto, blockQ_normal, blockQ_ret, blockQ_exit, blockQ_goto, condW_bool, loopQ_ret, loopQ_exit, loopQ_goto, endQ_ret, endQ_normal, keep_mk, keep_st,
 lss_i, leq_i, gtr_i, geq_i, eql_i, neq_i, eql_8, neq_8, lss_8, leq_8, gtr_8, geq_8, eql_s, neq_s, eql_b, neq_b, not_b, by_bys, by_nils, load_cp1, beq_true, beq_false, Bool.not_eq_true', decide_eq_true_eq, decide_eq_false_iff_not, decide_true, decide_false,
 Int.toNat_natCast, Int.ofNat_lt, Int.ofNat_le, Int.natCast_inj, Bool.false_eq_true, Bool.true_eq_false, extPV, List.getElem?_cons_zero, List.getElem?_cons_succ, nilckPV, Int.reduceToNat, Int.reduceLE, true_and, and_true, reduceCtorEq, or_false, false_or, or_true, Option.some.injEq, exists_eq_left', Bool.not_true, Bool.not_false, ne_eq, Int.reduceEq, not_true_eq_false, not_false_eq_true, Int.reduceLT, UInt8.reduceLT, UInt8.reduceLE, UInt8.reduceToNat]
        exact ⟨x2, hk3, hb3, hm3⟩
    · intro xx E2 S3 hh2
      obtain ⟨rfl, x2, hk3, hb3, hm3, g0, g1, g7, g8⟩ := hh2
      simp (maxSteps := 1000000) (disch := omega) only [g0, g1, g7, g8, add_n, loopQ_normal, W_seq, W_region, W_cond, W_block, W_skip, W_label, W_exit, W_goto, W_ret, WO_cons, WO_consG, WO_nil, wantedA_eq, wantB, evOp, ev_tmp, ev_const, ev_fn, WN_some, WN_none, updO_some, updO_none, upd_eq,
 ↓reduceIte, Nat.reduceEqDiff, List.nil_append, List.cons_append, List.append_nil, List.map_cons, List.map_nil, env0_zero, env0_succ, env0_nil, Option.map_some, Option.map_none, seqQ_normal, seqQ_ret, seqQ_exit, seqQ_goto, blockQ_normal, blockQ_ret, blockQ_exit, blockQ_goto, condW_bool, loopQ_ret, loopQ_exit, loopQ_goto, endQ_ret, endQ_normal, keep_mk, keep_st,
 lss_i, leq_i, gtr_i, geq_i, eql_i, neq_i, eql_8, neq_8, lss_8, leq_8, gtr_8, geq_8, eql_s, neq_s, eql_b, neq_b, not_b, by_bys, by_nils, load_cp1, beq_true, beq_false, Bool.not_eq_true', decide_eq_true_eq, decide_eq_false_iff_not, decide_true, decide_false,
 Int.toNat_natCast, Int.ofNat_lt, Int.ofNat_le, Int.natCast_inj, Bool.false_eq_true, Bool.true_eq_false, extPV, List.getElem?_cons_zero, List.getElem?_cons_succ, nilckPV, Int.reduceToNat, Int.reduceLE, true_and, and_true, reduceCtorEq, or_false, false_or, or_true, Option.some.injEq, exists_eq_left', Bool.not_true, Bool.not_false, ne_eq, Int.reduceEq, not_true_eq_false, not_false_eq_true, Int.reduceLT, UInt8.reduceLT, UInt8.reduceLE, UInt8.reduceToNat]
      refine ⟨(r.drop 3).length, by simp; omega, ?_⟩
      rw [hI]
      rw [hdn] at hdd
      refine ⟨r.drop 3, _, x2, y.dropB n, m + 4, rfl, hk3, hb3, hm3, fun h => by simp at h, by simp; omega, by simp; omega, by rw [hTT]; simp, hdd, g0, g1, g7, rfl⟩
end Go.Ab

/-
  Signs of six digits: read, walked.
-/
namespace Go.Ab
set_option linter.unusedVariables false
set_option linter.unusedSimpArgs false
set_option maxRecDepth 20000
variable {st s : St} {e : Env}

/-! ### A call of which something is said -/
def endX (st : St) (rs : List RV) (R : PV × St → Prop) : Ex → Env → St → Prop := fun x e1 st1 => (x = .normal ∨ x = .ret) ∧ ∃ rv, resOf e1 st1 rs = some rv ∧ R (leave st st1 rv)
theorem call_ex {f : Nat} {args : List PV} {fn : ACFn} {R : PV × St → Prop} (hA : prog f = some (.code fn))
    (h : W prog fn.body (env0 args) { st with low := st.boxes.length } (endX st fn.results R)) : ∃ r, call prog (.fn f []) args st = some r ∧ R r := by
  obtain ⟨⟨x, e1, st1⟩, h1, h2, rv, h3, h4⟩ := h
  refine ⟨_, ?_, h4⟩
  rw [call_fn hA, List.append_nil, h1]
  rcases h2 with rfl | rfl
  · simp only [finish]; simp only at h3 h4; rw [h3]; rfl
  · simp only [finish]; simp only at h3 h4; rw [h3]; rfl

/-- What must come of signs that are read. -/
def decOK (st : St) (s : Bs) (r : PV × St) : Prop := ∃ (y : PV) (f0 f1 : Int), r.1 = .tup [y, .agg [.int .i64 f0, .int .i64 f1]] ∧ (r.2 = st ∨ r.2 = st.tok1) ∧
  (match dec64 s with | some b => f1 = 0 ∧ y.by = some b | none => f1 ≠ 0)

theorem dec_leave {y : PV} {l : Bs} {f0 f1 : Int} {S : St} (hk : Kept st S) (hy : Mine st S y l ∨ y = .bys .no l) :
    ∃ y', (leave st S (.tup [y, .agg [.int .i64 f0, .int .i64 f1]])).1 = .tup [y', .agg [.int .i64 f0, .int .i64 f1]] ∧ ((leave st S (.tup [y, .agg [.int .i64 f0, .int .i64 f1]])).2 = st ∨ (leave st S (.tup [y, .agg [.int .i64 f0, .int .i64 f1]])).2 = st.tok1) ∧ y'.by = some l := by
  have e1 := hk.bx; have e2 := hk.lp; have e3 := hk.tk; have e4 := hk.lw
  rcases hy with ⟨⟨rfl, rfl⟩ | ⟨i, rfl, hi⟩, hm⟩ | rfl
  · refine ⟨.nils, ?_⟩
    simp [leave, PV.inB, PV.inB.inBAll, e4, keepRes, keepVals, keepVal, keepLeaf, keepCells, e1, e2, e3, PV.by]
  · have hge := hm i rfl
    refine ⟨.bys (.own st.toks.length) l, ?_⟩
    simp [leave, PV.inB, PV.inB.inBAll, e4, keepRes, keepVals, keepVal, keepLeaf, keepCells, keepTok, hi, show ¬ i < st.toks.length by omega, e1, e2, e3, PV.by, St.tok1]
  · refine ⟨.bys .no l, ?_⟩
    simp [leave, PV.inB, PV.inB.inBAll, e4, keepRes, keepVals, keepVal, keepLeaf, keepCells, keepTok, e1, e2, e3, PV.by]

/-- How a call that reads signs ends. -/
theorem dec_end {E : Env} {S : St} {s0 : Bs} {y : PV} {l : Bs} {f0 f1 : Int} (hk : Kept st S) (hbx : S.boxes = st.boxes ++ [[.int .i64 f0, .int .i64 f1]]) (h2 : E 2 = y) (h3 : E 3 = .ptr st.boxes.length 0)
    (hy : Mine st S y l ∨ y = .bys .no l) (hr : match dec64 s0 with | some b => f1 = 0 ∧ l = b | none => f1 ≠ 0) : endX st [.tmp 2, .cell 3 true 2] (decOK st s0) .ret E S := by
  refine ⟨.inr rfl, .tup [y, .agg [.int .i64 f0, .int .i64 f1]], ?_, ?_⟩
  · have hnt : notTup y = true := by
      rcases hy with ⟨⟨rfl, _⟩ | ⟨i, rfl, _⟩, _⟩ | rfl <;> rfl
    have hag : notTup (.agg [.int .i64 f0, .int .i64 f1]) = true := rfl
    simp [resOf, rvAll, rv1, h2, h3, loadPV, hbx, readCells, hnt, hag, packRes]
  · obtain ⟨y', a1, a2, a3⟩ := dec_leave (f0 := f0) (f1 := f1) hk hy
    refine ⟨y', f0, f1, a1, a2, ?_⟩
    cases hd : dec64 s0 with
    | none => rw [hd] at hr; exact hr
    | some b => rw [hd] at hr; exact ⟨hr.1, by rw [a3, hr.2]⟩
theorem flt_store {S : St} {B : List (List PV)} {a c f0 f1 : Int} (hbx : S.boxes = B ++ [[.int .i64 a, .int .i64 c]]) : storePV S 2 (.ptr B.length 0) (.agg [.int .i64 f0, .int .i64 f1]) = some ⟨B ++ [[.int .i64 f0, .int .i64 f1]], S.toks, S.loops, S.low⟩ := by
  simp [storePV, hbx, PV.cells, PV.inB, PV.inB.inBAll, setCells, hasTok, tokOf, leafOk]
theorem Kept.box {S : St} {z : List PV} (h : Kept st S) (hbx : S.boxes.length = st.boxes.length + 1) : Kept st ⟨st.boxes ++ [z], S.toks, S.loops, S.low⟩ := ⟨by simp, h.lp, h.lw, h.tk⟩

/-! ### A sign's number -/
def sgV (c : UInt8) : Int := match sgI c with | some v => (v : Int) | none => 4294967295
theorem sg_index (c : UInt8) : Lib.indexByte sgns c = (match sgI c with | some v => (v : Int) | none => -1) := by
  have := all8 (p := fun c => Lib.indexByte sgns c == (match sgI c with | some v => (v : Int) | none => -1)) (by kernel_rfl) c
  simpa only [beq_iff_eq] using this
theorem retKB {k : IntKind} {a b : Nat} {t u : Int} {p q : Bool} (ha : e a = .int k t) (hb : e b = .bool p) (hk : Kept st s) (h1 : t = u) (h2 : p = q) : ∃ rv, resOf e s [.tmp a, .tmp b] = some rv ∧ leave st s rv = (.tup [.int k u, .bool q], st) := by
  subst h1 h2; exact retV2 ha hb rfl rfl hk ⟨fun _ => rfl, fun _ _ => rfl⟩
theorem value_spec {c : UInt8} : call prog (.fn 250 []) [.b8 c] st = some (.tup [.int .u32 (sgV c), .bool (sgI c).isSome], st) := by
  refine call_of_W prog_250 ?_
  unfold F_bits_value; dsimp only
  have hix : ∀ S : St, call prog (.fn 78 []) [.str sgns, .b8 c] S = some (.int .i64 (Lib.indexByte sgns c), S) := fun S => by rw [call_prim prog_78]; simp [pStrIndexByte]
  have hsg : ([65, 66, 67, 68, 69, 70, 71, 72, 73, 74, 75, 76, 77, 78, 79, 80, 81, 82, 83, 84, 85, 86, 87, 88, 89, 90, 97, 98, 99, 100, 101, 102, 103, 104, 105, 106, 107, 108, 109, 110, 111, 112, 113, 114, 115, 116, 117, 118, 119, 120, 121, 122, 48, 49, 50, 51, 52, 53, 54, 55, 56, 57, 43, 47] : Bs) = sgns := rfl
  rw [sg_index] at hix
  cases h : sgI c with
  | none =>
    simp only [h] at hix
    have hc : cIntPV .u32 (.int .i64 (-1)) = some (.int .u32 4294967295) := rfl
    simp (maxSteps := 1000000) (disch := omega) only [hsg, hix, hc, Int.reduceNeg, W_seq, W_region, W_cond, W_block, W_skip, W_label, W_exit, W_goto, W_ret, WO_cons, WO_consG, WO_nil, wantedA_eq, wantB, evOp, ev_tmp, ev_const, ev_fn, WN_some, WN_none, updO_some, updO_none, upd_eq,
 ↓reduceIte, Nat.reduceEqDiff, List.nil_append, List.cons_append, List.append_nil, List.map_cons, List.map_nil, env0_zero, env0_succ, env0_nil, Option.map_some, Option.map_none, seqQ_normal, seqQ_ret, seqQ_exit, seqQ_goto, blockQ_normal, blockQ_ret, blockQ_exit, blockQ_goto, condW_bool, loopQ_ret, loopQ_exit, loopQ_goto, endQ_ret, endQ_normal, keep_mk, keep_st,
 lss_i, leq_i, gtr_i, geq_i, eql_i, neq_i, eql_8, neq_8, lss_8, leq_8, gtr_8, geq_8, eql_s, neq_s, eql_b, neq_b, not_b, by_bys, by_nils, load_cp1, beq_true, beq_false, Bool.not_eq_true', decide_eq_true_eq, decide_eq_false_iff_not, decide_true, decide_false,
 Int.toNat_natCast, Int.ofNat_lt, Int.ofNat_le, Int.natCast_inj, Bool.false_eq_true, Bool.true_eq_false, extPV, List.getElem?_cons_zero, List.getElem?_cons_succ, nilckPV, Int.reduceToNat, Int.reduceLE, true_and, and_true, reduceCtorEq, or_false, false_or, or_true, Option.some.injEq, exists_eq_left', Bool.not_true, Bool.not_false, ne_eq, Int.reduceEq, not_true_eq_false, not_false_eq_true, Int.reduceLT, UInt8.reduceLT, UInt8.reduceLE, UInt8.reduceToNat]
    exact retKB rfl rfl Kept.start (by simp [sgV, h]) rfl
  | some v =>
    simp only [h] at hix
    have hv := sgI_lt h
    have hc : cIntPV .u32 (.int .i64 (v : Int)) = some (.int .u32 (v : Int)) := by
      simp only [cIntPV, Option.some.injEq]; rw [wrapU32 (by omega) (by omega)]
    have h0 : (0 : Int) ≤ (v : Int) := by omega
    simp (maxSteps := 1000000) (disch := omega) only [hsg, hix, hc, h0, W_seq, W_region, W_cond, W_block, W_skip, W_label, W_exit, W_goto, W_ret, WO_cons, WO_consG, WO_nil, wantedA_eq, wantB, evOp, ev_tmp, ev_const, ev_fn, WN_some, WN_none, updO_some, updO_none, upd_eq,
 ↓reduceIte, Nat.reduceEqDiff, List.nil_append, List.cons_append, List.append_nil, List.map_cons, List.map_nil, env0_zero, env0_succ, env0_nil, Option.map_some, Option.map_none, seqQ_normal, seqQ_ret, seqQ_exit, seqQ_goto, blockQ_normal, blockQ_ret, blockQ_exit, blockQ_goto, condW_bool, loopQ_ret, loopQ_exit, loopQ_goto, endQ_ret, endQ_normal, keep_mk, keep_st,
 lss_i, leq_i, gtr_i, geq_i, eql_i, neq_i, eql_8, neq_8, lss_8, leq_8, gtr_8, geq_8, eql_s, neq_s, eql_b, neq_b, not_b, by_bys, by_nils, load_cp1, beq_true, beq_false, Bool.not_eq_true', decide_eq_true_eq, decide_eq_false_iff_not, decide_true, decide_false,
 Int.toNat_natCast, Int.ofNat_lt, Int.ofNat_le, Int.natCast_inj, Bool.false_eq_true, Bool.true_eq_false, extPV, List.getElem?_cons_zero, List.getElem?_cons_succ, nilckPV, Int.reduceToNat, Int.reduceLE, true_and, and_true, reduceCtorEq, or_false, false_or, or_true, Option.some.injEq, exists_eq_left', Bool.not_true, Bool.not_false, ne_eq, Int.reduceEq, not_true_eq_false, not_false_eq_true, Int.reduceLT, UInt8.reduceLT, UInt8.reduceLE, UInt8.reduceToNat]
    exact retKB rfl rfl Kept.start (by simp [sgV, h]) rfl

theorem Kept.push3 {v : PV} {l : Bs} {c d f : UInt8} (hk : Kept st s) (h : Mine st s v l) (hl : l.length + 3 ≤ room) :
    ∃ v' s', Ab.app8 s.tok1 v (.bys (.own s.toks.length) [c, d, f]) = some (v', s') ∧ Kept st s' ∧ Mine st s' v' (l ++ [c, d, f]) ∧ s'.boxes = s.boxes := by
  obtain ⟨v', s', a1, a2, a3⟩ := hk.tok1.app8 h.tok1 (y := .bys (.own s.toks.length) [c, d, f]) (m := [c, d, f]) rfl (by simpa using hl)
  refine ⟨v', s', a1, a2, a3, ?_⟩
  exact (app8_eq a1).1
theorem c8_u32 {n : Nat} : cIntPV .u8 (.int .u32 (n : Int)) = some (.b8 (UInt8.ofNat n)) := by
  simp only [cIntPV, Option.some.injEq, PV.b8.injEq]
  have : (IntKind.u8.wrap (n : Int)).toNat = n % 256 := by
    rw [u8_wrap]; omega
  rw [this]
  apply UInt8.toNat.inj
  simp
theorem slcT_all {t : Tok} {l : Bs} {k : IntKind} : slcTPV (.bys t l) (.int k (l.length : Int)) = some (.bys t l) := by
  simp [slcTPV, intOf]
theorem slcT_cut {t : Tok} {l : Bs} {k : IntKind} {n : Nat} (h : n < l.length) : slcTPV (.bys t l) (.int k (n : Int)) = some (.bys .no (l.take n)) := by
  have h1 : ¬ ((n : Int) = (l.length : Int)) := by omega
  have h2 : (n : Int) ≤ (l.length : Int) := by omega
  have h3 : ¬ n = l.length := by omega
  simp [slcTPV, intOf, h1, h2, h3]

theorem dec6_step' {D D' : D6} {c : UInt8} {r : Bs} (h : ¬ (c = 13 ∧ r.head? = some 10)) (h1 : d6one D c = some D') : dec6 D (c :: r) = dec6 D' r := by
  cases r with
  | nil => simp only [dec6, h1]
  | cons d r => rw [dec6, if_neg (fun q => h ⟨q.1, by simp [q.2]⟩), h1]
theorem dec6_bad {D : D6} {c : UInt8} {r : Bs} (h : ¬ (c = 13 ∧ r.head? = some 10)) (h1 : d6one D c = none) : dec6 D (c :: r) = none := by
  cases r with
  | nil => simp only [dec6, h1]
  | cons d r => rw [dec6, if_neg (fun q => h ⟨q.1, by simp [q.2]⟩), h1]
end Go.Ab

/-
  Signs of six digits: read, the loop.
-/
namespace Go.Ab
set_option linter.unusedVariables false
set_option linter.unusedSimpArgs false
set_option maxRecDepth 20000
variable {st s : St} {e : Env}

structure DInv (D : D6) : Prop where
  p2 : D.pads ≤ 2
  p1 : D.pads = 1 → D.n % 4 = 3 ∨ D.n % 4 = 0
  p0 : D.pads = 2 → D.n % 4 = 0
  v0 : D.n % 4 = 0 → D.v = 0
  v1 : D.n % 4 = 1 → D.v < 64
  v2 : D.n % 4 = 2 → D.v < 4096
  v3 : D.n % 4 = 3 → D.v < 262144
theorem DInv.lt {D : D6} (h : DInv D) : D.v < 262144 := by
  have := h.v0; have := h.v1; have := h.v2; have := h.v3
  have : D.n % 4 = 0 ∨ D.n % 4 = 1 ∨ D.n % 4 = 2 ∨ D.n % 4 = 3 := by omega
  omega
/-- What the bytes that were read lie in. -/
def VO (st S : St) (D : D6) (vo : PV) : Prop := ((D.pads = 0 ∨ D.n % 4 ≠ 0) ∧ Mine st S vo D.out) ∨ ((D.pads ≠ 0 ∧ D.n % 4 = 0) ∧ vo = .bys .no D.out)
theorem VO.or {S : St} {D : D6} {vo : PV} (h : VO st S D vo) : Mine st S vo D.out ∨ vo = .bys .no D.out := by
  rcases h with ⟨_, h⟩ | ⟨_, h⟩
  · exact .inl h
  · exact .inr h

set_option maxHeartbeats 8000000 in
theorem bDecode_spec {s : Bs} (hl : s.length ≤ 1000000) : ∃ r, call prog (.fn 241 []) [.str s] st = some r ∧ decOK st s r := by
  refine call_ex prog_241 ?_
  unfold F_bits_Decode; dsimp only
  obtain ⟨Q0, hQ0⟩ : ∃ Q0 : Ex → Env → St → Prop, Q0 = endX st [.tmp 2, .cell 3 true 2] (decOK st s) := ⟨_, rfl⟩
  rw [← hQ0]
  have e1 : ¬ (2097152 : Int) < (s.length : Int) := by omega
  have hroom : room = 68719476736 := rfl
  have bad : ∀ (E : Env) (S : St) (f0 f1 : Int), Kept st S → S.boxes = st.boxes ++ [[.int .i64 f0, .int .i64 f1]] → E 2 = .nils → E 3 = .ptr st.boxes.length 0 → f1 ≠ 0 → dec64 s = none → Q0 .ret E S := fun E S f0 f1 k hbx h2 h3 hf hd => by
    rw [hQ0]
    exact dec_end k hbx h2 h3 (l := []) (.inl Mine.nil) (by rw [hd]; exact hf)
  simp (maxSteps := 1000000) (disch := omega) only [len_s, e1, allocPV, W_seq, W_region, W_cond, W_block, W_skip, W_label, W_exit, W_goto, W_ret, WO_cons, WO_consG, WO_nil, wantedA_eq, wantB, evOp, ev_tmp, ev_const, ev_fn, WN_some, WN_none, updO_some, updO_none, upd_eq,
 ↓reduceIte, Nat.reduceEqDiff, List.nil_append, List.cons_append, List.append_nil, List.map_cons, List.map_nil, env0_zero, env0_succ, env0_nil, Option.map_some, Option.map_none, seqQ_normal, seqQ_ret, seqQ_exit, seqQ_goto, blockQ_normal, blockQ_ret, blockQ_exit, blockQ_goto, condW_bool, loopQ_ret, loopQ_exit, loopQ_goto, endQ_ret, endQ_normal, keep_mk, keep_st,
 lss_i, leq_i, gtr_i, geq_i, eql_i, neq_i, eql_8, neq_8, lss_8, leq_8, gtr_8, geq_8, eql_s, neq_s, eql_b, neq_b, not_b, by_bys, by_nils, load_cp1, beq_true, beq_false, Bool.not_eq_true', decide_eq_true_eq, decide_eq_false_iff_not, decide_true, decide_false,
 Int.toNat_natCast, Int.ofNat_lt, Int.ofNat_le, Int.natCast_inj, Bool.false_eq_true, Bool.true_eq_false, extPV, List.getElem?_cons_zero, List.getElem?_cons_succ, nilckPV, Int.reduceToNat, Int.reduceLE, true_and, and_true, reduceCtorEq, or_false, false_or, or_true, Option.some.injEq, exists_eq_left', Bool.not_true, Bool.not_false, ne_eq, Int.reduceEq, not_true_eq_false, not_false_eq_true, Int.reduceLT, UInt8.reduceLT, UInt8.reduceLE, UInt8.reduceToNat]
  obtain ⟨I, hI⟩ : ∃ I : Nat → Env → St → Prop, I = fun k E S => ∃ (i : Nat) (D : D6) (vo : PV) (last : Int), k = s.length - i ∧ i ≤ s.length ∧ Kept st S ∧ S.boxes = st.boxes ++ [[.int .i64 0, .int .i64 0]] ∧ dec64 s = dec6 D (s.drop i) ∧ DInv D ∧ VO st S D vo ∧ D.out.length ≤ 3 * i ∧ D.n ≤ i ∧
      E 0 = .str s ∧ E 3 = .ptr st.boxes.length 0 ∧ E 4 = vo ∧ E 5 = .int .u32 (D.v : Int) ∧ E 6 = .int .i64 (D.n : Int) ∧ E 7 = .int .i64 (D.pads : Int) ∧ E 8 = .int .i64 last ∧ E 9 = .int .i64 (i : Int) := ⟨_, rfl⟩
  refine W_loop I ?_ (n := s.length) (by
    rw [hI]
    exact ⟨0, ⟨[], 0, 0, 0⟩, .nils, 0, rfl, by omega, Kept.start.alloc, rfl, rfl, ⟨by simp, by simp, by simp, by simp, by simp, by simp, by simp⟩, .inl ⟨.inl rfl, Mine.nil⟩, by simp, by simp, rfl, rfl, rfl, rfl, rfl, rfl, rfl, rfl⟩)
  intro k E S hh
  rw [hI] at hh
  obtain ⟨i, D, vo, last, rfl, hi, hk, hbx, hd, hD, hvo, hol, hni, h0, h3, h4, h5, h6, h7, h8, h9⟩ := hh
  have hfs : ∀ f0 f1 : Int, storePV S 2 (.ptr st.boxes.length 0) (.agg [.int .i64 f0, .int .i64 f1]) = some ⟨st.boxes ++ [[.int .i64 f0, .int .i64 f1]], S.toks, S.loops, S.low⟩ := fun f0 f1 => flt_store hbx
  have hkb : ∀ z : List PV, Kept st ⟨st.boxes ++ [z], S.toks, S.loops, S.low⟩ := fun z => hk.box (by rw [hbx]; simp)
  have bd : ∀ f0 f1 : Int, buildCells [.int .i64 0, .int .i64 0] [(0, 1, .int .i64 f0), (1, 1, .int .i64 f1)] = some [.int .i64 f0, .int .i64 f1] := fun f0 f1 => build2 Leaf_int Leaf_int
  have bd0 : buildCells [.int .i64 0, .int .i64 0] [] = some [.int .i64 0, .int .i64 0] := rfl
  by_cases hlt : i < s.length
  · obtain ⟨c, hc⟩ : ∃ c, c = s.getD i 0 := ⟨_, rfl⟩
    have hdr : s.drop i = c :: s.drop (i + 1) := by rw [List.drop_eq_getElem_cons hlt, hc]; simp [List.getD, hlt]
    rw [hdr] at hd
    by_cases hcr : c = 13 ∧ i + 1 < s.length ∧ s.getD (i + 1) 0 = 10
    · -- a line's end is passed over
      obtain ⟨c1, c2, c3⟩ := hcr
      have hdr2 : s.drop (i + 1) = 10 :: s.drop (i + 2) := by rw [List.drop_eq_getElem_cons c2]; congr 1; simpa [List.getD, c2] using c3
      rw [hdr2, c1, dec6, if_pos ⟨rfl, rfl⟩] at hd
      simp (maxSteps := 1000000) (disch := omega) only [h0, h3, h4, h5, h6, h7, h8, h9, len_s, hlt, idx_s, ← hc, eq_true c1, c2, eq_true c3, add_n, loopQ_normal, W_seq, W_region, W_cond, W_block, W_skip, W_label, W_exit, W_goto, W_ret, WO_cons, WO_consG, WO_nil, wantedA_eq, wantB, evOp, ev_tmp, ev_const, ev_fn, WN_some, WN_none, updO_some, updO_none, upd_eq,
 ↓reduceIte, Nat.reduceEqDiff, List.nil_append, List.cons_append, List.append_nil, List.map_cons, List.map_nil, env0_zero, env0_succ, env0_nil, Option.map_some, Option.map_none, seqQ_normal, seqQ_ret, seqQ_exit, seqQ_goto, blockQ_normal, blockQ_ret, blockQ_exit, blockQ_goto, condW_bool, loopQ_ret, loopQ_exit, loopQ_goto, endQ_ret, endQ_normal, keep_mk, keep_st,
 lss_i, leq_i, gtr_i, geq_i, eql_i, neq_i, eql_8, neq_8, lss_8, leq_8, gtr_8, geq_8, eql_s, neq_s, eql_b, neq_b, not_b, by_bys, by_nils, load_cp1, beq_true, beq_false, Bool.not_eq_true', decide_eq_true_eq, decide_eq_false_iff_not, decide_true, decide_false,
 Int.toNat_natCast, Int.ofNat_lt, Int.ofNat_le, Int.natCast_inj, Bool.false_eq_true, Bool.true_eq_false, extPV, List.getElem?_cons_zero, List.getElem?_cons_succ, nilckPV, Int.reduceToNat, Int.reduceLE, true_and, and_true, reduceCtorEq, or_false, false_or, or_true, Option.some.injEq, exists_eq_left', Bool.not_true, Bool.not_false, ne_eq, Int.reduceEq, not_true_eq_false, not_false_eq_true, Int.reduceLT, UInt8.reduceLT, UInt8.reduceLE, UInt8.reduceToNat]
      refine ⟨s.length - (i + 2), by omega, ?_⟩
      rw [hI]
      exact ⟨i + 2, D, vo, last, rfl, by omega, hk, hbx, hd, hD, hvo, by omega, by omega, h0, h3, h4, h5, h6, h7, h8, rfl⟩
    · have hncr : ¬ (c = 13 ∧ (s.drop (i + 1)).head? = some 10) := fun ⟨q1, q2⟩ => hcr ⟨q1, by
        rcases Nat.lt_or_ge (i + 1) s.length with h | h
        · refine ⟨h, ?_⟩
          rw [List.drop_eq_getElem_cons h] at q2
          simpa [List.getD, h] using q2
        · rw [List.drop_of_length_le h] at q2; simp at q2⟩
      have hval := fun S : St => value_spec (st := S) (c := c)
      -- behind the sign's number
      have hCI : ∃ CI : Env → St → Prop, CI = fun E2 S2 => S2 = S ∧ ∃ (d pads' : Nat) (last' : Int), d < 64 ∧ d6one D c = d6put D (D.v * 64 + d) pads' ∧ pads' ≤ 2 ∧ (pads' = 1 → D.n % 4 = 2 ∨ D.n % 4 = 3) ∧ (pads' = 2 → D.n % 4 = 3) ∧ (D.pads = 0 ∨ D.n % 4 ≠ 0) ∧
          E2 0 = .str s ∧ E2 3 = .ptr st.boxes.length 0 ∧ E2 4 = vo ∧ E2 5 = .int .u32 (D.v : Int) ∧ E2 6 = .int .i64 (D.n : Int) ∧ E2 7 = .int .i64 (pads' : Int) ∧ E2 8 = .int .i64 last' ∧ E2 9 = .int .i64 (i : Int) ∧ E2 11 = .int .u32 (d : Int) := ⟨_, rfl⟩
      obtain ⟨CI, hCI⟩ := hCI
      have hrn : binPV .rem .no (.int .i64 (D.n : Int)) (.int .i64 4) = some (.int .i64 ((D.n % 4 : Nat) : Int)) := rem_n (c := 4) (by omega)
      have sgn61 : sgI 61 = none := by kernel_rfl
      simp (maxSteps := 1000000) (disch := omega) only [h0, h3, h4, h5, h6, h7, h8, h9, len_s, hlt, W_seq, W_region, W_cond, W_skip, W_label, W_exit, W_goto, W_ret, WO_cons, WO_consG, WO_nil, wantedA_eq, wantB, evOp, ev_tmp, ev_const, ev_fn, WN_some, WN_none, updO_some, updO_none, upd_eq,
 ↓reduceIte, Nat.reduceEqDiff, List.nil_append, List.cons_append, List.append_nil, List.map_cons, List.map_nil, env0_zero, env0_succ, env0_nil, Option.map_some, Option.map_none, seqQ_normal, seqQ_ret, seqQ_exit, seqQ_goto, blockQ_normal, blockQ_ret, blockQ_exit, blockQ_goto, condW_bool, loopQ_ret, loopQ_exit, loopQ_goto, endQ_ret, endQ_normal, keep_mk, keep_st,
 lss_i, leq_i, gtr_i, geq_i, eql_i, neq_i, eql_8, neq_8, lss_8, leq_8, gtr_8, geq_8, eql_s, neq_s, eql_b, neq_b, not_b, by_bys, by_nils, load_cp1, beq_true, beq_false, Bool.not_eq_true', decide_eq_true_eq, decide_eq_false_iff_not, decide_true, decide_false,
 Int.toNat_natCast, Int.ofNat_lt, Int.ofNat_le, Int.natCast_inj, Bool.false_eq_true, Bool.true_eq_false, extPV, List.getElem?_cons_zero, List.getElem?_cons_succ, nilckPV, Int.reduceToNat, Int.reduceLE, true_and, and_true, reduceCtorEq, or_false, false_or, or_true, Option.some.injEq, exists_eq_left', Bool.not_true, Bool.not_false, ne_eq, Int.reduceEq, not_true_eq_false, not_false_eq_true, Int.reduceLT, UInt8.reduceLT, UInt8.reduceLE, UInt8.reduceToNat]
      rw [W_block]
      by_cases c13 : c = 13
      · have hs13 : sgI c = none := by rw [c13]; kernel_rfl
        have c61 : ¬ c = 61 := by rw [c13]; decide
        have hbad : dec64 s = none := by rw [hd]; exact dec6_bad hncr (by simp [d6one, hs13, c61])
        simp only [hs13, Option.isSome_none] at hval
        by_cases hle : i + 1 < s.length
        · have c10 : ¬ s.getD (i + 1) 0 = 10 := fun h => hcr ⟨c13, hle, h⟩
          simp (maxSteps := 1000000) (disch := omega) only [h0, h3, h4, h5, h6, h7, h8, h9, len_s, hlt, idx_s, ← hc, eq_true c13, hle, c10, c61, hval, add_n, bd, hfs, W_seq, W_region, W_cond, W_block, W_skip, W_label, W_exit, W_goto, W_ret, WO_cons, WO_consG, WO_nil, wantedA_eq, wantB, evOp, ev_tmp, ev_const, ev_fn, WN_some, WN_none, updO_some, updO_none, upd_eq,
 ↓reduceIte, Nat.reduceEqDiff, List.nil_append, List.cons_append, List.append_nil, List.map_cons, List.map_nil, env0_zero, env0_succ, env0_nil, Option.map_some, Option.map_none, seqQ_normal, seqQ_ret, seqQ_exit, seqQ_goto, blockQ_normal, blockQ_ret, blockQ_exit, blockQ_goto, condW_bool, loopQ_ret, loopQ_exit, loopQ_goto, endQ_ret, endQ_normal, keep_mk, keep_st,
 lss_i, leq_i, gtr_i, geq_i, eql_i, neq_i, eql_8, neq_8, lss_8, leq_8, gtr_8, geq_8, eql_s, neq_s, eql_b, neq_b, not_b, by_bys, by_nils, load_cp1, beq_true, beq_false, Bool.not_eq_true', decide_eq_true_eq, decide_eq_false_iff_not, decide_true, decide_false,
 Int.toNat_natCast, Int.ofNat_lt, Int.ofNat_le, Int.natCast_inj, Bool.false_eq_true, Bool.true_eq_false, extPV, List.getElem?_cons_zero, List.getElem?_cons_succ, nilckPV, Int.reduceToNat, Int.reduceLE, true_and, and_true, reduceCtorEq, or_false, false_or, or_true, Option.some.injEq, exists_eq_left', Bool.not_true, Bool.not_false, ne_eq, Int.reduceEq, not_true_eq_false, not_false_eq_true, Int.reduceLT, UInt8.reduceLT, UInt8.reduceLE, UInt8.reduceToNat]
          exact bad _ _ _ _ (hkb _) rfl rfl h3 (by decide) hbad
        · simp (maxSteps := 1000000) (disch := omega) only [h0, h3, h4, h5, h6, h7, h8, h9, len_s, hlt, idx_s, ← hc, eq_true c13, hle, c61, hval, add_n, bd, hfs, W_seq, W_region, W_cond, W_block, W_skip, W_label, W_exit, W_goto, W_ret, WO_cons, WO_consG, WO_nil, wantedA_eq, wantB, evOp, ev_tmp, ev_const, ev_fn, WN_some, WN_none, updO_some, updO_none, upd_eq,
 ↓reduceIte, Nat.reduceEqDiff, List.nil_append, List.cons_append, List.append_nil, List.map_cons, List.map_nil, env0_zero, env0_succ, env0_nil, Option.map_some, Option.map_none, seqQ_normal, seqQ_ret, seqQ_exit, seqQ_goto, blockQ_normal, blockQ_ret, blockQ_exit, blockQ_goto, condW_bool, loopQ_ret, loopQ_exit, loopQ_goto, endQ_ret, endQ_normal, keep_mk, keep_st,
 lss_i, leq_i, gtr_i, geq_i, eql_i, neq_i, eql_8, neq_8, lss_8, leq_8, gtr_8, geq_8, eql_s, neq_s, eql_b, neq_b, not_b, by_bys, by_nils, load_cp1, beq_true, beq_false, Bool.not_eq_true', decide_eq_true_eq, decide_eq_false_iff_not, decide_true, decide_false,
 Int.toNat_natCast, Int.ofNat_lt, Int.ofNat_le, Int.natCast_inj, Bool.false_eq_true, Bool.true_eq_false, extPV, List.getElem?_cons_zero, List.getElem?_cons_succ, nilckPV, Int.reduceToNat, Int.reduceLE, true_and, and_true, reduceCtorEq, or_false, false_or, or_true, Option.some.injEq, exists_eq_left', Bool.not_true, Bool.not_false, ne_eq, Int.reduceEq, not_true_eq_false, not_false_eq_true, Int.reduceLT, UInt8.reduceLT, UInt8.reduceLE, UInt8.reduceToNat]
          exact bad _ _ _ _ (hkb _) rfl rfl h3 (by decide) hbad
      · simp (maxSteps := 1000000) (disch := omega) only [h0, h3, h4, h5, h6, h7, h8, h9, len_s, hlt, idx_s, ← hc, c13, hval, W_seq, W_region, W_cond, W_skip, W_label, W_exit, W_goto, W_ret, WO_cons, WO_consG, WO_nil, wantedA_eq, wantB, evOp, ev_tmp, ev_const, ev_fn, WN_some, WN_none, updO_some, updO_none, upd_eq,
 ↓reduceIte, Nat.reduceEqDiff, List.nil_append, List.cons_append, List.append_nil, List.map_cons, List.map_nil, env0_zero, env0_succ, env0_nil, Option.map_some, Option.map_none, seqQ_normal, seqQ_ret, seqQ_exit, seqQ_goto, blockQ_normal, blockQ_ret, blockQ_exit, blockQ_goto, condW_bool, loopQ_ret, loopQ_exit, loopQ_goto, endQ_ret, endQ_normal, keep_mk, keep_st,
 lss_i, leq_i, gtr_i, geq_i, eql_i, neq_i, eql_8, neq_8, lss_8, leq_8, gtr_8, geq_8, eql_s, neq_s, eql_b, neq_b, not_b, by_bys, by_nils, load_cp1, beq_true, beq_false, Bool.not_eq_true', decide_eq_true_eq, decide_eq_false_iff_not, decide_true, decide_false,
 Int.toNat_natCast, Int.ofNat_lt, Int.ofNat_le, Int.natCast_inj, Bool.false_eq_true, Bool.true_eq_false, extPV, List.getElem?_cons_zero, List.getElem?_cons_succ, nilckPV, Int.reduceToNat, Int.reduceLE, true_and, and_true, reduceCtorEq, or_false, false_or, or_true, Option.some.injEq, exists_eq_left', Bool.not_true, Bool.not_false, ne_eq, Int.reduceEq, not_true_eq_false, not_false_eq_true, Int.reduceLT, UInt8.reduceLT, UInt8.reduceLE, UInt8.reduceToNat]
        refine W_mono (Q := fun x E2 S2 => (x = .normal ∧ CI E2 S2) ∨ (x = .ret ∧ Q0 .ret E2 S2)) ?_ ?_
        · -- which sign it is
          cases hs : sgI c with
          | none =>
            by_cases c61 : c = 61
            · by_cases hn2 : D.n % 4 < 2
              · have hbad : dec64 s = none := by rw [hd]; exact dec6_bad hncr (by unfold d6one; rw [hs]; simp [c61, hn2])
                have hn2' : ((D.n % 4 : Nat) : Int) < 2 := by omega
                simp (maxSteps := 1000000) (disch := omega) only [h0, h3, h4, h5, h6, h7, h8, h9, eq_true c61, hn2', hrn, Option.isSome_none, bd, hfs, W_seq, W_region, W_cond, W_block, W_skip, W_label, W_exit, W_goto, W_ret, WO_cons, WO_consG, WO_nil, wantedA_eq, wantB, evOp, ev_tmp, ev_const, ev_fn, WN_some, WN_none, updO_some, updO_none, upd_eq,
 ↓reduceIte, Nat.reduceEqDiff, List.nil_append, List.cons_append, List.append_nil, List.map_cons, List.map_nil, env0_zero, env0_succ, env0_nil, Option.map_some, Option.map_none, seqQ_normal, seqQ_ret, seqQ_exit, seqQ_goto, blockQ_normal, blockQ_ret, blockQ_exit, blockQ_goto, condW_bool, loopQ_ret, loopQ_exit, loopQ_goto, endQ_ret, endQ_normal, keep_mk, keep_st,
 lss_i, leq_i, gtr_i, geq_i, eql_i, neq_i, eql_8, neq_8, lss_8, leq_8, gtr_8, geq_8, eql_s, neq_s, eql_b, neq_b, not_b, by_bys, by_nils, load_cp1, beq_true, beq_false, Bool.not_eq_true', decide_eq_true_eq, decide_eq_false_iff_not, decide_true, decide_false,
 Int.toNat_natCast, Int.ofNat_lt, Int.ofNat_le, Int.natCast_inj, Bool.false_eq_true, Bool.true_eq_false, extPV, List.getElem?_cons_zero, List.getElem?_cons_succ, nilckPV, Int.reduceToNat, Int.reduceLE, true_and, and_true, reduceCtorEq, or_false, false_or, or_true, Option.some.injEq, exists_eq_left', Bool.not_true, Bool.not_false, ne_eq, Int.reduceEq, not_true_eq_false, not_false_eq_true, Int.reduceLT, UInt8.reduceLT, UInt8.reduceLE, UInt8.reduceToNat]
                exact .inr (bad _ _ _ _ (hkb _) rfl rfl h3 (by decide) hbad)
              · have hn2' : ¬ ((D.n % 4 : Nat) : Int) < 2 := by omega
                have q1 := hD.p2; have q2 := hD.p1; have q3 := hD.p0
                simp (maxSteps := 1000000) (disch := omega) only [h0, h3, h4, h5, h6, h7, h8, h9, eq_true c61, hn2', hrn, Option.isSome_none, add_n, W_seq, W_region, W_cond, W_block, W_skip, W_label, W_exit, W_goto, W_ret, WO_cons, WO_consG, WO_nil, wantedA_eq, wantB, evOp, ev_tmp, ev_const, ev_fn, WN_some, WN_none, updO_some, updO_none, upd_eq,
 ↓reduceIte, Nat.reduceEqDiff, List.nil_append, List.cons_append, List.append_nil, List.map_cons, List.map_nil, env0_zero, env0_succ, env0_nil, Option.map_some, Option.map_none, seqQ_normal, seqQ_ret, seqQ_exit, seqQ_goto, blockQ_normal, blockQ_ret, blockQ_exit, blockQ_goto, condW_bool, loopQ_ret, loopQ_exit, loopQ_goto, endQ_ret, endQ_normal, keep_mk, keep_st,
 lss_i, leq_i, gtr_i, geq_i, eql_i, neq_i, eql_8, neq_8, lss_8, leq_8, gtr_8, geq_8, eql_s, neq_s, eql_b, neq_b, not_b, by_bys, by_nils, load_cp1, beq_true, beq_false, Bool.not_eq_true', decide_eq_true_eq, decide_eq_false_iff_not, decide_true, decide_false,
 Int.toNat_natCast, Int.ofNat_lt, Int.ofNat_le, Int.natCast_inj, Bool.false_eq_true, Bool.true_eq_false, extPV, List.getElem?_cons_zero, List.getElem?_cons_succ, nilckPV, Int.reduceToNat, Int.reduceLE, true_and, and_true, reduceCtorEq, or_false, false_or, or_true, Option.some.injEq, exists_eq_left', Bool.not_true, Bool.not_false, ne_eq, Int.reduceEq, not_true_eq_false, not_false_eq_true, Int.reduceLT, UInt8.reduceLT, UInt8.reduceLE, UInt8.reduceToNat]
                refine .inl ?_
                rw [hCI]
                refine ⟨rfl, 0, D.pads + 1, last, by omega, ?_, by omega, by omega, by omega, by omega, h0, h3, h4, h5, h6, rfl, h8, h9, rfl⟩
                have : (61 : UInt8) = c := c61.symm
                unfold d6one; rw [hs]; simp [c61, hn2]
            · have hbad : dec64 s = none := by rw [hd]; exact dec6_bad hncr (by simp [d6one, hs, c61])
              simp (maxSteps := 1000000) (disch := omega) only [h0, h3, h4, h5, h6, h7, h8, h9, c61, Option.isSome_none, bd, hfs, W_seq, W_region, W_cond, W_block, W_skip, W_label, W_exit, W_goto, W_ret, WO_cons, WO_consG, WO_nil, wantedA_eq, wantB, evOp, ev_tmp, ev_const, ev_fn, WN_some, WN_none, updO_some, updO_none, upd_eq,
 ↓reduceIte, Nat.reduceEqDiff, List.nil_append, List.cons_append, List.append_nil, List.map_cons, List.map_nil, env0_zero, env0_succ, env0_nil, Option.map_some, Option.map_none, seqQ_normal, seqQ_ret, seqQ_exit, seqQ_goto, blockQ_normal, blockQ_ret, blockQ_exit, blockQ_goto, condW_bool, loopQ_ret, loopQ_exit, loopQ_goto, endQ_ret, endQ_normal, keep_mk, keep_st,
 lss_i, leq_i, gtr_i, geq_i, eql_i, neq_i, eql_8, neq_8, lss_8, leq_8, gtr_8, geq_8, eql_s, neq_s, eql_b, neq_b, not_b, by_bys, by_nils, load_cp1, beq_true, beq_false, Bool.not_eq_true', decide_eq_true_eq, decide_eq_false_iff_not, decide_true, decide_false,
 Int.toNat_natCast, Int.ofNat_lt, Int.ofNat_le, Int.natCast_inj, Bool.false_eq_true, Bool.true_eq_false, extPV, List.getElem?_cons_zero, List.getElem?_cons_succ, nilckPV, Int.reduceToNat, Int.reduceLE, true_and, and_true, reduceCtorEq, or_false, false_or, or_true, Option.some.injEq, exists_eq_left', Bool.not_true, Bool.not_false, ne_eq, Int.reduceEq, not_true_eq_false, not_false_eq_true, Int.reduceLT, UInt8.reduceLT, UInt8.reduceLE, UInt8.reduceToNat]
              exact .inr (bad _ _ _ _ (hkb _) rfl rfl h3 (by decide) hbad)
          | some v =>
            have hv := sgI_lt hs
            have c61 : ¬ c = 61 := fun h => by rw [h, sgn61] at hs; cases hs
            have hsv : sgV c = (v : Int) := by simp [sgV, hs]
            by_cases hp : 0 < D.pads
            · have hbad : dec64 s = none := by rw [hd]; exact dec6_bad hncr (by simp [d6one, hs, hp])
              have hp' : (0 : Int) < (D.pads : Int) := by omega
              simp (maxSteps := 1000000) (disch := omega) only [h0, h3, h4, h5, h6, h7, h8, h9, c61, hp', Option.isSome_some, bd, hfs, W_seq, W_region, W_cond, W_block, W_skip, W_label, W_exit, W_goto, W_ret, WO_cons, WO_consG, WO_nil, wantedA_eq, wantB, evOp, ev_tmp, ev_const, ev_fn, WN_some, WN_none, updO_some, updO_none, upd_eq,
 ↓reduceIte, Nat.reduceEqDiff, List.nil_append, List.cons_append, List.append_nil, List.map_cons, List.map_nil, env0_zero, env0_succ, env0_nil, Option.map_some, Option.map_none, seqQ_normal, seqQ_ret, seqQ_exit, seqQ_goto, blockQ_normal, blockQ_ret, blockQ_exit, blockQ_goto, condW_bool, loopQ_ret, loopQ_exit, loopQ_goto, endQ_ret, endQ_normal, keep_mk, keep_st,
 lss_i, leq_i, gtr_i, geq_i, eql_i, neq_i, eql_8, neq_8, lss_8, leq_8, gtr_8, geq_8, eql_s, neq_s, eql_b, neq_b, not_b, by_bys, by_nils, load_cp1, beq_true, beq_false, Bool.not_eq_true', decide_eq_true_eq, decide_eq_false_iff_not, decide_true, decide_false,
 Int.toNat_natCast, Int.ofNat_lt, Int.ofNat_le, Int.natCast_inj, Bool.false_eq_true, Bool.true_eq_false, extPV, List.getElem?_cons_zero, List.getElem?_cons_succ, nilckPV, Int.reduceToNat, Int.reduceLE, true_and, and_true, reduceCtorEq, or_false, false_or, or_true, Option.some.injEq, exists_eq_left', Bool.not_true, Bool.not_false, ne_eq, Int.reduceEq, not_true_eq_false, not_false_eq_true, Int.reduceLT, UInt8.reduceLT, UInt8.reduceLE, UInt8.reduceToNat]
              exact .inr (bad _ _ _ _ (hkb _) rfl rfl h3 (by decide) hbad)
            · have hp' : ¬ (0 : Int) < (D.pads : Int) := by omega
              simp (maxSteps := 1000000) (disch := omega) only [h0, h3, h4, h5, h6, h7, h8, h9, c61, hp', Option.isSome_some, W_seq, W_region, W_cond, W_block, W_skip, W_label, W_exit, W_goto, W_ret, WO_cons, WO_consG, WO_nil, wantedA_eq, wantB, evOp, ev_tmp, ev_const, ev_fn, WN_some, WN_none, updO_some, updO_none, upd_eq,
 ↓reduceIte, Nat.reduceEqDiff, List.nil_append, List.cons_append, List.append_nil, List.map_cons, List.map_nil, env0_zero, env0_succ, env0_nil, Option.map_some, Option.map_none, seqQ_normal, seqQ_ret, seqQ_exit, seqQ_goto, blockQ_normal, blockQ_ret, blockQ_exit, blockQ_goto, condW_bool, loopQ_ret, loopQ_exit, loopQ_goto, endQ_ret, endQ_normal, keep_mk, keep_st,
 lss_i, leq_i, gtr_i, geq_i, eql_i, neq_i, eql_8, neq_8, lss_8, leq_8, gtr_8, geq_8, eql_s, neq_s, eql_b, neq_b, not_b, by_bys, by_nils, load_cp1, beq_true, beq_false, Bool.not_eq_true', decide_eq_true_eq, decide_eq_false_iff_not, decide_true, decide_false,
 Int.toNat_natCast, Int.ofNat_lt, Int.ofNat_le, Int.natCast_inj, Bool.false_eq_true, Bool.true_eq_false, extPV, List.getElem?_cons_zero, List.getElem?_cons_succ, nilckPV, Int.reduceToNat, Int.reduceLE, true_and, and_true, reduceCtorEq, or_false, false_or, or_true, Option.some.injEq, exists_eq_left', Bool.not_true, Bool.not_false, ne_eq, Int.reduceEq, not_true_eq_false, not_false_eq_true, Int.reduceLT, UInt8.reduceLT, UInt8.reduceLE, UInt8.reduceToNat]
              refine .inl ?_
              rw [hCI]
              refine ⟨rfl, v, D.pads, (i : Int), hv, ?_, by omega, by omega, by omega, by omega, h0, h3, h4, h5, h6, h7, rfl, h9, by rw [← hsv]; rfl⟩
              simp only [d6one, hs, if_neg hp]
        · intro xx E2 S2 hx
          rcases hx with ⟨rfl, hci⟩ | ⟨rfl, hq⟩
          · rw [hCI] at hci
            obtain ⟨rfl, d, pads', last', hdl, hd1, hp2, hp1, hp0, hpn, g0, g3, g4, g5, g6, g7, g8, g9, g11⟩ := hci
            have hvl := hD.lt
            obtain ⟨nv, hnv⟩ : ∃ nv, nv = D.v * 64 + d := ⟨_, rfl⟩
            have q1 : binPV .shl .no (.int .u32 (D.v : Int)) (.int .u64 6) = some (.int .u32 ((D.v * 2 ^ 6 : Nat) : Int)) := shl32 (k := 6) (by omega) (by omega)
            have q2 : binPV .or .no (.int .u32 ((D.v * 2 ^ 6 : Nat) : Int)) (.int .u32 (d : Int)) = some (.int .u32 (nv : Int)) := by
              rw [or32 (k := 6) (by omega) (by omega) (by omega), hnv]
            have q3 : binPV .rem .no (.int .i64 ((D.n + 1 : Nat) : Int)) (.int .i64 4) = some (.int .i64 (((D.n + 1) % 4 : Nat) : Int)) := rem_n (c := 4) (by omega)
            rw [← hnv] at hd1
            have hMine : Mine st S2 vo D.out := by
              rcases hvo with ⟨_, h⟩ | ⟨⟨h1, h2⟩, _⟩
              · exact h
              · omega
            have nvl : nv < 16777216 := by omega
            by_cases hm : (D.n + 1) % 4 = 0
            · -- four signs
              have hm' : (((D.n + 1) % 4 : Nat) : Int) = 0 := by omega
              have r1 : binPV .shr .no (.int .u32 (nv : Int)) (.int .u64 16) = some (.int .u32 ((nv / 2 ^ 16 : Nat) : Int)) := shr32 (k := 16) (by omega)
              have r2 : binPV .shr .no (.int .u32 (nv : Int)) (.int .u64 8) = some (.int .u32 ((nv / 2 ^ 8 : Nat) : Int)) := shr32 (k := 8) (by omega)
              obtain ⟨v', S3, a1, a2, a3, a4⟩ := hk.push3 (c := UInt8.ofNat (nv / 2 ^ 16)) (d := UInt8.ofNat (nv / 2 ^ 8)) (f := UInt8.ofNat nv) hMine (by omega)
              obtain ⟨x3, hx3⟩ : ∃ x3 : Bs, x3 = [UInt8.ofNat (nv / 2 ^ 16), UInt8.ofNat (nv / 2 ^ 8), UInt8.ofNat nv] := ⟨_, rfl⟩
              have hx3' : [d6b nv 16, d6b nv 8, d6b nv 0] = x3 := by rw [hx3]; simp [d6b]
              have hx3l : x3.length = 3 := by rw [hx3]; rfl
              rw [← hx3] at a1 a3
              have hput : d6put D nv pads' = (if 0 < pads' ∧ (x3.drop (3 - pads')).getD 0 0 ≠ 0 then none else some ⟨D.out ++ x3.take (3 - pads'), 0, D.n + 1, pads'⟩) := by
                unfold d6put; rw [if_pos hm, hx3']
              rw [hput] at hd1
              obtain ⟨L, hL⟩ : ∃ L, L = D.out ++ x3 := ⟨_, rfl⟩
              have hLl : L.length = D.out.length + 3 := by rw [hL]; simp [hx3l]
              rw [← hL] at a3
              have a5 := a3.by
              obtain ⟨t, rfl⟩ : ∃ t, v' = .bys t L := by
                rcases by_cases' a5 with ⟨_, h⟩ | h
                · rw [h] at hLl; simp at hLl
                · exact h
              have hbx3 : S3.boxes = st.boxes ++ [[.int .i64 0, .int .i64 0]] := by rw [a4, hbx]
              have ha1 : app8 ⟨S2.boxes, S2.toks ++ [true], S2.loops, S2.low⟩ vo (.bys (.own S2.toks.length) x3) = some (.bys t L, S3) := a1
              have hl8 : lit8Fill (List.replicate 3 0) [(0, .b8 (UInt8.ofNat (nv / 2 ^ 16))), (1, .b8 (UInt8.ofNat (nv / 2 ^ 8))), (2, .b8 (UInt8.ofNat nv))] = some x3 := by rw [hx3]; rfl
              have hlenL : lenPV false (.bys t L) = some (.int .i64 (L.length : Int)) := rfl
              by_cases hpp : 0 < pads'
              · have hpp' : (0 : Int) < (pads' : Int) := by omega
                have hsb : binPV .sub .no (.int .i64 (L.length : Int)) (.int .i64 (pads' : Int)) = some (.int .i64 ((L.length - pads' : Nat) : Int)) := by
                  rw [sub_n (by omega) (by omega) (by omega), Int.toNat_natCast]
                have hsl : slcPV 1 (.bys t L) (some (.int .i64 ((L.length - pads' : Nat) : Int))) none none = some ((PV.bys t L).dropB (L.length - pads')) := by
                  rw [slc_lo a5 (by omega) (by omega), Int.toNat_natCast]
                have hdb := dropB_by (i := L.length - pads') a5
                have hdr3 : L.drop (L.length - pads') = x3.drop (3 - pads') := by
                  rw [hL, List.drop_append, List.drop_of_length_le (by simp; omega), List.nil_append]
                  congr 1; simp; omega
                have hia : iaddrPV 1 ((PV.bys t L).dropB (L.length - pads')) (.int .i64 0) = some (.cp [.b8 ((x3.drop (3 - pads')).getD 0 0)]) := by
                  rw [iaddr_by hdb (by omega) (by simp; omega), hdr3]; rfl
                by_cases htl : (x3.drop (3 - pads')).getD 0 0 = 0
                · rw [if_neg (by simp only [not_and, Decidable.not_not]; exact fun _ => htl)] at hd1
                  rw [dec6_step' hncr hd1] at hd
                  have hsT : slcTPV (.bys t L) (.int .i64 ((L.length - pads' : Nat) : Int)) = some (.bys .no (L.take (L.length - pads'))) := slcT_cut (by omega)
                  have htk : L.take (L.length - pads') = D.out ++ x3.take (3 - pads') := by
                    rw [hL, List.take_append, List.take_of_length_le (by simp; omega)]
                    congr 2; simp; omega
                  rw [htk] at hsT
                  simp (maxSteps := 1000000) (disch := omega) only [g0, g3, g4, g5, g6, g7, g8, g9, g11, q1, q2, q3, eq_true hm', r1, r2, c8_u32, hl8, freshT, ha1, hpp', hlenL, hsb, hsl, hia, htl, hsT, add_n, loopQ_normal, W_seq, W_region, W_cond, W_block, W_skip, W_label, W_exit, W_goto, W_ret, WO_cons, WO_consG, WO_nil, wantedA_eq, wantB, evOp, ev_tmp, ev_const, ev_fn, WN_some, WN_none, updO_some, updO_none, upd_eq,
 ↓reduceIte, Nat.reduceEqDiff, List.nil_append, List.cons_append, List.append_nil, List.map_cons, List.map_nil, env0_zero, env0_succ, env0_nil, Option.map_some, Option.map_none, seqQ_normal, seqQ_ret, seqQ_exit, seqQ_goto, blockQ_normal, blockQ_ret, blockQ_exit, blockQ_goto, condW_bool, loopQ_ret, loopQ_exit, loopQ_goto, endQ_ret, endQ_normal, keep_mk, keep_st,
 lss_i, leq_i, gtr_i, geq_i, eql_i, neq_i, eql_8, neq_8, lss_8, leq_8, gtr_8, geq_8, eql_s, neq_s, eql_b, neq_b, not_b, by_bys, by_nils, load_cp1, beq_true, beq_false, Bool.not_eq_true', decide_eq_true_eq, decide_eq_false_iff_not, decide_true, decide_false,
 Int.toNat_natCast, Int.ofNat_lt, Int.ofNat_le, Int.natCast_inj, Bool.false_eq_true, Bool.true_eq_false, extPV, List.getElem?_cons_zero, List.getElem?_cons_succ, nilckPV, Int.reduceToNat, Int.reduceLE, true_and, and_true, reduceCtorEq, or_false, false_or, or_true, Option.some.injEq, exists_eq_left', Bool.not_true, Bool.not_false, ne_eq, Int.reduceEq, not_true_eq_false, not_false_eq_true, Int.reduceLT, UInt8.reduceLT, UInt8.reduceLE, UInt8.reduceToNat]
                  refine ⟨s.length - (i + 1), by omega, ?_⟩
                  rw [hI]
                  refine ⟨i + 1, ⟨D.out ++ x3.take (3 - pads'), 0, D.n + 1, pads'⟩, _, last', rfl, by omega, a2, hbx3, hd, ⟨hp2, fun h => by simp only at h ⊢; omega, fun h => by simp only at h ⊢; omega, fun _ => rfl, fun _ => by simp, fun _ => by simp, fun _ => by simp⟩, .inr ⟨⟨by simp only; omega, hm⟩, rfl⟩, by simp; omega, by simp only; omega, g0, g3, rfl, rfl, rfl, g7, g8, rfl⟩
                · have hbad : dec64 s = none := by
                    rw [hd]; refine dec6_bad hncr ?_
                    rw [hd1, if_pos ⟨hpp, htl⟩]
                  have hfs3 : ∀ f0 f1 : Int, storePV S3 2 (.ptr st.boxes.length 0) (.agg [.int .i64 f0, .int .i64 f1]) = some ⟨st.boxes ++ [[.int .i64 f0, .int .i64 f1]], S3.toks, S3.loops, S3.low⟩ := fun f0 f1 => flt_store hbx3
                  simp (maxSteps := 1000000) (disch := omega) only [g0, g3, g4, g5, g6, g7, g8, g9, g11, q1, q2, q3, eq_true hm', r1, r2, c8_u32, hl8, freshT, ha1, hpp', hlenL, hsb, hsl, hia, htl, bd, hfs3, add_n, loopQ_normal, W_seq, W_region, W_cond, W_block, W_skip, W_label, W_exit, W_goto, W_ret, WO_cons, WO_consG, WO_nil, wantedA_eq, wantB, evOp, ev_tmp, ev_const, ev_fn, WN_some, WN_none, updO_some, updO_none, upd_eq,
 ↓reduceIte, Nat.reduceEqDiff, List.nil_append, List.cons_append, List.append_nil, List.map_cons, List.map_nil, env0_zero, env0_succ, env0_nil, Option.map_some, Option.map_none, seqQ_normal, seqQ_ret, seqQ_exit, seqQ_goto, blockQ_normal, blockQ_ret, blockQ_exit, blockQ_goto, condW_bool, loopQ_ret, loopQ_exit, loopQ_goto, endQ_ret, endQ_normal, keep_mk, keep_st,
 lss_i, leq_i, gtr_i, geq_i, eql_i, neq_i, eql_8, neq_8, lss_8, leq_8, gtr_8, geq_8, eql_s, neq_s, eql_b, neq_b, not_b, by_bys, by_nils, load_cp1, beq_true, beq_false, Bool.not_eq_true', decide_eq_true_eq, decide_eq_false_iff_not, decide_true, decide_false,
 Int.toNat_natCast, Int.ofNat_lt, Int.ofNat_le, Int.natCast_inj, Bool.false_eq_true, Bool.true_eq_false, extPV, List.getElem?_cons_zero, List.getElem?_cons_succ, nilckPV, Int.reduceToNat, Int.reduceLE, true_and, and_true, reduceCtorEq, or_false, false_or, or_true, Option.some.injEq, exists_eq_left', Bool.not_true, Bool.not_false, ne_eq, Int.reduceEq, not_true_eq_false, not_false_eq_true, Int.reduceLT, UInt8.reduceLT, UInt8.reduceLE, UInt8.reduceToNat]
                  exact bad _ _ _ _ (a2.box (by rw [hbx3]; simp)) rfl rfl g3 (by decide) hbad
              · have hpz : pads' = 0 := by omega
                subst hpz
                rw [if_neg (by simp)] at hd1
                rw [dec6_step' hncr hd1] at hd
                have hx30 : x3.take (3 - 0) = x3 := List.take_of_length_le (by omega)
                rw [hx30, ← hL] at hd
                have hsb : binPV .sub .no (.int .i64 (L.length : Int)) (.int .i64 ((0 : Nat) : Int)) = some (.int .i64 (L.length : Int)) := by
                  rw [sub_n (by omega) (by omega) (by omega)]; rfl
                have hsT : slcTPV (.bys t L) (.int .i64 (L.length : Int)) = some (.bys t L) := slcT_all
                have h00 : ¬ (0 : Int) < ((0 : Nat) : Int) := by omega
                simp (maxSteps := 1000000) (disch := omega) only [g0, g3, g4, g5, g6, g7, g8, g9, g11, q1, q2, q3, eq_true hm', r1, r2, c8_u32, hl8, freshT, ha1, h00, hlenL, hsb, hsT, add_n, loopQ_normal, W_seq, W_region, W_cond, W_block, W_skip, W_label, W_exit, W_goto, W_ret, WO_cons, WO_consG, WO_nil, wantedA_eq, wantB, evOp, ev_tmp, ev_const, ev_fn, WN_some, WN_none, updO_some, updO_none, upd_eq,
 ↓reduceIte, Nat.reduceEqDiff, List.nil_append, List.cons_append, List.append_nil, List.map_cons, List.map_nil, env0_zero, env0_succ, env0_nil, Option.map_some, Option.map_none, seqQ_normal, seqQ_ret, seqQ_exit, seqQ_goto, blockQ_normal, blockQ_ret, blockQ_exit, blockQ_goto, condW_bool, loopQ_ret, loopQ_exit, loopQ_goto, endQ_ret, endQ_normal, keep_mk, keep_st,
 lss_i, leq_i, gtr_i, geq_i, eql_i, neq_i, eql_8, neq_8, lss_8, leq_8, gtr_8, geq_8, eql_s, neq_s, eql_b, neq_b, not_b, by_bys, by_nils, load_cp1, beq_true, beq_false, Bool.not_eq_true', decide_eq_true_eq, decide_eq_false_iff_not, decide_true, decide_false,
 Int.toNat_natCast, Int.ofNat_lt, Int.ofNat_le, Int.natCast_inj, Bool.false_eq_true, Bool.true_eq_false, extPV, List.getElem?_cons_zero, List.getElem?_cons_succ, nilckPV, Int.reduceToNat, Int.reduceLE, true_and, and_true, reduceCtorEq, or_false, false_or, or_true, Option.some.injEq, exists_eq_left', Bool.not_true, Bool.not_false, ne_eq, Int.reduceEq, not_true_eq_false, not_false_eq_true, Int.reduceLT, UInt8.reduceLT, UInt8.reduceLE, UInt8.reduceToNat]
                refine ⟨s.length - (i + 1), by omega, ?_⟩
                rw [hI]
                refine ⟨i + 1, ⟨L, 0, D.n + 1, 0⟩, _, last', rfl, by omega, a2, hbx3, hd, ⟨by simp, by simp, by simp, fun _ => rfl, fun _ => by simp, fun _ => by simp, fun _ => by simp⟩, .inl ⟨.inl rfl, a3⟩, by simp only; omega, by simp only; omega, g0, g3, rfl, rfl, rfl, g7, g8, rfl⟩
            · have hm' : ¬ (((D.n + 1) % 4 : Nat) : Int) = 0 := by omega
              have hput : d6put D nv pads' = some ⟨D.out, nv, D.n + 1, pads'⟩ := by unfold d6put; rw [if_neg hm]
              rw [hput] at hd1
              rw [dec6_step' hncr hd1] at hd
              have w1 := hD.v0; have w2 := hD.v1; have w3 := hD.v2; have w4 := hD.v3
              simp (maxSteps := 1000000) (disch := omega) only [g0, g3, g4, g5, g6, g7, g8, g9, g11, q1, q2, q3, hm', add_n, loopQ_normal, W_seq, W_region, W_cond, W_block, W_skip, W_label, W_exit, W_goto, W_ret, WO_cons, WO_consG, WO_nil, wantedA_eq, wantB, evOp, ev_tmp, ev_const, ev_fn, WN_some, WN_none, updO_some, updO_none, upd_eq,
 ↓reduceIte, Nat.reduceEqDiff, List.nil_append, List.cons_append, List.append_nil, List.map_cons, List.map_nil, env0_zero, env0_succ, env0_nil, Option.map_some, Option.map_none, seqQ_normal, seqQ_ret, seqQ_exit, seqQ_goto, blockQ_normal, blockQ_ret, blockQ_exit, blockQ_goto, condW_bool, loopQ_ret, loopQ_exit, loopQ_goto, endQ_ret, endQ_normal, keep_mk, keep_st,
 lss_i, leq_i, gtr_i, geq_i, eql_i, neq_i, eql_8, neq_8, lss_8, leq_8, gtr_8, geq_8, eql_s, neq_s, eql_b, neq_b, not_b, by_bys, by_nils, load_cp1, beq_true, beq_false, Bool.not_eq_true', decide_eq_true_eq, decide_eq_false_iff_not, decide_true, decide_false,
 Int.toNat_natCast, Int.ofNat_lt, Int.ofNat_le, Int.natCast_inj, Bool.false_eq_true, Bool.true_eq_false, extPV, List.getElem?_cons_zero, List.getElem?_cons_succ, nilckPV, Int.reduceToNat, Int.reduceLE, true_and, and_true, reduceCtorEq, or_false, false_or, or_true, Option.some.injEq, exists_eq_left', Bool.not_true, Bool.not_false, ne_eq, Int.reduceEq, not_true_eq_false, not_false_eq_true, Int.reduceLT, UInt8.reduceLT, UInt8.reduceLE, UInt8.reduceToNat]
              refine ⟨s.length - (i + 1), by omega, ?_⟩
              rw [hI]
              refine ⟨i + 1, ⟨D.out, nv, D.n + 1, pads'⟩, vo, last', rfl, by omega, hk, hbx, hd, ⟨hp2, fun h => by simp only at h ⊢; omega, fun h => by simp only at h ⊢; omega, fun h => by simp only at h ⊢; omega, fun h => by simp only at h ⊢; omega, fun h => by simp only at h ⊢; omega, fun h => by simp only at h ⊢; omega⟩, .inl ⟨.inr hm, hMine⟩, by simp only; omega, by simp only; omega, g0, g3, g4, rfl, rfl, g7, g8, rfl⟩
          · simp only [seqQ_ret, blockQ_ret, loopQ_ret]
            exact hq
  · obtain rfl : i = s.length := by omega
    rw [List.drop_length, dec6] at hd
    have hr : binPV .rem .no (.int .i64 (D.n : Int)) (.int .i64 4) = some (.int .i64 ((D.n % 4 : Nat) : Int)) := rem_n (c := 4) (by omega)
    by_cases hn : D.n % 4 = 0
    · rw [if_pos hn] at hd
      have hn' : ((D.n % 4 : Nat) : Int) = 0 := by omega
      simp (maxSteps := 1000000) (disch := omega) only [h0, h3, h4, h5, h6, h7, h8, h9, len_s, hlt, hr, eq_true hn', bd0, hfs, W_seq, W_region, W_cond, W_block, W_skip, W_label, W_exit, W_goto, W_ret, WO_cons, WO_consG, WO_nil, wantedA_eq, wantB, evOp, ev_tmp, ev_const, ev_fn, WN_some, WN_none, updO_some, updO_none, upd_eq,
 ↓reduceIte, Nat.reduceEqDiff, List.nil_append, List.cons_append, List.append_nil, List.map_cons, List.map_nil, env0_zero, env0_succ, env0_nil, Option.map_some, Option.map_none, seqQ_normal, seqQ_ret, seqQ_exit, seqQ_goto, blockQ_normal, blockQ_ret, blockQ_exit, blockQ_goto, condW_bool, loopQ_ret, loopQ_exit, loopQ_goto, endQ_ret, endQ_normal, keep_mk, keep_st,
 lss_i, leq_i, gtr_i, geq_i, eql_i, neq_i, eql_8, neq_8, lss_8, leq_8, gtr_8, geq_8, eql_s, neq_s, eql_b, neq_b, not_b, by_bys, by_nils, load_cp1, beq_true, beq_false, Bool.not_eq_true', decide_eq_true_eq, decide_eq_false_iff_not, decide_true, decide_false,
 Int.toNat_natCast, Int.ofNat_lt, Int.ofNat_le, Int.natCast_inj, Bool.false_eq_true, Bool.true_eq_false, extPV, List.getElem?_cons_zero, List.getElem?_cons_succ, nilckPV, Int.reduceToNat, Int.reduceLE, true_and, and_true, reduceCtorEq, or_false, false_or, or_true, Option.some.injEq, exists_eq_left', Bool.not_true, Bool.not_false, ne_eq, Int.reduceEq, not_true_eq_false, not_false_eq_true, Int.reduceLT, UInt8.reduceLT, UInt8.reduceLE, UInt8.reduceToNat]
      rw [hQ0]
      refine dec_end (hkb _) rfl rfl h3 (y := vo) (l := D.out) ?_ (by rw [hd]; exact ⟨rfl, rfl⟩)
      rcases hvo.or with ⟨h1, h2⟩ | h1
      · exact .inl ⟨h1.move fun _ _ => rfl, h2⟩
      · exact .inr h1
    · rw [if_neg hn] at hd
      have hn' : ¬ ((D.n % 4 : Nat) : Int) = 0 := by omega
      simp (maxSteps := 1000000) (disch := omega) only [h0, h3, h4, h5, h6, h7, h8, h9, len_s, hlt, hr, hn', bd, hfs, W_seq, W_region, W_cond, W_block, W_skip, W_label, W_exit, W_goto, W_ret, WO_cons, WO_consG, WO_nil, wantedA_eq, wantB, evOp, ev_tmp, ev_const, ev_fn, WN_some, WN_none, updO_some, updO_none, upd_eq,
 ↓reduceIte, Nat.reduceEqDiff, List.nil_append, List.cons_append, List.append_nil, List.map_cons, List.map_nil, env0_zero, env0_succ, env0_nil, Option.map_some, Option.map_none, seqQ_normal, seqQ_ret, seqQ_exit, seqQ_goto, blockQ_normal, blockQ_ret, blockQ_exit, blockQ_goto, condW_bool, loopQ_ret, loopQ_exit, loopQ_goto, endQ_ret, endQ_normal, keep_mk, keep_st,
 lss_i, leq_i, gtr_i, geq_i, eql_i, neq_i, eql_8, neq_8, lss_8, leq_8, gtr_8, geq_8, eql_s, neq_s, eql_b, neq_b, not_b, by_bys, by_nils, load_cp1, beq_true, beq_false, Bool.not_eq_true', decide_eq_true_eq, decide_eq_false_iff_not, decide_true, decide_false,
 Int.toNat_natCast, Int.ofNat_lt, Int.ofNat_le, Int.natCast_inj, Bool.false_eq_true, Bool.true_eq_false, extPV, List.getElem?_cons_zero, List.getElem?_cons_succ, nilckPV, Int.reduceToNat, Int.reduceLE, true_and, and_true, reduceCtorEq, or_false, false_or, or_true, Option.some.injEq, exists_eq_left', Bool.not_true, Bool.not_false, ne_eq, Int.reduceEq, not_true_eq_false, not_false_eq_true, Int.reduceLT, UInt8.reduceLT, UInt8.reduceLE, UInt8.reduceToNat]
      exact bad _ _ _ _ (hkb _) rfl rfl h3 (by decide) hd
end Go.Ab

/-
  strings.HasSuffix.
-/
namespace Go.Ab
set_option linter.unusedVariables false
set_option linter.unusedSimpArgs false
variable {st s : St} {e : Env}

theorem slHasSuffix_spec {a b : Bs} (ha : a.length ≤ 9000000000000000000) : call prog (.fn 136 []) [.str a, .str b] st = some (.bool (decide (b <:+ a)), st) := by
  refine call_of_W prog_136 ?_
  unfold F_internal_stringslite_HasSuffix; dsimp only
  by_cases h : b.length ≤ a.length
  · have hsub : ∀ ek, binPV .sub ek (.int .i64 (a.length : Int)) (.int .i64 (b.length : Int)) = some (.int .i64 ((a.length - b.length : Nat) : Int)) := fun ek => by
      rw [sub_n (by omega) (by simpa using h) (by omega)]; rfl
    simp (maxSteps := 1000000) (disch := omega) only [len_s, h, hsub, slc_s_lo, W_seq, W_region, W_cond, W_block, W_skip, W_label, W_exit, W_goto, W_ret, WO_cons, WO_consG, WO_nil, wantedA_eq, wantB, evOp, ev_tmp, ev_const, ev_fn, WN_some, WN_none, updO_some, updO_none, upd_eq,
 ↓reduceIte, Nat.reduceEqDiff, List.nil_append, List.cons_append, List.append_nil, List.map_cons, List.map_nil, env0_zero, env0_succ, env0_nil, Option.map_some, Option.map_none, seqQ_normal, seqQ_ret, seqQ_exit, seqQ_goto, blockQ_normal, blockQ_ret, blockQ_exit, blockQ_goto, condW_bool, loopQ_ret, loopQ_exit, loopQ_goto, endQ_ret, endQ_normal, keep_mk, keep_st,
 lss_i, leq_i, gtr_i, geq_i, eql_i, neq_i, eql_8, neq_8, lss_8, leq_8, gtr_8, geq_8, eql_s, neq_s, eql_b, neq_b, not_b, by_bys, by_nils, load_cp1, beq_true, beq_false, Bool.not_eq_true', decide_eq_true_eq, decide_eq_false_iff_not, decide_true, decide_false,
 Int.toNat_natCast, Int.ofNat_lt, Int.ofNat_le, Int.natCast_inj, Bool.false_eq_true, Bool.true_eq_false, extPV, List.getElem?_cons_zero, List.getElem?_cons_succ, nilckPV, Int.reduceToNat, Int.reduceLE, true_and, and_true, reduceCtorEq, or_false, false_or, or_true, Option.some.injEq, exists_eq_left', Bool.not_true, Bool.not_false, ne_eq, Int.reduceEq, not_true_eq_false, not_false_eq_true, Int.reduceLT, UInt8.reduceLT, UInt8.reduceLE, UInt8.reduceToNat]
    rw [show decide (b <:+ a) = decide (a.drop (a.length - b.length) = b) by
      congr 1; rw [List.suffix_iff_eq_drop]; exact propext eq_comm]
    exact end1 rfl Kp_bool
  · simp (maxSteps := 1000000) (disch := omega) only [len_s, h, W_seq, W_region, W_cond, W_block, W_skip, W_label, W_exit, W_goto, W_ret, WO_cons, WO_consG, WO_nil, wantedA_eq, wantB, evOp, ev_tmp, ev_const, ev_fn, WN_some, WN_none, updO_some, updO_none, upd_eq,
 ↓reduceIte, Nat.reduceEqDiff, List.nil_append, List.cons_append, List.append_nil, List.map_cons, List.map_nil, env0_zero, env0_succ, env0_nil, Option.map_some, Option.map_none, seqQ_normal, seqQ_ret, seqQ_exit, seqQ_goto, blockQ_normal, blockQ_ret, blockQ_exit, blockQ_goto, condW_bool, loopQ_ret, loopQ_exit, loopQ_goto, endQ_ret, endQ_normal, keep_mk, keep_st,
 lss_i, leq_i, gtr_i, geq_i, eql_i, neq_i, eql_8, neq_8, lss_8, leq_8, gtr_8, geq_8, eql_s, neq_s, eql_b, neq_b, not_b, by_bys, by_nils, load_cp1, beq_true, beq_false, Bool.not_eq_true', decide_eq_true_eq, decide_eq_false_iff_not, decide_true, decide_false,
 Int.toNat_natCast, Int.ofNat_lt, Int.ofNat_le, Int.natCast_inj, Bool.false_eq_true, Bool.true_eq_false, extPV, List.getElem?_cons_zero, List.getElem?_cons_succ, nilckPV, Int.reduceToNat, Int.reduceLE, true_and, and_true, reduceCtorEq, or_false, false_or, or_true, Option.some.injEq, exists_eq_left', Bool.not_true, Bool.not_false, ne_eq, Int.reduceEq, not_true_eq_false, not_false_eq_true, Int.reduceLT, UInt8.reduceLT, UInt8.reduceLE, UInt8.reduceToNat]
    rw [show decide (b <:+ a) = false by simp; intro hp; exact h hp.length_le]
    exact end1 rfl Kp_bool
theorem HasSuffix_spec {a b : Bs} (ha : a.length ≤ 9000000000000000000) : call prog (.fn 130 []) [.str a, .str b] st = some (.bool (decide (b <:+ a)), st) := by
  refine call_of_W prog_130 ?_
  unfold F_strings_HasSuffix; dsimp only
  simp (maxSteps := 1000000) (disch := omega) only [slHasSuffix_spec ha, W_seq, W_region, W_cond, W_block, W_skip, W_label, W_exit, W_goto, W_ret, WO_cons, WO_consG, WO_nil, wantedA_eq, wantB, evOp, ev_tmp, ev_const, ev_fn, WN_some, WN_none, updO_some, updO_none, upd_eq,
 ↓reduceIte, Nat.reduceEqDiff, List.nil_append, List.cons_append, List.append_nil, List.map_cons, List.map_nil, env0_zero, env0_succ, env0_nil, Option.map_some, Option.map_none, seqQ_normal, seqQ_ret, seqQ_exit, seqQ_goto, blockQ_normal, blockQ_ret, blockQ_exit, blockQ_goto, condW_bool, loopQ_ret, loopQ_exit, loopQ_goto, endQ_ret, endQ_normal, keep_mk, keep_st,
 lss_i, leq_i, gtr_i, geq_i, eql_i, neq_i, eql_8, neq_8, lss_8, leq_8, gtr_8, geq_8, eql_s, neq_s, eql_b, neq_b, not_b, by_bys, by_nils, load_cp1, beq_true, beq_false, Bool.not_eq_true', decide_eq_true_eq, decide_eq_false_iff_not, decide_true, decide_false,
 Int.toNat_natCast, Int.ofNat_lt, Int.ofNat_le, Int.natCast_inj, Bool.false_eq_true, Bool.true_eq_false, extPV, List.getElem?_cons_zero, List.getElem?_cons_succ, nilckPV, Int.reduceToNat, Int.reduceLE, true_and, and_true, reduceCtorEq, or_false, false_or, or_true, Option.some.injEq, exists_eq_left', Bool.not_true, Bool.not_false, ne_eq, Int.reduceEq, not_true_eq_false, not_false_eq_true, Int.reduceLT, UInt8.reduceLT, UInt8.reduceLE, UInt8.reduceToNat]
  exact end1 rfl Kp_bool

end Go.Ab

/-
  Points of Unicode as bytes: the program's answer.
-/
namespace Go.Ab
set_option linter.unusedVariables false
set_option linter.unusedSimpArgs false
variable {st s : St} {e : Env}

/-! ### Bytes and numbers -/
theorem all256 {p : UInt8 → Prop} (h : ∀ n : Fin 256, p (UInt8.ofNat n.val)) (c : UInt8) : p c := by
  have := h ⟨c.toNat, c.toNat_lt⟩
  simpa using this
theorem shr5 {ek : EK} {c : UInt8} : binPV .shr ek (.b8 c) (.int .u64 5) = some (.b8 (UInt8.ofNat (c.toNat / 32))) := by simp [binPV, sh8]
theorem shr4 {ek : EK} {c : UInt8} : binPV .shr ek (.b8 c) (.int .u64 4) = some (.b8 (UInt8.ofNat (c.toNat / 16))) := by simp [binPV, sh8]
theorem shr3 {ek : EK} {c : UInt8} : binPV .shr ek (.b8 c) (.int .u64 3) = some (.b8 (UInt8.ofNat (c.toNat / 8))) := by simp [binPV, sh8]
theorem shr6 {ek : EK} {c : UInt8} : binPV .shr ek (.b8 c) (.int .u64 6) = some (.b8 (UInt8.ofNat (c.toNat / 64))) := by simp [binPV, sh8]
theorem and_8 {ek : EK} {a b : UInt8} : binPV .and ek (.b8 a) (.b8 b) = some (.b8 (a &&& b)) := rfl
theorem cI32 {b : UInt8} : cIntPV .i32 (.b8 b) = some (.int .i32 (b.toNat : Int)) := rfl
theorem is2 (c : UInt8) : UInt8.ofNat (c.toNat / 32) = 6 ↔ 192 ≤ c.toNat ∧ c.toNat < 224 := all256 (p := fun c => UInt8.ofNat (c.toNat / 32) = 6 ↔ 192 ≤ c.toNat ∧ c.toNat < 224) (by decide +kernel) c
theorem is3 (c : UInt8) : UInt8.ofNat (c.toNat / 16) = 14 ↔ 224 ≤ c.toNat ∧ c.toNat < 240 := all256 (p := fun c => UInt8.ofNat (c.toNat / 16) = 14 ↔ 224 ≤ c.toNat ∧ c.toNat < 240) (by decide +kernel) c
theorem is4 (c : UInt8) : UInt8.ofNat (c.toNat / 8) = 30 ↔ 240 ≤ c.toNat ∧ c.toNat < 248 := all256 (p := fun c => UInt8.ofNat (c.toNat / 8) = 30 ↔ 240 ≤ c.toNat ∧ c.toNat < 248) (by decide +kernel) c
theorem isC (c : UInt8) : UInt8.ofNat (c.toNat / 64) = 2 ↔ 128 ≤ c.toNat ∧ c.toNat < 192 := all256 (p := fun c => UInt8.ofNat (c.toNat / 64) = 2 ↔ 128 ≤ c.toNat ∧ c.toNat < 192) (by decide +kernel) c
theorem and31 (c : UInt8) : (c &&& 31).toNat = c.toNat % 32 := all256 (p := fun c => (c &&& 31).toNat = c.toNat % 32) (by decide +kernel) c
theorem and15 (c : UInt8) : (c &&& 15).toNat = c.toNat % 16 := all256 (p := fun c => (c &&& 15).toNat = c.toNat % 16) (by decide +kernel) c
theorem and7 (c : UInt8) : (c &&& 7).toNat = c.toNat % 8 := all256 (p := fun c => (c &&& 7).toNat = c.toNat % 8) (by decide +kernel) c
theorem and63 (c : UInt8) : (c &&& 63).toNat = c.toNat % 64 := all256 (p := fun c => (c &&& 63).toNat = c.toNat % 64) (by decide +kernel) c
theorem wrap32 {n : Int} (h1 : -2147483648 ≤ n) (h2 : n < 2147483648) : IntKind.i32.wrap n = n := by
  unfold IntKind.wrap
  simp only [IntKind.signed, IntKind.bits]
  simp
  omega
theorem shl6 {ek : EK} {p : Nat} (h : p < 33554432) : binPV .shl ek (.int .i32 (p : Int)) (.int .u64 6) = some (.int .i32 ((64 * p : Nat) : Int)) := by
  simp only [binPV, shI]
  rw [if_neg (by omega)]
  have : (p : Int) * 2 ^ (min (6 : Int).toNat IntKind.i32.bits) = ((64 * p : Nat) : Int) := by
    have h6 : min (6 : Int).toNat IntKind.i32.bits = 6 := by decide
    rw [h6]; push_cast; omega
  simp only [this]
  rw [wrap32 (by omega) (by omega)]
theorem or_i32 {ek : EK} {p q : Nat} (h : p < 33554432) (hq : q < 64) : binPV .or ek (.int .i32 ((64 * p : Nat) : Int)) (.int .i32 (q : Int)) = some (.int .i32 ((64 * p + q : Nat) : Int)) := by
  simp only [binPV, binI, if_true]
  have h3 : (BitVec.ofInt IntKind.i32.bits ((64 * p : Nat) : Int) ||| BitVec.ofInt IntKind.i32.bits (q : Int)).toNat = 64 * p + q := by
    show (BitVec.ofInt 32 ((64 * p : Nat) : Int) ||| BitVec.ofInt 32 (q : Int)).toNat = _
    rw [BitVec.ofInt_natCast, BitVec.ofInt_natCast, BitVec.toNat_or, BitVec.toNat_ofNat, BitVec.toNat_ofNat, Nat.mod_eq_of_lt (by omega), Nat.mod_eq_of_lt (by omega)]
    have := Nat.two_pow_add_eq_or_of_lt (i := 6) (b := q) (by omega) p
    rw [show (2 : Nat) ^ 6 = 64 from rfl] at this
    exact this.symm
  rw [h3, wrap32 (by omega) (by omega)]

/-! ### The point that stands at the front -/
def lead (c : Nat) : Nat × Nat := if 192 ≤ c ∧ c < 224 then (c % 32, 2) else if 224 ≤ c ∧ c < 240 then (c % 16, 3) else if 240 ≤ c ∧ c < 248 then (c % 8, 4) else (0, 0)
def accP (l : List UInt8) (p : Nat) : Nat → Nat
  | 0 => p
  | k + 1 => 64 * accP l p k + (l.getD (k + 1) 0).toNat % 64
def contB (l : List UInt8) (k : Nat) : Prop := ∀ j, j < k → 128 ≤ (l.getD (j + 1) 0).toNat ∧ (l.getD (j + 1) 0).toNat < 192
instance {l : List UInt8} {k : Nat} : Decidable (contB l k) := by unfold contB; infer_instance
def pointN (q : Nat) : Prop := q < 55296 ∨ (57343 < q ∧ q ≤ 1114111)
instance {q : Nat} : Decidable (pointN q) := by unfold pointN; infer_instance
def lowN (n : Nat) : Nat := if n = 2 then 128 else if n = 3 then 2048 else 65536
def nextOf (l : List UInt8) : Option (Nat × Nat) :=
  if l = [] then none else if (l.getD 0 0).toNat < 128 then some ((l.getD 0 0).toNat, 1) else
    let r := lead (l.getD 0 0).toNat
    if r.2 = 0 ∨ l.length < r.2 ∨ ¬ contB l (r.2 - 1) ∨ ¬ pointN (accP l r.1 (r.2 - 1)) ∨ accP l r.1 (r.2 - 1) < lowN r.2 then none else some (accP l r.1 (r.2 - 1), r.2)
def nextV (l : List UInt8) : PV := match nextOf l with
  | some (p, n) => .tup [.int .i32 (p : Int), .int .i64 (n : Int), .int .i64 0]
  | none => .tup [.int .i32 0, .int .i64 0, .int .i64 (if l = [] then 42 else 20)]
theorem nextV_some {l : List UInt8} {p n : Nat} (h : nextOf l = some (p, n)) : nextV l = .tup [.int .i32 (p : Int), .int .i64 (n : Int), .int .i64 0] := by simp [nextV, h]
theorem nextV_none {l : List UInt8} (h : nextOf l = none) (hl : l ≠ []) : nextV l = .tup [.int .i32 0, .int .i64 0, .int .i64 20] := by simp [nextV, h, hl]

theorem isPoint_spec {p : Nat} : call prog (.fn 83 []) [.int .i32 (p : Int)] st = some (.bool (decide (pointN p)), st) := by
  refine call_of_W prog_83 ?_
  unfold F_utf_isPoint; dsimp only
  have e0 : (0 : Int) ≤ (p : Int) := by omega
  by_cases h1 : p ≤ 1114111
  · have e1 : (p : Int) ≤ 1114111 := by omega
    by_cases h2 : p < 55296
    · have e2 : (p : Int) < 55296 := by omega
      simp (maxSteps := 1000000) (disch := omega) only [e0, e1, e2, W_seq, W_region, W_cond, W_block, W_skip, W_label, W_exit, W_goto, W_ret, WO_cons, WO_consG, WO_nil, wantedA_eq, wantB, evOp, ev_tmp, ev_const, ev_fn, WN_some, WN_none, updO_some, updO_none, upd_eq,
 ↓reduceIte, Nat.reduceEqDiff, List.nil_append, List.cons_append, List.append_nil, List.map_cons, List.map_nil, env0_zero, env0_succ, env0_nil, Option.map_some, Option.map_none, seqQ_normal, seqQ_ret, seqQ_exit, seqQ_goto, blockQ_normal, blockQ_ret, blockQ_exit, blockQ_goto, condW_bool, loopQ_ret, loopQ_exit, loopQ_goto, endQ_ret, endQ_normal, keep_mk, keep_st,
 lss_i, leq_i, gtr_i, geq_i, eql_i, neq_i, eql_8, neq_8, lss_8, leq_8, gtr_8, geq_8, eql_s, neq_s, eql_b, neq_b, not_b, by_bys, by_nils, load_cp1, beq_true, beq_false, Bool.not_eq_true', decide_eq_true_eq, decide_eq_false_iff_not, decide_true, decide_false,
 Int.toNat_natCast, Int.ofNat_lt, Int.ofNat_le, Int.natCast_inj, Bool.false_eq_true, Bool.true_eq_false, extPV, List.getElem?_cons_zero, List.getElem?_cons_succ, nilckPV, Int.reduceToNat, Int.reduceLE, true_and, and_true, reduceCtorEq, or_false, false_or, or_true, Option.some.injEq, exists_eq_left', Bool.not_true, Bool.not_false, ne_eq, Int.reduceEq, not_true_eq_false, not_false_eq_true, Int.reduceLT, UInt8.reduceLT, UInt8.reduceLE, UInt8.reduceToNat]
      rw [show decide (pointN p) = true by simp [pointN, h2]]
      exact end1 rfl Kp_bool
    · have e2 : ¬ (p : Int) < 55296 := by omega
      by_cases h3 : 57343 < p
      · have e3 : (57343 : Int) < (p : Int) := by omega
        simp (maxSteps := 1000000) (disch := omega) only [e0, e1, e2, e3, W_seq, W_region, W_cond, W_block, W_skip, W_label, W_exit, W_goto, W_ret, WO_cons, WO_consG, WO_nil, wantedA_eq, wantB, evOp, ev_tmp, ev_const, ev_fn, WN_some, WN_none, updO_some, updO_none, upd_eq,
 ↓reduceIte, Nat.reduceEqDiff, List.nil_append, List.cons_append, List.append_nil, List.map_cons, List.map_nil, env0_zero, env0_succ, env0_nil, Option.map_some, Option.map_none, seqQ_normal, seqQ_ret, seqQ_exit, seqQ_goto, blockQ_normal, blockQ_ret, blockQ_exit, blockQ_goto, condW_bool, loopQ_ret, loopQ_exit, loopQ_goto, endQ_ret, endQ_normal, keep_mk, keep_st,
 lss_i, leq_i, gtr_i, geq_i, eql_i, neq_i, eql_8, neq_8, lss_8, leq_8, gtr_8, geq_8, eql_s, neq_s, eql_b, neq_b, not_b, by_bys, by_nils, load_cp1, beq_true, beq_false, Bool.not_eq_true', decide_eq_true_eq, decide_eq_false_iff_not, decide_true, decide_false,
 Int.toNat_natCast, Int.ofNat_lt, Int.ofNat_le, Int.natCast_inj, Bool.false_eq_true, Bool.true_eq_false, extPV, List.getElem?_cons_zero, List.getElem?_cons_succ, nilckPV, Int.reduceToNat, Int.reduceLE, true_and, and_true, reduceCtorEq, or_false, false_or, or_true, Option.some.injEq, exists_eq_left', Bool.not_true, Bool.not_false, ne_eq, Int.reduceEq, not_true_eq_false, not_false_eq_true, Int.reduceLT, UInt8.reduceLT, UInt8.reduceLE, UInt8.reduceToNat]
        rw [show decide (pointN p) = true by simp [pointN, h3, h1]]
        exact end1 rfl Kp_bool
      · have e3 : ¬ (57343 : Int) < (p : Int) := by omega
        simp (maxSteps := 1000000) (disch := omega) only [e0, e1, e2, e3, W_seq, W_region, W_cond, W_block, W_skip, W_label, W_exit, W_goto, W_ret, WO_cons, WO_consG, WO_nil, wantedA_eq, wantB, evOp, ev_tmp, ev_const, ev_fn, WN_some, WN_none, updO_some, updO_none, upd_eq,
 ↓reduceIte, Nat.reduceEqDiff, List.nil_append, List.cons_append, List.append_nil, List.map_cons, List.map_nil, env0_zero, env0_succ, env0_nil, Option.map_some, Option.map_none, seqQ_normal, seqQ_ret, seqQ_exit, seqQ_goto, blockQ_normal, blockQ_ret, blockQ_exit, blockQ_goto, condW_bool, loopQ_ret, loopQ_exit, loopQ_goto, endQ_ret, endQ_normal, keep_mk, keep_st,
 lss_i, leq_i, gtr_i, geq_i, eql_i, neq_i, eql_8, neq_8, lss_8, leq_8, gtr_8, geq_8, eql_s, neq_s, eql_b, neq_b, not_b, by_bys, by_nils, load_cp1, beq_true, beq_false, Bool.not_eq_true', decide_eq_true_eq, decide_eq_false_iff_not, decide_true, decide_false,
 Int.toNat_natCast, Int.ofNat_lt, Int.ofNat_le, Int.natCast_inj, Bool.false_eq_true, Bool.true_eq_false, extPV, List.getElem?_cons_zero, List.getElem?_cons_succ, nilckPV, Int.reduceToNat, Int.reduceLE, true_and, and_true, reduceCtorEq, or_false, false_or, or_true, Option.some.injEq, exists_eq_left', Bool.not_true, Bool.not_false, ne_eq, Int.reduceEq, not_true_eq_false, not_false_eq_true, Int.reduceLT, UInt8.reduceLT, UInt8.reduceLE, UInt8.reduceToNat]
        rw [show decide (pointN p) = false from decide_eq_false (by unfold pointN; omega)]
        exact end1 rfl Kp_bool
  · have e1 : ¬ (p : Int) ≤ 1114111 := by omega
    simp (maxSteps := 1000000) (disch := omega) only [e0, e1, W_seq, W_region, W_cond, W_block, W_skip, W_label, W_exit, W_goto, W_ret, WO_cons, WO_consG, WO_nil, wantedA_eq, wantB, evOp, ev_tmp, ev_const, ev_fn, WN_some, WN_none, updO_some, updO_none, upd_eq,
 ↓reduceIte, Nat.reduceEqDiff, List.nil_append, List.cons_append, List.append_nil, List.map_cons, List.map_nil, env0_zero, env0_succ, env0_nil, Option.map_some, Option.map_none, seqQ_normal, seqQ_ret, seqQ_exit, seqQ_goto, blockQ_normal, blockQ_ret, blockQ_exit, blockQ_goto, condW_bool, loopQ_ret, loopQ_exit, loopQ_goto, endQ_ret, endQ_normal, keep_mk, keep_st,
 lss_i, leq_i, gtr_i, geq_i, eql_i, neq_i, eql_8, neq_8, lss_8, leq_8, gtr_8, geq_8, eql_s, neq_s, eql_b, neq_b, not_b, by_bys, by_nils, load_cp1, beq_true, beq_false, Bool.not_eq_true', decide_eq_true_eq, decide_eq_false_iff_not, decide_true, decide_false,
 Int.toNat_natCast, Int.ofNat_lt, Int.ofNat_le, Int.natCast_inj, Bool.false_eq_true, Bool.true_eq_false, extPV, List.getElem?_cons_zero, List.getElem?_cons_succ, nilckPV, Int.reduceToNat, Int.reduceLE, true_and, and_true, reduceCtorEq, or_false, false_or, or_true, Option.some.injEq, exists_eq_left', Bool.not_true, Bool.not_false, ne_eq, Int.reduceEq, not_true_eq_false, not_false_eq_true, Int.reduceLT, UInt8.reduceLT, UInt8.reduceLE, UInt8.reduceToNat]
    rw [show decide (pointN p) = false from decide_eq_false (by unfold pointN; omega)]
    exact end1 rfl Kp_bool

theorem accP_lt {l : List UInt8} {p : Nat} : ∀ k, accP l p k < (p + 1) * 64 ^ k := by
  intro k
  induction k with
  | zero => simp [accP]
  | succ k ih =>
    simp only [accP, Nat.pow_succ]
    have := Nat.mod_lt (l.getD (k + 1) 0).toNat (show 64 > 0 by omega)
    rw [← Nat.mul_assoc]
    generalize (p + 1) * 64 ^ k = z at *
    omega
theorem lead_cases (c : Nat) : lead c = (0, 0) ∨ (lead c = (c % 32, 2)) ∨ (lead c = (c % 16, 3)) ∨ (lead c = (c % 8, 4)) := by
  unfold lead
  split
  · exact .inr (.inl rfl)
  · split
    · exact .inr (.inr (.inl rfl))
    · split
      · exact .inr (.inr (.inr rfl))
      · exact .inl rfl
end Go.Ab

/-
  The point at a text's front: the program's function.
-/
namespace Go.Ab
set_option linter.unusedVariables false
set_option linter.unusedSimpArgs false
variable {A : AP} {st s : St} {e : Env}

/-- What is asked within a scope that has one label. -/
def scopeQ (A : AP) (b rest : ACode) (Q : Ex → Env → St → Prop) : Ex → Env → St → Prop
  | .goto l, e, s => if l = 0 then W A (.scopeAt b rest) e s Q else False
  | x, e, s => Q x e s
theorem W_scope1 {b rest : ACode} {Q : Ex → Env → St → Prop} (hl : findLabelA b 0 = some rest) (h : W A b e st (scopeQ A b rest Q)) : W A (.scope b) e st Q := by
  rw [W_scope]
  refine W_scopeAt (W_mono h ?_)
  intro x e s hq
  cases x with
  | goto l =>
    simp only [scopeQ] at hq
    split at hq
    · rename_i h0; subst h0
      simp only [hl]; exact hq
    · cases hq
  | normal => exact hq
  | ret => exact hq
  | exit i => exact hq

theorem mid_getD {l : List UInt8} {n k : Nat} (h : k + 1 < n) : ((l.take n).drop 1).getD k 0 = l.getD (k + 1) 0 := by
  simp only [List.getD, List.getElem?_drop, List.getElem?_take]
  rw [if_pos (by omega), Nat.add_comm]

set_option maxHeartbeats 1000000 in
theorem uNext_spec {x : PV} {l : List UInt8} (hx : x.by = some l) (hl : l.length ≤ 100000000) : call prog (.fn 77 []) [x] st = some (nextV l, st) := by
  refine call_of_W prog_77 ?_
  unfold F_utf_Next; dsimp only
  refine W_cut (fun E S => Kept st S ∧ E 0 = x) ?_ ?_
  · simp (maxSteps := 1000000) (disch := omega) only [W_seq, W_region, W_cond, W_block, W_skip, W_label, W_exit, W_goto, W_ret, WO_cons, WO_consG, WO_nil, wantedA_eq, wantB, evOp, ev_tmp, ev_const, ev_fn, WN_some, WN_none, updO_some, updO_none, upd_eq,
 ↓reduceIte, Nat.reduceEqDiff, List.nil_append, List.cons_append, List.append_nil, List.map_cons, List.map_nil, env0_zero, env0_succ, env0_nil, Option.map_some, Option.map_none, seqQ_normal, seqQ_ret, seqQ_exit, seqQ_goto, blockQ_normal, blockQ_ret, blockQ_exit, blockQ_goto, condW_bool, loopQ_ret, loopQ_exit, loopQ_goto, endQ_ret, endQ_normal, keep_mk, keep_st,
 lss_i, leq_i, gtr_i, geq_i, eql_i, neq_i, eql_8, neq_8, lss_8, leq_8, gtr_8, geq_8, eql_s, neq_s, eql_b, neq_b, not_b, by_bys, by_nils, load_cp1, beq_true, beq_false, Bool.not_eq_true', decide_eq_true_eq, decide_eq_false_iff_not, decide_true, decide_false,
 Int.toNat_natCast, Int.ofNat_lt, Int.ofNat_le, Int.natCast_inj, Bool.false_eq_true, Bool.true_eq_false, extPV, List.getElem?_cons_zero, List.getElem?_cons_succ, nilckPV, Int.reduceToNat, Int.reduceLE, true_and, and_true, reduceCtorEq, or_false, false_or, or_true, Option.some.injEq, exists_eq_left', Bool.not_true, Bool.not_false, ne_eq, Int.reduceEq, not_true_eq_false, not_false_eq_true, Int.reduceLT, UInt8.reduceLT, UInt8.reduceLE, UInt8.reduceToNat]
    exact Kept.start
  rintro e S ⟨hk, h0⟩
  refine W_scope1 rfl ?_
  generalize hR : scopeQ prog _ _ _ = R
  have fin : ∀ (E : Env) (S : St) (p n c : Int), Kept st S → nextV l = .tup [.int .i32 p, .int .i64 n, .int .i64 c] → E 2 = .int .i32 p → E 3 = .int .i64 n → E 4 = .int .i64 c → R .ret E S := by
    intro E S p n c k1 hv k2 k3 k4
    rw [← hR]
    show endQ _ _ _ .ret E S
    rw [endQ_ret]
    exact ⟨.tup [.int .i32 p, .int .i64 n, .int .i64 c], by simp [resOf, rvAll, rv1, k2, k3, k4, notTup, packRes], by rw [hv]; exact k1.leave rfl (fun _ _ => rfl)⟩
  have wrong : ∀ (E : Env) (S : St), Kept st S → nextOf l = none → l ≠ [] → R (.goto 0) E S := by
    intro E S k1 hv hne
    rw [← hR]
    simp only [scopeQ, if_true]
    refine W_scopeAt ?_
    simp (maxSteps := 1000000) (disch := omega) only [W_seq, W_region, W_cond, W_block, W_skip, W_label, W_exit, W_goto, W_ret, WO_cons, WO_consG, WO_nil, wantedA_eq, wantB, evOp, ev_tmp, ev_const, ev_fn, WN_some, WN_none, updO_some, updO_none, upd_eq,
 ↓reduceIte, Nat.reduceEqDiff, List.nil_append, List.cons_append, List.append_nil, List.map_cons, List.map_nil, env0_zero, env0_succ, env0_nil, Option.map_some, Option.map_none, seqQ_normal, seqQ_ret, seqQ_exit, seqQ_goto, blockQ_normal, blockQ_ret, blockQ_exit, blockQ_goto, condW_bool, loopQ_ret, loopQ_exit, loopQ_goto, endQ_ret, endQ_normal, keep_mk, keep_st,
 lss_i, leq_i, gtr_i, geq_i, eql_i, neq_i, eql_8, neq_8, lss_8, leq_8, gtr_8, geq_8, eql_s, neq_s, eql_b, neq_b, not_b, by_bys, by_nils, load_cp1, beq_true, beq_false, Bool.not_eq_true', decide_eq_true_eq, decide_eq_false_iff_not, decide_true, decide_false,
 Int.toNat_natCast, Int.ofNat_lt, Int.ofNat_le, Int.natCast_inj, Bool.false_eq_true, Bool.true_eq_false, extPV, List.getElem?_cons_zero, List.getElem?_cons_succ, nilckPV, Int.reduceToNat, Int.reduceLE, true_and, and_true, reduceCtorEq, or_false, false_or, or_true, Option.some.injEq, exists_eq_left', Bool.not_true, Bool.not_false, ne_eq, Int.reduceEq, not_true_eq_false, not_false_eq_true, Int.reduceLT, UInt8.reduceLT, UInt8.reduceLE, UInt8.reduceToNat]
    exact ⟨.tup [.int .i32 0, .int .i64 0, .int .i64 20], rfl, by rw [nextV_none hv hne]; exact k1.leave rfl (fun _ _ => rfl)⟩
  clear hR
  by_cases hne : l = []
  · have e1 : decide ((l.length : Int) = 0) = true := by simp [hne]
    simp (maxSteps := 1000000) (disch := omega) only [h0, len_by hx, e1, W_seq, W_region, W_cond, W_block, W_skip, W_label, W_exit, W_goto, W_ret, WO_cons, WO_consG, WO_nil, wantedA_eq, wantB, evOp, ev_tmp, ev_const, ev_fn, WN_some, WN_none, updO_some, updO_none, upd_eq,
 ↓reduceIte, Nat.reduceEqDiff, List.nil_append, List.cons_append, List.append_nil, List.map_cons, List.map_nil, env0_zero, env0_succ, env0_nil, Option.map_some, Option.map_none, seqQ_normal, seqQ_ret, seqQ_exit, seqQ_goto, blockQ_normal, blockQ_ret, blockQ_exit, blockQ_goto, condW_bool, loopQ_ret, loopQ_exit, loopQ_goto, endQ_ret, endQ_normal, keep_mk, keep_st,
 lss_i, leq_i, gtr_i, geq_i, eql_i, neq_i, eql_8, neq_8, lss_8, leq_8, gtr_8, geq_8, eql_s, neq_s, eql_b, neq_b, not_b, by_bys, by_nils, load_cp1, beq_true, beq_false, Bool.not_eq_true', decide_eq_true_eq, decide_eq_false_iff_not, decide_true, decide_false,
 Int.toNat_natCast, Int.ofNat_lt, Int.ofNat_le, Int.natCast_inj, Bool.false_eq_true, Bool.true_eq_false, extPV, List.getElem?_cons_zero, List.getElem?_cons_succ, nilckPV, Int.reduceToNat, Int.reduceLE, true_and, and_true, reduceCtorEq, or_false, false_or, or_true, Option.some.injEq, exists_eq_left', Bool.not_true, Bool.not_false, ne_eq, Int.reduceEq, not_true_eq_false, not_false_eq_true, Int.reduceLT, UInt8.reduceLT, UInt8.reduceLE, UInt8.reduceToNat]
    exact fin _ _ 0 0 42 hk (by simp [nextV, nextOf, hne]) rfl rfl rfl
  have hlen : 0 < l.length := List.length_pos_iff.2 hne
  have e1 : ¬ ((l.length : Int) = 0) := by omega
  obtain ⟨c, hc⟩ : ∃ c, c = l.getD 0 0 := ⟨_, rfl⟩
  have hi0 : iaddrPV 1 x (.int .i64 0) = some (.cp [.b8 c]) := by rw [hc]; exact iaddr_by hx (by omega) (by simpa using hlen)
  by_cases h128 : c < 128
  · have h128' : c.toNat < 128 := by rw [UInt8.lt_iff_toNat_lt] at h128; simpa using h128
    simp (maxSteps := 1000000) (disch := omega) only [h0, len_by hx, e1, hi0, load_cp1, h128, cI32, W_seq, W_region, W_cond, W_block, W_skip, W_label, W_exit, W_goto, W_ret, WO_cons, WO_consG, WO_nil, wantedA_eq, wantB, evOp, ev_tmp, ev_const, ev_fn, WN_some, WN_none, updO_some, updO_none, upd_eq,
 ↓reduceIte, Nat.reduceEqDiff, List.nil_append, List.cons_append, List.append_nil, List.map_cons, List.map_nil, env0_zero, env0_succ, env0_nil, Option.map_some, Option.map_none, seqQ_normal, seqQ_ret, seqQ_exit, seqQ_goto, blockQ_normal, blockQ_ret, blockQ_exit, blockQ_goto, condW_bool, loopQ_ret, loopQ_exit, loopQ_goto, endQ_ret, endQ_normal, keep_mk, keep_st,
 lss_i, leq_i, gtr_i, geq_i, eql_i, neq_i, eql_8, neq_8, lss_8, leq_8, gtr_8, geq_8, eql_s, neq_s, eql_b, neq_b, not_b, by_bys, by_nils, load_cp1, beq_true, beq_false, Bool.not_eq_true', decide_eq_true_eq, decide_eq_false_iff_not, decide_true, decide_false,
 Int.toNat_natCast, Int.ofNat_lt, Int.ofNat_le, Int.natCast_inj, Bool.false_eq_true, Bool.true_eq_false, extPV, List.getElem?_cons_zero, List.getElem?_cons_succ, nilckPV, Int.reduceToNat, Int.reduceLE, true_and, and_true, reduceCtorEq, or_false, false_or, or_true, Option.some.injEq, exists_eq_left', Bool.not_true, Bool.not_false, ne_eq, Int.reduceEq, not_true_eq_false, not_false_eq_true, Int.reduceLT, UInt8.reduceLT, UInt8.reduceLE, UInt8.reduceToNat]
    exact fin _ _ (c.toNat : Int) 1 0 hk (nextV_some (p := c.toNat) (n := 1) (by unfold nextOf; rw [if_neg hne, ← hc, if_pos h128'])) rfl rfl rfl
  have h128' : ¬ c.toNat < 128 := by rw [UInt8.lt_iff_toNat_lt] at h128; simpa using h128
  obtain ⟨p, n, hpn⟩ : ∃ p n, lead c.toNat = (p, n) := ⟨_, _, rfl⟩
  have hnx : nextOf l = if n = 0 ∨ l.length < n ∨ ¬ contB l (n - 1) ∨ ¬ pointN (accP l p (n - 1)) ∨ accP l p (n - 1) < lowN n then none else some (accP l p (n - 1), n) := by
    unfold nextOf
    rw [if_neg hne, ← hc, if_neg h128', hpn]
  refine W_cut (fun E S => Kept st S ∧ E 0 = x ∧ E 5 = .int .i32 0) ?_ ?_
  · simp (maxSteps := 1000000) (disch := omega) only [h0, W_seq, W_region, W_cond, W_block, W_skip, W_label, W_exit, W_goto, W_ret, WO_cons, WO_consG, WO_nil, wantedA_eq, wantB, evOp, ev_tmp, ev_const, ev_fn, WN_some, WN_none, updO_some, updO_none, upd_eq,
 ↓reduceIte, Nat.reduceEqDiff, List.nil_append, List.cons_append, List.append_nil, List.map_cons, List.map_nil, env0_zero, env0_succ, env0_nil, Option.map_some, Option.map_none, seqQ_normal, seqQ_ret, seqQ_exit, seqQ_goto, blockQ_normal, blockQ_ret, blockQ_exit, blockQ_goto, condW_bool, loopQ_ret, loopQ_exit, loopQ_goto, endQ_ret, endQ_normal, keep_mk, keep_st,
 lss_i, leq_i, gtr_i, geq_i, eql_i, neq_i, eql_8, neq_8, lss_8, leq_8, gtr_8, geq_8, eql_s, neq_s, eql_b, neq_b, not_b, by_bys, by_nils, load_cp1, beq_true, beq_false, Bool.not_eq_true', decide_eq_true_eq, decide_eq_false_iff_not, decide_true, decide_false,
 Int.toNat_natCast, Int.ofNat_lt, Int.ofNat_le, Int.natCast_inj, Bool.false_eq_true, Bool.true_eq_false, extPV, List.getElem?_cons_zero, List.getElem?_cons_succ, nilckPV, Int.reduceToNat, Int.reduceLE, true_and, and_true, reduceCtorEq, or_false, false_or, or_true, Option.some.injEq, exists_eq_left', Bool.not_true, Bool.not_false, ne_eq, Int.reduceEq, not_true_eq_false, not_false_eq_true, Int.reduceLT, UInt8.reduceLT, UInt8.reduceLE, UInt8.reduceToNat]
    exact hk
  clear hk h0
  rintro e S ⟨hk, h0, h5⟩
  refine W_cut (fun E S => Kept st S ∧ E 0 = x ∧ E 5 = .int .i32 0 ∧ E 6 = .int .i64 0) ?_ ?_
  · simp (maxSteps := 1000000) (disch := omega) only [h0, h5, W_seq, W_region, W_cond, W_block, W_skip, W_label, W_exit, W_goto, W_ret, WO_cons, WO_consG, WO_nil, wantedA_eq, wantB, evOp, ev_tmp, ev_const, ev_fn, WN_some, WN_none, updO_some, updO_none, upd_eq,
 ↓reduceIte, Nat.reduceEqDiff, List.nil_append, List.cons_append, List.append_nil, List.map_cons, List.map_nil, env0_zero, env0_succ, env0_nil, Option.map_some, Option.map_none, seqQ_normal, seqQ_ret, seqQ_exit, seqQ_goto, blockQ_normal, blockQ_ret, blockQ_exit, blockQ_goto, condW_bool, loopQ_ret, loopQ_exit, loopQ_goto, endQ_ret, endQ_normal, keep_mk, keep_st,
 lss_i, leq_i, gtr_i, geq_i, eql_i, neq_i, eql_8, neq_8, lss_8, leq_8, gtr_8, geq_8, eql_s, neq_s, eql_b, neq_b, not_b, by_bys, by_nils, load_cp1, beq_true, beq_false, Bool.not_eq_true', decide_eq_true_eq, decide_eq_false_iff_not, decide_true, decide_false,
 Int.toNat_natCast, Int.ofNat_lt, Int.ofNat_le, Int.natCast_inj, Bool.false_eq_true, Bool.true_eq_false, extPV, List.getElem?_cons_zero, List.getElem?_cons_succ, nilckPV, Int.reduceToNat, Int.reduceLE, true_and, and_true, reduceCtorEq, or_false, false_or, or_true, Option.some.injEq, exists_eq_left', Bool.not_true, Bool.not_false, ne_eq, Int.reduceEq, not_true_eq_false, not_false_eq_true, Int.reduceLT, UInt8.reduceLT, UInt8.reduceLE, UInt8.reduceToNat]
    exact hk
  clear hk h0 h5
  rintro e S ⟨hk, h0, h5, h6⟩
  refine W_cut (fun E S => Kept st S ∧ E 0 = x ∧ E 5 = .int .i32 0 ∧ E 6 = .int .i64 0) ?_ ?_
  · simp (maxSteps := 1000000) (disch := omega) only [h0, h5, h6, len_by hx, e1, W_seq, W_region, W_cond, W_block, W_skip, W_label, W_exit, W_goto, W_ret, WO_cons, WO_consG, WO_nil, wantedA_eq, wantB, evOp, ev_tmp, ev_const, ev_fn, WN_some, WN_none, updO_some, updO_none, upd_eq,
 ↓reduceIte, Nat.reduceEqDiff, List.nil_append, List.cons_append, List.append_nil, List.map_cons, List.map_nil, env0_zero, env0_succ, env0_nil, Option.map_some, Option.map_none, seqQ_normal, seqQ_ret, seqQ_exit, seqQ_goto, blockQ_normal, blockQ_ret, blockQ_exit, blockQ_goto, condW_bool, loopQ_ret, loopQ_exit, loopQ_goto, endQ_ret, endQ_normal, keep_mk, keep_st,
 lss_i, leq_i, gtr_i, geq_i, eql_i, neq_i, eql_8, neq_8, lss_8, leq_8, gtr_8, geq_8, eql_s, neq_s, eql_b, neq_b, not_b, by_bys, by_nils, load_cp1, beq_true, beq_false, Bool.not_eq_true', decide_eq_true_eq, decide_eq_false_iff_not, decide_true, decide_false,
 Int.toNat_natCast, Int.ofNat_lt, Int.ofNat_le, Int.natCast_inj, Bool.false_eq_true, Bool.true_eq_false, extPV, List.getElem?_cons_zero, List.getElem?_cons_succ, nilckPV, Int.reduceToNat, Int.reduceLE, true_and, and_true, reduceCtorEq, or_false, false_or, or_true, Option.some.injEq, exists_eq_left', Bool.not_true, Bool.not_false, ne_eq, Int.reduceEq, not_true_eq_false, not_false_eq_true, Int.reduceLT, UInt8.reduceLT, UInt8.reduceLE, UInt8.reduceToNat]
    exact hk
  clear hk h0 h5 h6
  rintro e S ⟨hk, h0, h5, h6⟩
  refine W_cut (fun E S => Kept st S ∧ E 0 = x ∧ E 5 = .int .i32 (p : Int) ∧ E 6 = .int .i64 (n : Int)) ?_ ?_
  · by_cases q2 : UInt8.ofNat (c.toNat / 32) = 6
    · have := (is2 c).1 q2
      obtain ⟨rfl, rfl⟩ : p = c.toNat % 32 ∧ n = 2 := by
        unfold lead at hpn; rw [if_pos this] at hpn; cases hpn; exact ⟨rfl, rfl⟩
      simp (maxSteps := 1000000) (disch := omega) only [h0, h5, h6, hi0, load_cp1, h128, shr5, eq_true q2, and_8, cI32, and31, W_seq, W_region, W_cond, W_block, W_skip, W_label, W_exit, W_goto, W_ret, WO_cons, WO_consG, WO_nil, wantedA_eq, wantB, evOp, ev_tmp, ev_const, ev_fn, WN_some, WN_none, updO_some, updO_none, upd_eq,
 ↓reduceIte, Nat.reduceEqDiff, List.nil_append, List.cons_append, List.append_nil, List.map_cons, List.map_nil, env0_zero, env0_succ, env0_nil, Option.map_some, Option.map_none, seqQ_normal, seqQ_ret, seqQ_exit, seqQ_goto, blockQ_normal, blockQ_ret, blockQ_exit, blockQ_goto, condW_bool, loopQ_ret, loopQ_exit, loopQ_goto, endQ_ret, endQ_normal, keep_mk, keep_st,
 lss_i, leq_i, gtr_i, geq_i, eql_i, neq_i, eql_8, neq_8, lss_8, leq_8, gtr_8, geq_8, eql_s, neq_s, eql_b, neq_b, not_b, by_bys, by_nils, load_cp1, beq_true, beq_false, Bool.not_eq_true', decide_eq_true_eq, decide_eq_false_iff_not, decide_true, decide_false,
 Int.toNat_natCast, Int.ofNat_lt, Int.ofNat_le, Int.natCast_inj, Bool.false_eq_true, Bool.true_eq_false, extPV, List.getElem?_cons_zero, List.getElem?_cons_succ, nilckPV, Int.reduceToNat, Int.reduceLE, true_and, and_true, reduceCtorEq, or_false, false_or, or_true, Option.some.injEq, exists_eq_left', Bool.not_true, Bool.not_false, ne_eq, Int.reduceEq, not_true_eq_false, not_false_eq_true, Int.reduceLT, UInt8.reduceLT, UInt8.reduceLE, UInt8.reduceToNat]
      exact ⟨hk, rfl⟩
    have n2 : ¬ (192 ≤ c.toNat ∧ c.toNat < 224) := fun h => q2 ((is2 c).2 h)
    by_cases q3 : UInt8.ofNat (c.toNat / 16) = 14
    · have := (is3 c).1 q3
      obtain ⟨rfl, rfl⟩ : p = c.toNat % 16 ∧ n = 3 := by
        unfold lead at hpn; rw [if_neg n2, if_pos this] at hpn; cases hpn; exact ⟨rfl, rfl⟩
      simp (maxSteps := 1000000) (disch := omega) only [h0, h5, h6, hi0, load_cp1, h128, shr5, shr4, q2, eq_true q3, and_8, cI32, and15, W_seq, W_region, W_cond, W_block, W_skip, W_label, W_exit, W_goto, W_ret, WO_cons, WO_consG, WO_nil, wantedA_eq, wantB, evOp, ev_tmp, ev_const, ev_fn, WN_some, WN_none, updO_some, updO_none, upd_eq,
 ↓reduceIte, Nat.reduceEqDiff, List.nil_append, List.cons_append, List.append_nil, List.map_cons, List.map_nil, env0_zero, env0_succ, env0_nil, Option.map_some, Option.map_none, seqQ_normal, seqQ_ret, seqQ_exit, seqQ_goto, blockQ_normal, blockQ_ret, blockQ_exit, blockQ_goto, condW_bool, loopQ_ret, loopQ_exit, loopQ_goto, endQ_ret, endQ_normal, keep_mk, keep_st,
 lss_i, leq_i, gtr_i, geq_i, eql_i, neq_i, eql_8, neq_8, lss_8, leq_8, gtr_8, geq_8, eql_s, neq_s, eql_b, neq_b, not_b, by_bys, by_nils, load_cp1, beq_true, beq_false, Bool.not_eq_true', decide_eq_true_eq, decide_eq_false_iff_not, decide_true, decide_false,
 Int.toNat_natCast, Int.ofNat_lt, Int.ofNat_le, Int.natCast_inj, Bool.false_eq_true, Bool.true_eq_false, extPV, List.getElem?_cons_zero, List.getElem?_cons_succ, nilckPV, Int.reduceToNat, Int.reduceLE, true_and, and_true, reduceCtorEq, or_false, false_or, or_true, Option.some.injEq, exists_eq_left', Bool.not_true, Bool.not_false, ne_eq, Int.reduceEq, not_true_eq_false, not_false_eq_true, Int.reduceLT, UInt8.reduceLT, UInt8.reduceLE, UInt8.reduceToNat]
      exact ⟨hk, rfl⟩
    have n3 : ¬ (224 ≤ c.toNat ∧ c.toNat < 240) := fun h => q3 ((is3 c).2 h)
    by_cases q4 : UInt8.ofNat (c.toNat / 8) = 30
    · have := (is4 c).1 q4
      obtain ⟨rfl, rfl⟩ : p = c.toNat % 8 ∧ n = 4 := by
        unfold lead at hpn; rw [if_neg n2, if_neg n3, if_pos this] at hpn; cases hpn; exact ⟨rfl, rfl⟩
      simp (maxSteps := 1000000) (disch := omega) only [h0, h5, h6, hi0, load_cp1, h128, shr5, shr4, shr3, q2, q3, eq_true q4, and_8, cI32, and7, W_seq, W_region, W_cond, W_block, W_skip, W_label, W_exit, W_goto, W_ret, WO_cons, WO_consG, WO_nil, wantedA_eq, wantB, evOp, ev_tmp, ev_const, ev_fn, WN_some, WN_none, updO_some, updO_none, upd_eq,
 ↓reduceIte, Nat.reduceEqDiff, List.nil_append, List.cons_append, List.append_nil, List.map_cons, List.map_nil, env0_zero, env0_succ, env0_nil, Option.map_some, Option.map_none, seqQ_normal, seqQ_ret, seqQ_exit, seqQ_goto, blockQ_normal, blockQ_ret, blockQ_exit, blockQ_goto, condW_bool, loopQ_ret, loopQ_exit, loopQ_goto, endQ_ret, endQ_normal, keep_mk, keep_st,
 lss_i, leq_i, gtr_i, geq_i, eql_i, neq_i, eql_8, neq_8, lss_8, leq_8, gtr_8, geq_8, eql_s, neq_s, eql_b, neq_b, not_b, by_bys, by_nils, load_cp1, beq_true, beq_false, Bool.not_eq_true', decide_eq_true_eq, decide_eq_false_iff_not, decide_true, decide_false,
 Int.toNat_natCast, Int.ofNat_lt, Int.ofNat_le, Int.natCast_inj, Bool.false_eq_true, Bool.true_eq_false, extPV, List.getElem?_cons_zero, List.getElem?_cons_succ, nilckPV, Int.reduceToNat, Int.reduceLE, true_and, and_true, reduceCtorEq, or_false, false_or, or_true, Option.some.injEq, exists_eq_left', Bool.not_true, Bool.not_false, ne_eq, Int.reduceEq, not_true_eq_false, not_false_eq_true, Int.reduceLT, UInt8.reduceLT, UInt8.reduceLE, UInt8.reduceToNat]
      exact ⟨hk, rfl⟩
    have n4 : ¬ (240 ≤ c.toNat ∧ c.toNat < 248) := fun h => q4 ((is4 c).2 h)
    obtain ⟨rfl, rfl⟩ : p = 0 ∧ n = 0 := by
      unfold lead at hpn; rw [if_neg n2, if_neg n3, if_neg n4] at hpn; cases hpn; exact ⟨rfl, rfl⟩
    simp (maxSteps := 1000000) (disch := omega) only [h0, h5, h6, hi0, load_cp1, h128, shr5, shr4, shr3, q2, q3, q4, W_seq, W_region, W_cond, W_block, W_skip, W_label, W_exit, W_goto, W_ret, WO_cons, WO_consG, WO_nil, wantedA_eq, wantB, evOp, ev_tmp, ev_const, ev_fn, WN_some, WN_none, updO_some, updO_none, upd_eq,
 ↓reduceIte, Nat.reduceEqDiff, List.nil_append, List.cons_append, List.append_nil, List.map_cons, List.map_nil, env0_zero, env0_succ, env0_nil, Option.map_some, Option.map_none, seqQ_normal, seqQ_ret, seqQ_exit, seqQ_goto, blockQ_normal, blockQ_ret, blockQ_exit, blockQ_goto, condW_bool, loopQ_ret, loopQ_exit, loopQ_goto, endQ_ret, endQ_normal, keep_mk, keep_st,
 lss_i, leq_i, gtr_i, geq_i, eql_i, neq_i, eql_8, neq_8, lss_8, leq_8, gtr_8, geq_8, eql_s, neq_s, eql_b, neq_b, not_b, by_bys, by_nils, load_cp1, beq_true, beq_false, Bool.not_eq_true', decide_eq_true_eq, decide_eq_false_iff_not, decide_true, decide_false,
 Int.toNat_natCast, Int.ofNat_lt, Int.ofNat_le, Int.natCast_inj, Bool.false_eq_true, Bool.true_eq_false, extPV, List.getElem?_cons_zero, List.getElem?_cons_succ, nilckPV, Int.reduceToNat, Int.reduceLE, true_and, and_true, reduceCtorEq, or_false, false_or, or_true, Option.some.injEq, exists_eq_left', Bool.not_true, Bool.not_false, ne_eq, Int.reduceEq, not_true_eq_false, not_false_eq_true, Int.reduceLT, UInt8.reduceLT, UInt8.reduceLE, UInt8.reduceToNat]
    exact ⟨hk, rfl, rfl⟩
  clear hk h0 h5 h6
  rintro e S ⟨hk, h0, h5, h6⟩
  by_cases hn0 : n = 0
  · have e2 : decide ((n : Int) = 0) = true := by simp [hn0]
    simp (maxSteps := 1000000) (disch := omega) only [h0, h5, h6, len_by hx, e2, W_seq, W_region, W_cond, W_block, W_skip, W_label, W_exit, W_goto, W_ret, WO_cons, WO_consG, WO_nil, wantedA_eq, wantB, evOp, ev_tmp, ev_const, ev_fn, WN_some, WN_none, updO_some, updO_none, upd_eq,
 ↓reduceIte, Nat.reduceEqDiff, List.nil_append, List.cons_append, List.append_nil, List.map_cons, List.map_nil, env0_zero, env0_succ, env0_nil, Option.map_some, Option.map_none, seqQ_normal, seqQ_ret, seqQ_exit, seqQ_goto, blockQ_normal, blockQ_ret, blockQ_exit, blockQ_goto, condW_bool, loopQ_ret, loopQ_exit, loopQ_goto, endQ_ret, endQ_normal, keep_mk, keep_st,
 lss_i, leq_i, gtr_i, geq_i, eql_i, neq_i, eql_8, neq_8, lss_8, leq_8, gtr_8, geq_8, eql_s, neq_s, eql_b, neq_b, not_b, by_bys, by_nils, load_cp1, beq_true, beq_false, Bool.not_eq_true', decide_eq_true_eq, decide_eq_false_iff_not, decide_true, decide_false,
 Int.toNat_natCast, Int.ofNat_lt, Int.ofNat_le, Int.natCast_inj, Bool.false_eq_true, Bool.true_eq_false, extPV, List.getElem?_cons_zero, List.getElem?_cons_succ, nilckPV, Int.reduceToNat, Int.reduceLE, true_and, and_true, reduceCtorEq, or_false, false_or, or_true, Option.some.injEq, exists_eq_left', Bool.not_true, Bool.not_false, ne_eq, Int.reduceEq, not_true_eq_false, not_false_eq_true, Int.reduceLT, UInt8.reduceLT, UInt8.reduceLE, UInt8.reduceToNat]
    exact wrong _ _ hk (by rw [hnx, if_pos (.inl hn0)]) hne
  have e2 : ¬ (n : Int) = 0 := by omega
  by_cases hln : l.length < n
  · have e3 : (l.length : Int) < (n : Int) := by omega
    simp (maxSteps := 1000000) (disch := omega) only [h0, h5, h6, len_by hx, e2, e3, W_seq, W_region, W_cond, W_block, W_skip, W_label, W_exit, W_goto, W_ret, WO_cons, WO_consG, WO_nil, wantedA_eq, wantB, evOp, ev_tmp, ev_const, ev_fn, WN_some, WN_none, updO_some, updO_none, upd_eq,
 ↓reduceIte, Nat.reduceEqDiff, List.nil_append, List.cons_append, List.append_nil, List.map_cons, List.map_nil, env0_zero, env0_succ, env0_nil, Option.map_some, Option.map_none, seqQ_normal, seqQ_ret, seqQ_exit, seqQ_goto, blockQ_normal, blockQ_ret, blockQ_exit, blockQ_goto, condW_bool, loopQ_ret, loopQ_exit, loopQ_goto, endQ_ret, endQ_normal, keep_mk, keep_st,
 lss_i, leq_i, gtr_i, geq_i, eql_i, neq_i, eql_8, neq_8, lss_8, leq_8, gtr_8, geq_8, eql_s, neq_s, eql_b, neq_b, not_b, by_bys, by_nils, load_cp1, beq_true, beq_false, Bool.not_eq_true', decide_eq_true_eq, decide_eq_false_iff_not, decide_true, decide_false,
 Int.toNat_natCast, Int.ofNat_lt, Int.ofNat_le, Int.natCast_inj, Bool.false_eq_true, Bool.true_eq_false, extPV, List.getElem?_cons_zero, List.getElem?_cons_succ, nilckPV, Int.reduceToNat, Int.reduceLE, true_and, and_true, reduceCtorEq, or_false, false_or, or_true, Option.some.injEq, exists_eq_left', Bool.not_true, Bool.not_false, ne_eq, Int.reduceEq, not_true_eq_false, not_false_eq_true, Int.reduceLT, UInt8.reduceLT, UInt8.reduceLE, UInt8.reduceToNat]
    exact wrong _ _ hk (by rw [hnx, if_pos (.inr (.inl hln))]) hne
  have e3 : ¬ (l.length : Int) < (n : Int) := by omega
  have hn24 : (n = 2 ∧ p < 32) ∨ (n = 3 ∧ p < 16) ∨ (n = 4 ∧ p < 8) := by
    rcases lead_cases c.toNat with h | h | h | h
    · rw [hpn] at h; cases h; exact absurd rfl hn0
    · rw [hpn] at h; cases h; exact .inl ⟨rfl, by omega⟩
    · rw [hpn] at h; cases h; exact .inr (.inl ⟨rfl, by omega⟩)
    · rw [hpn] at h; cases h; exact .inr (.inr ⟨rfl, by omega⟩)
  have hacc : ∀ k, k ≤ 3 → accP l p k < 33554432 := by
    intro k hk
    have := accP_lt (l := l) (p := p) k
    have h64 : (p + 1) * 64 ^ k ≤ 32 * 64 ^ 3 := Nat.mul_le_mul (by omega) (Nat.pow_le_pow_right (by omega) hk)
    have : 32 * 64 ^ 3 = 8388608 := by decide
    omega
  refine W_cut (fun E S => Kept st S ∧ E 0 = x ∧ E 5 = .int .i32 (p : Int) ∧ E 6 = .int .i64 (n : Int)) ?_ ?_
  · simp (maxSteps := 1000000) (disch := omega) only [h0, h5, h6, len_by hx, e2, e3, W_seq, W_region, W_cond, W_block, W_skip, W_label, W_exit, W_goto, W_ret, WO_cons, WO_consG, WO_nil, wantedA_eq, wantB, evOp, ev_tmp, ev_const, ev_fn, WN_some, WN_none, updO_some, updO_none, upd_eq,
 ↓reduceIte, Nat.reduceEqDiff, List.nil_append, List.cons_append, List.append_nil, List.map_cons, List.map_nil, env0_zero, env0_succ, env0_nil, Option.map_some, Option.map_none, seqQ_normal, seqQ_ret, seqQ_exit, seqQ_goto, blockQ_normal, blockQ_ret, blockQ_exit, blockQ_goto, condW_bool, loopQ_ret, loopQ_exit, loopQ_goto, endQ_ret, endQ_normal, keep_mk, keep_st,
 lss_i, leq_i, gtr_i, geq_i, eql_i, neq_i, eql_8, neq_8, lss_8, leq_8, gtr_8, geq_8, eql_s, neq_s, eql_b, neq_b, not_b, by_bys, by_nils, load_cp1, beq_true, beq_false, Bool.not_eq_true', decide_eq_true_eq, decide_eq_false_iff_not, decide_true, decide_false,
 Int.toNat_natCast, Int.ofNat_lt, Int.ofNat_le, Int.natCast_inj, Bool.false_eq_true, Bool.true_eq_false, extPV, List.getElem?_cons_zero, List.getElem?_cons_succ, nilckPV, Int.reduceToNat, Int.reduceLE, true_and, and_true, reduceCtorEq, or_false, false_or, or_true, Option.some.injEq, exists_eq_left', Bool.not_true, Bool.not_false, ne_eq, Int.reduceEq, not_true_eq_false, not_false_eq_true, Int.reduceLT, UInt8.reduceLT, UInt8.reduceLE, UInt8.reduceToNat]
    exact hk
  clear hk h0 h5 h6
  rintro e S ⟨hk, h0, h5, h6⟩
  have hml : ((l.take n).drop 1).length = n - 1 := by simp; omega
  have hslc : slcPV 1 x (some (.int .i64 1)) (some (.int .i64 (n : Int))) none = some (x.midB 1 n) := by
    have := slc_lohi (k := .i64) (k' := .i64) (c := 1) (d := (n : Int)) hx (by omega) (by omega) (by simpa using (by omega : n ≤ l.length))
    simpa using this
  have hmb : (x.midB 1 n).by = some ((l.take n).drop 1) := midB_by hx
  have hlm := len_by hmb
  rw [hml] at hlm
  obtain ⟨I, hI⟩ : ∃ I : Nat → Env → St → Prop, I = fun m E S => ∃ k, m = n - 1 - k ∧ k ≤ n - 1 ∧ contB l k ∧ Kept st S ∧ E 0 = x ∧ E 5 = .int .i32 ((accP l p k : Nat) : Int) ∧ E 6 = .int .i64 (n : Int) ∧ E 52 = x.midB 1 n ∧ E 53 = .int .i64 ((n - 1 : Nat) : Int) ∧ E 54 = .int .i64 (k : Int) := ⟨_, rfl⟩
  -- one round of the loop
  have start : I (n - 1) (upd (upd (upd (upd (upd e 50 x) 51 (.int .i64 (n : Int))) 52 (x.midB 1 n)) 53 (.int .i64 ((n - 1 : Nat) : Int))) 54 (.int .i64 0)) S := by
    rw [hI]
    exact ⟨0, rfl, by omega, fun j h => by omega, hk, h0, h5, h6, rfl, rfl, rfl⟩
  have nxt : ∀ (k : Nat) (E : Env) (S : St), contB l (k + 1) → k + 1 ≤ n - 1 → Kept st S → E 0 = x → E 5 = .int .i32 ((accP l p (k + 1) : Nat) : Int) → E 6 = .int .i64 (n : Int) → E 52 = x.midB 1 n → E 53 = .int .i64 ((n - 1 : Nat) : Int) → E 54 = .int .i64 ((k + 1 : Nat) : Int) → I (n - 1 - (k + 1)) E S := by
    intro k E S q1 q2 q3 q4 q5 q6 q7 q8 q9
    rw [hI]; exact ⟨k + 1, rfl, q2, q1, q3, q4, q5, q6, q7, q8, q9⟩
  by_cases hcb : contB l (n - 1)
  · refine W_cut (fun E S => Kept st S ∧ E 0 = x ∧ E 5 = .int .i32 ((accP l p (n - 1) : Nat) : Int) ∧ E 6 = .int .i64 (n : Int)) ?_ ?_
    · simp (maxSteps := 1000000) (disch := omega) only [h0, h5, h6, hslc, hlm, W_seq, W_region, W_cond, W_block, W_skip, W_label, W_exit, W_goto, W_ret, WO_cons, WO_consG, WO_nil, wantedA_eq, wantB, evOp, ev_tmp, ev_const, ev_fn, WN_some, WN_none, updO_some, updO_none, upd_eq,
 ↓reduceIte, Nat.reduceEqDiff, List.nil_append, List.cons_append, List.append_nil, List.map_cons, List.map_nil, env0_zero, env0_succ, env0_nil, Option.map_some, Option.map_none, seqQ_normal, seqQ_ret, seqQ_exit, seqQ_goto, blockQ_normal, blockQ_ret, blockQ_exit, blockQ_goto, condW_bool, loopQ_ret, loopQ_exit, loopQ_goto, endQ_ret, endQ_normal, keep_mk, keep_st,
 lss_i, leq_i, gtr_i, geq_i, eql_i, neq_i, eql_8, neq_8, lss_8, leq_8, gtr_8, geq_8, eql_s, neq_s, eql_b, neq_b, not_b, by_bys, by_nils, load_cp1, beq_true, beq_false, Bool.not_eq_true', decide_eq_true_eq, decide_eq_false_iff_not, decide_true, decide_false,
 Int.toNat_natCast, Int.ofNat_lt, Int.ofNat_le, Int.natCast_inj, Bool.false_eq_true, Bool.true_eq_false, extPV, List.getElem?_cons_zero, List.getElem?_cons_succ, nilckPV, Int.reduceToNat, Int.reduceLE, true_and, and_true, reduceCtorEq, or_false, false_or, or_true, Option.some.injEq, exists_eq_left', Bool.not_true, Bool.not_false, ne_eq, Int.reduceEq, not_true_eq_false, not_false_eq_true, Int.reduceLT, UInt8.reduceLT, UInt8.reduceLE, UInt8.reduceToNat]
      refine W_loop I ?_ start
      clear hk h0 h5 h6 start
      intro m E S hh
      rw [hI] at hh
      obtain ⟨k, rfl, hk1, hck, hk, h0, h5, h6, h52, h53, h54⟩ := hh
      by_cases hlt : k < n - 1
      · obtain ⟨d, hd⟩ : ∃ d, d = l.getD (k + 1) 0 := ⟨_, rfl⟩
        have hid : iaddrPV 1 (x.midB 1 n) (.int .i64 (k : Int)) = some (.cp [.b8 d]) := by
          rw [iaddr_by hmb (by omega) (by rw [hml]; simpa using hlt), Int.toNat_natCast, mid_getD (by omega), ← hd]
        have hdc := hcb k hlt
        rw [← hd] at hdc
        have q6 : UInt8.ofNat (d.toNat / 64) = 2 := (isC d).2 hdc
        have ha := hacc k (by omega)
        have hstep : accP l p (k + 1) = 64 * accP l p k + d.toNat % 64 := by rw [hd]; rfl
        simp (maxSteps := 1000000) (disch := omega) only [h0, h5, h6, h52, h53, h54, hlt, hid, load_cp1, shr6, eq_true q6, shl6 ha, and_8, cI32, and63, or_i32 (q := d.toNat % 64) ha (by omega), add_n, W_seq, W_region, W_cond, W_block, W_skip, W_label, W_exit, W_goto, W_ret, WO_cons, WO_consG, WO_nil, wantedA_eq, wantB, evOp, ev_tmp, ev_const, ev_fn, WN_some, WN_none, updO_some, updO_none, upd_eq,
 ↓reduceIte, Nat.reduceEqDiff, List.nil_append, List.cons_append, List.append_nil, List.map_cons, List.map_nil, env0_zero, env0_succ, env0_nil, Option.map_some, Option.map_none, seqQ_normal, seqQ_ret, seqQ_exit, seqQ_goto, blockQ_normal, blockQ_ret, blockQ_exit, blockQ_goto, condW_bool, loopQ_ret, loopQ_exit, loopQ_goto, endQ_ret, endQ_normal, keep_mk, keep_st,
 lss_i, leq_i, gtr_i, geq_i, eql_i, neq_i, eql_8, neq_8, lss_8, leq_8, gtr_8, geq_8, eql_s, neq_s, eql_b, neq_b, not_b, by_bys, by_nils, load_cp1, beq_true, beq_false, Bool.not_eq_true', decide_eq_true_eq, decide_eq_false_iff_not, decide_true, decide_false,
 Int.toNat_natCast, Int.ofNat_lt, Int.ofNat_le, Int.natCast_inj, Bool.false_eq_true, Bool.true_eq_false, extPV, List.getElem?_cons_zero, List.getElem?_cons_succ, nilckPV, Int.reduceToNat, Int.reduceLE, true_and, and_true, reduceCtorEq, or_false, false_or, or_true, Option.some.injEq, exists_eq_left', Bool.not_true, Bool.not_false, ne_eq, Int.reduceEq, not_true_eq_false, not_false_eq_true, Int.reduceLT, UInt8.reduceLT, UInt8.reduceLE, UInt8.reduceToNat]
        exact loopQ_intro (m := n - 1 - (k + 1)) (by omega) (nxt k _ _ (fun j hj => by
          by_cases hjk : j = k
          · subst hjk; rw [← hd]; exact hdc
          · exact hck j (by omega)) (by omega) hk h0 (by rw [hstep]; rfl) h6 h52 h53 rfl)
      · obtain rfl : k = n - 1 := by omega
        simp (maxSteps := 1000000) (disch := omega) only [h0, h5, h6, h52, h53, h54, hlt, W_seq, W_region, W_cond, W_block, W_skip, W_label, W_exit, W_goto, W_ret, WO_cons, WO_consG, WO_nil, wantedA_eq, wantB, evOp, ev_tmp, ev_const, ev_fn, WN_some, WN_none, updO_some, updO_none, upd_eq,
 ↓reduceIte, Nat.reduceEqDiff, List.nil_append, List.cons_append, List.append_nil, List.map_cons, List.map_nil, env0_zero, env0_succ, env0_nil, Option.map_some, Option.map_none, seqQ_normal, seqQ_ret, seqQ_exit, seqQ_goto, blockQ_normal, blockQ_ret, blockQ_exit, blockQ_goto, condW_bool, loopQ_ret, loopQ_exit, loopQ_goto, endQ_ret, endQ_normal, keep_mk, keep_st,
 lss_i, leq_i, gtr_i, geq_i, eql_i, neq_i, eql_8, neq_8, lss_8, leq_8, gtr_8, geq_8, eql_s, neq_s, eql_b, neq_b, not_b, by_bys, by_nils, load_cp1, beq_true, beq_false, Bool.not_eq_true', decide_eq_true_eq, decide_eq_false_iff_not, decide_true, decide_false,
 Int.toNat_natCast, Int.ofNat_lt, Int.ofNat_le, Int.natCast_inj, Bool.false_eq_true, Bool.true_eq_false, extPV, List.getElem?_cons_zero, List.getElem?_cons_succ, nilckPV, Int.reduceToNat, Int.reduceLE, true_and, and_true, reduceCtorEq, or_false, false_or, or_true, Option.some.injEq, exists_eq_left', Bool.not_true, Bool.not_false, ne_eq, Int.reduceEq, not_true_eq_false, not_false_eq_true, Int.reduceLT, UInt8.reduceLT, UInt8.reduceLE, UInt8.reduceToNat]
        exact hk
    clear hk h0 h5 h6 start
    rintro e S ⟨hk, h0, h5, h6⟩
    obtain ⟨v, hv⟩ : ∃ v, v = accP l p (n - 1) := ⟨_, rfl⟩
    rw [← hv] at h5 hnx
    have hip := fun S : St => isPoint_spec (st := S) (p := v)
    by_cases hpt : pointN v
    · simp only [decide_eq_true hpt] at hip
      by_cases hlow : v < lowN n
      · have hno : nextOf l = none := by rw [hnx, if_pos (.inr (.inr (.inr (.inr hlow))))]
        rcases hn24 with ⟨rfl, -⟩ | ⟨rfl, -⟩ | ⟨rfl, -⟩
        · have h6' : e 6 = .int .i64 2 := h6
          have f1 : (v : Int) < 128 := by simp [lowN] at hlow; omega
          simp (maxSteps := 1000000) (disch := omega) only [h0, h5, h6', hip, f1, W_seq, W_region, W_cond, W_block, W_skip, W_label, W_exit, W_goto, W_ret, WO_cons, WO_consG, WO_nil, wantedA_eq, wantB, evOp, ev_tmp, ev_const, ev_fn, WN_some, WN_none, updO_some, updO_none, upd_eq,
 ↓reduceIte, Nat.reduceEqDiff, List.nil_append, List.cons_append, List.append_nil, List.map_cons, List.map_nil, env0_zero, env0_succ, env0_nil, Option.map_some, Option.map_none, seqQ_normal, seqQ_ret, seqQ_exit, seqQ_goto, blockQ_normal, blockQ_ret, blockQ_exit, blockQ_goto, condW_bool, loopQ_ret, loopQ_exit, loopQ_goto, endQ_ret, endQ_normal, keep_mk, keep_st,
 lss_i, leq_i, gtr_i, geq_i, eql_i, neq_i, eql_8, neq_8, lss_8, leq_8, gtr_8, geq_8, eql_s, neq_s, eql_b, neq_b, not_b, by_bys, by_nils, load_cp1, beq_true, beq_false, Bool.not_eq_true', decide_eq_true_eq, decide_eq_false_iff_not, decide_true, decide_false,
 Int.toNat_natCast, Int.ofNat_lt, Int.ofNat_le, Int.natCast_inj, Bool.false_eq_true, Bool.true_eq_false, extPV, List.getElem?_cons_zero, List.getElem?_cons_succ, nilckPV, Int.reduceToNat, Int.reduceLE, true_and, and_true, reduceCtorEq, or_false, false_or, or_true, Option.some.injEq, exists_eq_left', Bool.not_true, Bool.not_false, ne_eq, Int.reduceEq, not_true_eq_false, not_false_eq_true, Int.reduceLT, UInt8.reduceLT, UInt8.reduceLE, UInt8.reduceToNat]
          exact wrong _ _ hk hno hne
        · have h6' : e 6 = .int .i64 3 := h6
          have f1 : (v : Int) < 2048 := by simp [lowN] at hlow; omega
          simp (maxSteps := 1000000) (disch := omega) only [h0, h5, h6', hip, f1, W_seq, W_region, W_cond, W_block, W_skip, W_label, W_exit, W_goto, W_ret, WO_cons, WO_consG, WO_nil, wantedA_eq, wantB, evOp, ev_tmp, ev_const, ev_fn, WN_some, WN_none, updO_some, updO_none, upd_eq,
 ↓reduceIte, Nat.reduceEqDiff, List.nil_append, List.cons_append, List.append_nil, List.map_cons, List.map_nil, env0_zero, env0_succ, env0_nil, Option.map_some, Option.map_none, seqQ_normal, seqQ_ret, seqQ_exit, seqQ_goto, blockQ_normal, blockQ_ret, blockQ_exit, blockQ_goto, condW_bool, loopQ_ret, loopQ_exit, loopQ_goto, endQ_ret, endQ_normal, keep_mk, keep_st,
 lss_i, leq_i, gtr_i, geq_i, eql_i, neq_i, eql_8, neq_8, lss_8, leq_8, gtr_8, geq_8, eql_s, neq_s, eql_b, neq_b, not_b, by_bys, by_nils, load_cp1, beq_true, beq_false, Bool.not_eq_true', decide_eq_true_eq, decide_eq_false_iff_not, decide_true, decide_false,
 Int.toNat_natCast, Int.ofNat_lt, Int.ofNat_le, Int.natCast_inj, Bool.false_eq_true, Bool.true_eq_false, extPV, List.getElem?_cons_zero, List.getElem?_cons_succ, nilckPV, Int.reduceToNat, Int.reduceLE, true_and, and_true, reduceCtorEq, or_false, false_or, or_true, Option.some.injEq, exists_eq_left', Bool.not_true, Bool.not_false, ne_eq, Int.reduceEq, not_true_eq_false, not_false_eq_true, Int.reduceLT, UInt8.reduceLT, UInt8.reduceLE, UInt8.reduceToNat]
          exact wrong _ _ hk hno hne
        · have h6' : e 6 = .int .i64 4 := h6
          have f1 : (v : Int) < 65536 := by simp [lowN] at hlow; omega
          simp (maxSteps := 1000000) (disch := omega) only [h0, h5, h6', hip, f1, W_seq, W_region, W_cond, W_block, W_skip, W_label, W_exit, W_goto, W_ret, WO_cons, WO_consG, WO_nil, wantedA_eq, wantB, evOp, ev_tmp, ev_const, ev_fn, WN_some, WN_none, updO_some, updO_none, upd_eq,
 ↓reduceIte, Nat.reduceEqDiff, List.nil_append, List.cons_append, List.append_nil, List.map_cons, List.map_nil, env0_zero, env0_succ, env0_nil, Option.map_some, Option.map_none, seqQ_normal, seqQ_ret, seqQ_exit, seqQ_goto, blockQ_normal, blockQ_ret, blockQ_exit, blockQ_goto, condW_bool, loopQ_ret, loopQ_exit, loopQ_goto, endQ_ret, endQ_normal, keep_mk, keep_st,
 lss_i, leq_i, gtr_i, geq_i, eql_i, neq_i, eql_8, neq_8, lss_8, leq_8, gtr_8, geq_8, eql_s, neq_s, eql_b, neq_b, not_b, by_bys, by_nils, load_cp1, beq_true, beq_false, Bool.not_eq_true', decide_eq_true_eq, decide_eq_false_iff_not, decide_true, decide_false,
 Int.toNat_natCast, Int.ofNat_lt, Int.ofNat_le, Int.natCast_inj, Bool.false_eq_true, Bool.true_eq_false, extPV, List.getElem?_cons_zero, List.getElem?_cons_succ, nilckPV, Int.reduceToNat, Int.reduceLE, true_and, and_true, reduceCtorEq, or_false, false_or, or_true, Option.some.injEq, exists_eq_left', Bool.not_true, Bool.not_false, ne_eq, Int.reduceEq, not_true_eq_false, not_false_eq_true, Int.reduceLT, UInt8.reduceLT, UInt8.reduceLE, UInt8.reduceToNat]
          exact wrong _ _ hk hno hne
      · have hyes : nextOf l = some (v, n) := by
          rw [hnx, if_neg]
          simp only [not_or, Classical.not_not]
          exact ⟨hn0, hln, hcb, hpt, hlow⟩
        rcases hn24 with ⟨rfl, -⟩ | ⟨rfl, -⟩ | ⟨rfl, -⟩
        · have h6' : e 6 = .int .i64 2 := h6
          have f1 : ¬ (v : Int) < 128 := by simp [lowN] at hlow; omega
          simp (maxSteps := 1000000) (disch := omega) only [h0, h5, h6', hip, f1, W_seq, W_region, W_cond, W_block, W_skip, W_label, W_exit, W_goto, W_ret, WO_cons, WO_consG, WO_nil, wantedA_eq, wantB, evOp, ev_tmp, ev_const, ev_fn, WN_some, WN_none, updO_some, updO_none, upd_eq,
 ↓reduceIte, Nat.reduceEqDiff, List.nil_append, List.cons_append, List.append_nil, List.map_cons, List.map_nil, env0_zero, env0_succ, env0_nil, Option.map_some, Option.map_none, seqQ_normal, seqQ_ret, seqQ_exit, seqQ_goto, blockQ_normal, blockQ_ret, blockQ_exit, blockQ_goto, condW_bool, loopQ_ret, loopQ_exit, loopQ_goto, endQ_ret, endQ_normal, keep_mk, keep_st,
 lss_i, leq_i, gtr_i, geq_i, eql_i, neq_i, eql_8, neq_8, lss_8, leq_8, gtr_8, geq_8, eql_s, neq_s, eql_b, neq_b, not_b, by_bys, by_nils, load_cp1, beq_true, beq_false, Bool.not_eq_true', decide_eq_true_eq, decide_eq_false_iff_not, decide_true, decide_false,
 Int.toNat_natCast, Int.ofNat_lt, Int.ofNat_le, Int.natCast_inj, Bool.false_eq_true, Bool.true_eq_false, extPV, List.getElem?_cons_zero, List.getElem?_cons_succ, nilckPV, Int.reduceToNat, Int.reduceLE, true_and, and_true, reduceCtorEq, or_false, false_or, or_true, Option.some.injEq, exists_eq_left', Bool.not_true, Bool.not_false, ne_eq, Int.reduceEq, not_true_eq_false, not_false_eq_true, Int.reduceLT, UInt8.reduceLT, UInt8.reduceLE, UInt8.reduceToNat]
          exact fin _ _ _ _ _ hk (nextV_some hyes) rfl rfl rfl
        · have h6' : e 6 = .int .i64 3 := h6
          have f1 : ¬ (v : Int) < 2048 := by simp [lowN] at hlow; omega
          simp (maxSteps := 1000000) (disch := omega) only [h0, h5, h6', hip, f1, W_seq, W_region, W_cond, W_block, W_skip, W_label, W_exit, W_goto, W_ret, WO_cons, WO_consG, WO_nil, wantedA_eq, wantB, evOp, ev_tmp, ev_const, ev_fn, WN_some, WN_none, updO_some, updO_none, upd_eq,
 ↓reduceIte, Nat.reduceEqDiff, List.nil_append, List.cons_append, List.append_nil, List.map_cons, List.map_nil, env0_zero, env0_succ, env0_nil, Option.map_some, Option.map_none, seqQ_normal, seqQ_ret, seqQ_exit, seqQ_goto, blockQ_normal, blockQ_ret, blockQ_exit, blockQ_goto, condW_bool, loopQ_ret, loopQ_exit, loopQ_goto, endQ_ret, endQ_normal, keep_mk, keep_st,
 lss_i, leq_i, gtr_i, geq_i, eql_i, neq_i, eql_8, neq_8, lss_8, leq_8, gtr_8, geq_8, eql_s, neq_s, eql_b, neq_b, not_b, by_bys, by_nils, load_cp1, beq_true, beq_false, Bool.not_eq_true', decide_eq_true_eq, decide_eq_false_iff_not, decide_true, decide_false,
 Int.toNat_natCast, Int.ofNat_lt, Int.ofNat_le, Int.natCast_inj, Bool.false_eq_true, Bool.true_eq_false, extPV, List.getElem?_cons_zero, List.getElem?_cons_succ, nilckPV, Int.reduceToNat, Int.reduceLE, true_and, and_true, reduceCtorEq, or_false, false_or, or_true, Option.some.injEq, exists_eq_left', Bool.not_true, Bool.not_false, ne_eq, Int.reduceEq, not_true_eq_false, not_false_eq_true, Int.reduceLT, UInt8.reduceLT, UInt8.reduceLE, UInt8.reduceToNat]
          exact fin _ _ _ _ _ hk (nextV_some hyes) rfl rfl rfl
        · have h6' : e 6 = .int .i64 4 := h6
          have f1 : ¬ (v : Int) < 65536 := by simp [lowN] at hlow; omega
          simp (maxSteps := 1000000) (disch := omega) only [h0, h5, h6', hip, f1, W_seq, W_region, W_cond, W_block, W_skip, W_label, W_exit, W_goto, W_ret, WO_cons, WO_consG, WO_nil, wantedA_eq, wantB, evOp, ev_tmp, ev_const, ev_fn, WN_some, WN_none, updO_some, updO_none, upd_eq,
 ↓reduceIte, Nat.reduceEqDiff, List.nil_append, List.cons_append, List.append_nil, List.map_cons, List.map_nil, env0_zero, env0_succ, env0_nil, Option.map_some, Option.map_none, seqQ_normal, seqQ_ret, seqQ_exit, seqQ_goto, blockQ_normal, blockQ_ret, blockQ_exit, blockQ_goto, condW_bool, loopQ_ret, loopQ_exit, loopQ_goto, endQ_ret, endQ_normal, keep_mk, keep_st,
 lss_i, leq_i, gtr_i, geq_i, eql_i, neq_i, eql_8, neq_8, lss_8, leq_8, gtr_8, geq_8, eql_s, neq_s, eql_b, neq_b, not_b, by_bys, by_nils, load_cp1, beq_true, beq_false, Bool.not_eq_true', decide_eq_true_eq, decide_eq_false_iff_not, decide_true, decide_false,
 Int.toNat_natCast, Int.ofNat_lt, Int.ofNat_le, Int.natCast_inj, Bool.false_eq_true, Bool.true_eq_false, extPV, List.getElem?_cons_zero, List.getElem?_cons_succ, nilckPV, Int.reduceToNat, Int.reduceLE, true_and, and_true, reduceCtorEq, or_false, false_or, or_true, Option.some.injEq, exists_eq_left', Bool.not_true, Bool.not_false, ne_eq, Int.reduceEq, not_true_eq_false, not_false_eq_true, Int.reduceLT, UInt8.reduceLT, UInt8.reduceLE, UInt8.reduceToNat]
          exact fin _ _ _ _ _ hk (nextV_some hyes) rfl rfl rfl
    · simp only [decide_eq_false hpt] at hip
      simp (maxSteps := 1000000) (disch := omega) only [h0, h5, h6, hip, W_seq, W_region, W_cond, W_block, W_skip, W_label, W_exit, W_goto, W_ret, WO_cons, WO_consG, WO_nil, wantedA_eq, wantB, evOp, ev_tmp, ev_const, ev_fn, WN_some, WN_none, updO_some, updO_none, upd_eq,
 ↓reduceIte, Nat.reduceEqDiff, List.nil_append, List.cons_append, List.append_nil, List.map_cons, List.map_nil, env0_zero, env0_succ, env0_nil, Option.map_some, Option.map_none, seqQ_normal, seqQ_ret, seqQ_exit, seqQ_goto, blockQ_normal, blockQ_ret, blockQ_exit, blockQ_goto, condW_bool, loopQ_ret, loopQ_exit, loopQ_goto, endQ_ret, endQ_normal, keep_mk, keep_st,
 lss_i, leq_i, gtr_i, geq_i, eql_i, neq_i, eql_8, neq_8, lss_8, leq_8, gtr_8, geq_8, eql_s, neq_s, eql_b, neq_b, not_b, by_bys, by_nils, load_cp1, beq_true, beq_false, Bool.not_eq_true', decide_eq_true_eq, decide_eq_false_iff_not, decide_true, decide_false,
 Int.toNat_natCast, Int.ofNat_lt, Int.ofNat_le, Int.natCast_inj, Bool.false_eq_true, Bool.true_eq_false, extPV, List.getElem?_cons_zero, List.getElem?_cons_succ, nilckPV, Int.reduceToNat, Int.reduceLE, true_and, and_true, reduceCtorEq, or_false, false_or, or_true, Option.some.injEq, exists_eq_left', Bool.not_true, Bool.not_false, ne_eq, Int.reduceEq, not_true_eq_false, not_false_eq_true, Int.reduceLT, UInt8.reduceLT, UInt8.reduceLE, UInt8.reduceToNat]
      exact wrong _ _ hk (by rw [hnx, if_pos (.inr (.inr (.inr (.inl hpt))))]) hne
  · have hno : nextOf l = none := by rw [hnx, if_pos (.inr (.inr (.inl hcb)))]
    simp (maxSteps := 1000000) (disch := omega) only [h0, h5, h6, hslc, hlm, W_seq, W_region, W_cond, W_block, W_skip, W_label, W_exit, W_goto, W_ret, WO_cons, WO_consG, WO_nil, wantedA_eq, wantB, evOp, ev_tmp, ev_const, ev_fn, WN_some, WN_none, updO_some, updO_none, upd_eq,
 ↓reduceIte, Nat.reduceEqDiff, List.nil_append, List.cons_append, List.append_nil, List.map_cons, List.map_nil, env0_zero, env0_succ, env0_nil, Option.map_some, Option.map_none, seqQ_normal, seqQ_ret, seqQ_exit, seqQ_goto, blockQ_normal, blockQ_ret, blockQ_exit, blockQ_goto, condW_bool, loopQ_ret, loopQ_exit, loopQ_goto, endQ_ret, endQ_normal, keep_mk, keep_st,
 lss_i, leq_i, gtr_i, geq_i, eql_i, neq_i, eql_8, neq_8, lss_8, leq_8, gtr_8, geq_8, eql_s, neq_s, eql_b, neq_b, not_b, by_bys, by_nils, load_cp1, beq_true, beq_false, Bool.not_eq_true', decide_eq_true_eq, decide_eq_false_iff_not, decide_true, decide_false,
 Int.toNat_natCast, Int.ofNat_lt, Int.ofNat_le, Int.natCast_inj, Bool.false_eq_true, Bool.true_eq_false, extPV, List.getElem?_cons_zero, List.getElem?_cons_succ, nilckPV, Int.reduceToNat, Int.reduceLE, true_and, and_true, reduceCtorEq, or_false, false_or, or_true, Option.some.injEq, exists_eq_left', Bool.not_true, Bool.not_false, ne_eq, Int.reduceEq, not_true_eq_false, not_false_eq_true, Int.reduceLT, UInt8.reduceLT, UInt8.reduceLE, UInt8.reduceToNat]
    refine W_loop I ?_ start
    clear hk h0 h5 h6 start
    intro m E S hh
    rw [hI] at hh
    obtain ⟨k, rfl, hk1, hck, hk, h0, h5, h6, h52, h53, h54⟩ := hh
    by_cases hlt : k < n - 1
    · obtain ⟨d, hd⟩ : ∃ d, d = l.getD (k + 1) 0 := ⟨_, rfl⟩
      have hid : iaddrPV 1 (x.midB 1 n) (.int .i64 (k : Int)) = some (.cp [.b8 d]) := by
        rw [iaddr_by hmb (by omega) (by rw [hml]; simpa using hlt), Int.toNat_natCast, mid_getD (by omega), ← hd]
      by_cases q6 : UInt8.ofNat (d.toNat / 64) = 2
      · have hdc := (isC d).1 q6
        have ha := hacc k (by omega)
        have hstep : accP l p (k + 1) = 64 * accP l p k + d.toNat % 64 := by rw [hd]; rfl
        simp (maxSteps := 1000000) (disch := omega) only [h0, h5, h6, h52, h53, h54, hlt, hid, load_cp1, shr6, eq_true q6, shl6 ha, and_8, cI32, and63, or_i32 (q := d.toNat % 64) ha (by omega), add_n, W_seq, W_region, W_cond, W_block, W_skip, W_label, W_exit, W_goto, W_ret, WO_cons, WO_consG, WO_nil, wantedA_eq, wantB, evOp, ev_tmp, ev_const, ev_fn, WN_some, WN_none, updO_some, updO_none, upd_eq,
 ↓reduceIte, Nat.reduceEqDiff, List.nil_append, List.cons_append, List.append_nil, List.map_cons, List.map_nil, env0_zero, env0_succ, env0_nil, Option.map_some, Option.map_none, seqQ_normal, seqQ_ret, seqQ_exit, seqQ_goto, blockQ_normal, blockQ_ret, blockQ_exit, blockQ_goto, condW_bool, loopQ_ret, loopQ_exit, loopQ_goto, endQ_ret, endQ_normal, keep_mk, keep_st,
 lss_i, leq_i, gtr_i, geq_i, eql_i, neq_i, eql_8, neq_8, lss_8, leq_8, gtr_8, geq_8, eql_s, neq_s, eql_b, neq_b, not_b, by_bys, by_nils, load_cp1, beq_true, beq_false, Bool.not_eq_true', decide_eq_true_eq, decide_eq_false_iff_not, decide_true, decide_false,
 Int.toNat_natCast, Int.ofNat_lt, Int.ofNat_le, Int.natCast_inj, Bool.false_eq_true, Bool.true_eq_false, extPV, List.getElem?_cons_zero, List.getElem?_cons_succ, nilckPV, Int.reduceToNat, Int.reduceLE, true_and, and_true, reduceCtorEq, or_false, false_or, or_true, Option.some.injEq, exists_eq_left', Bool.not_true, Bool.not_false, ne_eq, Int.reduceEq, not_true_eq_false, not_false_eq_true, Int.reduceLT, UInt8.reduceLT, UInt8.reduceLE, UInt8.reduceToNat]
        exact loopQ_intro (m := n - 1 - (k + 1)) (by omega) (nxt k _ _ (fun j hj => by
          by_cases hjk : j = k
          · subst hjk; rw [← hd]; exact hdc
          · exact hck j (by omega)) (by omega) hk h0 (by rw [hstep]; rfl) h6 h52 h53 rfl)
      · simp (maxSteps := 1000000) (disch := omega) only [h0, h5, h6, h52, h53, h54, hlt, hid, load_cp1, shr6, q6, W_seq, W_region, W_cond, W_block, W_skip, W_label, W_exit, W_goto, W_ret, WO_cons, WO_consG, WO_nil, wantedA_eq, wantB, evOp, ev_tmp, ev_const, ev_fn, WN_some, WN_none, updO_some, updO_none, upd_eq,
 ↓reduceIte, Nat.reduceEqDiff, List.nil_append, List.cons_append, List.append_nil, List.map_cons, List.map_nil, env0_zero, env0_succ, env0_nil, Option.map_some, Option.map_none, seqQ_normal, seqQ_ret, seqQ_exit, seqQ_goto, blockQ_normal, blockQ_ret, blockQ_exit, blockQ_goto, condW_bool, loopQ_ret, loopQ_exit, loopQ_goto, endQ_ret, endQ_normal, keep_mk, keep_st,
 lss_i, leq_i, gtr_i, geq_i, eql_i, neq_i, eql_8, neq_8, lss_8, leq_8, gtr_8, geq_8, eql_s, neq_s, eql_b, neq_b, not_b, by_bys, by_nils, load_cp1, beq_true, beq_false, Bool.not_eq_true', decide_eq_true_eq, decide_eq_false_iff_not, decide_true, decide_false,
 Int.toNat_natCast, Int.ofNat_lt, Int.ofNat_le, Int.natCast_inj, Bool.false_eq_true, Bool.true_eq_false, extPV, List.getElem?_cons_zero, List.getElem?_cons_succ, nilckPV, Int.reduceToNat, Int.reduceLE, true_and, and_true, reduceCtorEq, or_false, false_or, or_true, Option.some.injEq, exists_eq_left', Bool.not_true, Bool.not_false, ne_eq, Int.reduceEq, not_true_eq_false, not_false_eq_true, Int.reduceLT, UInt8.reduceLT, UInt8.reduceLE, UInt8.reduceToNat]
        exact wrong _ _ hk hno hne
    · obtain rfl : k = n - 1 := by omega
      exact absurd hck hcb
end Go.Ab

/-
  A point's bytes, by the document; the point at a text's front is the one whose bytes stand there.
-/
namespace Go.Ab
set_option linter.unusedVariables false
set_option linter.unusedSimpArgs false
variable {st s : St} {e : Env}

def putOf (p : Nat) : List UInt8 :=
  if p < 128 then [UInt8.ofNat p] else if p < 2048 then [UInt8.ofNat (192 + p / 64), UInt8.ofNat (128 + p % 64)]
  else if p < 65536 then [UInt8.ofNat (224 + p / 4096), UInt8.ofNat (128 + p / 64 % 64), UInt8.ofNat (128 + p % 64)]
  else [UInt8.ofNat (240 + p / 262144), UInt8.ofNat (128 + p / 4096 % 64), UInt8.ofNat (128 + p / 64 % 64), UInt8.ofNat (128 + p % 64)]

end Go.Ab

/-
  The point at the front is the one whose bytes stand there.
-/
namespace Go.Ab
set_option linter.unusedVariables false
set_option linter.unusedSimpArgs false
variable {st s : St} {e : Env}

def mdN (n : Nat) : Nat := if n = 2 then 32 else if n = 3 then 16 else 8
def qN (l : List UInt8) (n : Nat) : Nat := accP l ((l.getD 0 0).toNat % mdN n) (n - 1)
def succN (l : List UInt8) (n : Nat) : Prop := pointN (qN l n) ∧ putOf (qN l n) = l.take n

theorem u8_of {a : UInt8} {k : Nat} (h : k = a.toNat) : UInt8.ofNat k = a := by rw [h]; simp
theorem of_u8 {a : UInt8} {k : Nat} (h : UInt8.ofNat k = a) (hk : k < 256) : k = a.toNat := by
  rw [← h]; simp; omega

theorem lead2 {c : Nat} (h : 192 ≤ c ∧ c < 224) : lead c = (c % 32, 2) := by unfold lead; rw [if_pos h]
theorem lead3 {c : Nat} (h : 224 ≤ c ∧ c < 240) : lead c = (c % 16, 3) := by unfold lead; rw [if_neg (by omega), if_pos h]
theorem lead4 {c : Nat} (h : 240 ≤ c ∧ c < 248) : lead c = (c % 8, 4) := by unfold lead; rw [if_neg (by omega), if_neg (by omega), if_pos h]

theorem next_of {l : List UInt8} {p n : Nat} (hne : l ≠ []) (hc : ¬ (l.getD 0 0).toNat < 128) (hl : lead (l.getD 0 0).toNat = (p, n)) (hn : n ≠ 0) (hlen : n ≤ l.length) (hcb : contB l (n - 1)) (hp : pointN (accP l p (n - 1))) (hlow : lowN n ≤ accP l p (n - 1)) :
    nextOf l = some (accP l p (n - 1), n) := by
  unfold nextOf
  rw [if_neg hne, if_neg hc, hl, if_neg]
  simp only [not_or, Classical.not_not]
  exact ⟨hn, by omega, hcb, hp, by omega⟩

theorem succ_next {l : List UInt8} {n : Nat} (hn : n = 2 ∨ n = 3 ∨ n = 4) (hlen : n ≤ l.length) (hc : ¬ (l.getD 0 0).toNat < 128) (h : succN l n) : nextOf l = some (qN l n, n) := by
  have hne : l ≠ [] := by rintro rfl; simp at hlen; omega
  obtain ⟨h1, h2⟩ := h
  rcases hn with rfl | rfl | rfl
  · match l, hlen with
    | a :: b :: r, _ =>
      simp only [qN, mdN, accP, if_true, List.getD_cons_zero, List.getD_cons_succ, Nat.reduceSub, List.take_succ_cons, List.take_zero] at h1 h2 hc ⊢
      have ha := a.toNat_lt; have hb := b.toNat_lt
      obtain ⟨q, hq⟩ : ∃ q, q = 64 * (a.toNat % 32) + b.toNat % 64 := ⟨_, rfl⟩
      rw [← hq] at h1 h2 ⊢
      unfold putOf at h2
      split at h2
      · simp at h2
      · split at h2
        · simp only [List.cons.injEq, and_true] at h2
          have e1 := of_u8 h2.1 (by omega)
          have e2 := of_u8 h2.2 (by omega)
          have := next_of (l := a :: b :: r) (p := a.toNat % 32) (n := 2) hne (by simpa using hc) (lead2 (by simp only [List.getD_cons_zero]; omega)) (by omega) (by simp) (by
            intro j hj
            match j, hj with
            | 0, _ => simp only [List.getD_cons_succ, List.getD_cons_zero]; omega) (by simpa [accP, ← hq] using h1) (by simp [accP, lowN, ← hq]; omega)
          simpa [accP, ← hq] using this
        · split at h2 <;> simp at h2
  · match l, hlen with
    | a :: b :: c :: r, _ =>
      simp only [qN, mdN, accP, if_true, List.getD_cons_zero, List.getD_cons_succ, Nat.reduceSub, Nat.reduceEqDiff, if_false, List.take_succ_cons, List.take_zero] at h1 h2 hc ⊢
      have ha := a.toNat_lt; have hb := b.toNat_lt; have hcc := c.toNat_lt
      obtain ⟨q, hq⟩ : ∃ q, q = 64 * (64 * (a.toNat % 16) + b.toNat % 64) + c.toNat % 64 := ⟨_, rfl⟩
      rw [← hq] at h1 h2 ⊢
      unfold putOf at h2
      split at h2
      · simp at h2
      · split at h2
        · simp at h2
        · split at h2
          · simp only [List.cons.injEq, and_true] at h2
            have e1 := of_u8 h2.1 (by omega)
            have e2 := of_u8 h2.2.1 (by omega)
            have e3 := of_u8 h2.2.2 (by omega)
            have := next_of (l := a :: b :: c :: r) (p := a.toNat % 16) (n := 3) hne (by simpa using hc) (lead3 (by simp only [List.getD_cons_zero]; omega)) (by omega) (by simp) (by
              intro j hj
              match j, hj with
              | 0, _ => simp only [List.getD_cons_succ, List.getD_cons_zero]; omega
              | 1, _ => simp only [List.getD_cons_succ, List.getD_cons_zero]; omega) (by simpa [accP, ← hq] using h1) (by simp [accP, lowN, ← hq]; omega)
            simpa [accP, ← hq] using this
          · simp at h2
  · match l, hlen with
    | a :: b :: c :: d :: r, _ =>
      simp only [qN, mdN, accP, if_true, List.getD_cons_zero, List.getD_cons_succ, Nat.reduceSub, Nat.reduceEqDiff, if_false, List.take_succ_cons, List.take_zero] at h1 h2 hc ⊢
      have ha := a.toNat_lt; have hb := b.toNat_lt; have hcc := c.toNat_lt; have hdd := d.toNat_lt
      obtain ⟨q, hq⟩ : ∃ q, q = 64 * (64 * (64 * (a.toNat % 8) + b.toNat % 64) + c.toNat % 64) + d.toNat % 64 := ⟨_, rfl⟩
      rw [← hq] at h1 h2 ⊢
      have hq2 : q ≤ 1114111 := by unfold pointN at h1; omega
      unfold putOf at h2
      split at h2
      · simp at h2
      · split at h2
        · simp at h2
        · split at h2
          · simp at h2
          · simp only [List.cons.injEq, and_true] at h2
            have e1 := of_u8 h2.1 (by omega)
            have e2 := of_u8 h2.2.1 (by omega)
            have e3 := of_u8 h2.2.2.1 (by omega)
            have e4 := of_u8 h2.2.2.2 (by omega)
            have := next_of (l := a :: b :: c :: d :: r) (p := a.toNat % 8) (n := 4) hne (by simpa using hc) (lead4 (by simp only [List.getD_cons_zero]; omega)) (by omega) (by simp) (by
              intro j hj
              match j, hj with
              | 0, _ => simp only [List.getD_cons_succ, List.getD_cons_zero]; omega
              | 1, _ => simp only [List.getD_cons_succ, List.getD_cons_zero]; omega
              | 2, _ => simp only [List.getD_cons_succ, List.getD_cons_zero]; omega) (by simpa [accP, ← hq] using h1) (by simp [accP, lowN, ← hq]; omega)
            simpa [accP, ← hq] using this

theorem next_succ {l : List UInt8} {v n : Nat} (hc : ¬ (l.getD 0 0).toNat < 128) (h : nextOf l = some (v, n)) : (n = 2 ∨ n = 3 ∨ n = 4) ∧ n ≤ l.length ∧ succN l n := by
  unfold nextOf at h
  split at h
  · cases h
  rename_i hne
  simp only at h
  split at h
  · cases h
  rename_i hcond
  simp only [not_or, Classical.not_not] at hcond
  obtain ⟨c1, c2, c3, c4, c5⟩ := hcond
  simp only [Option.some.injEq, Prod.mk.injEq] at h
  obtain ⟨hv, hn⟩ := h
  rw [hn] at c1 c2 c3 c4 c5 hv
  have hl : lead (l.getD 0 0).toNat = ((lead (l.getD 0 0).toNat).1, n) := by rw [← hn]
  unfold lead at hl
  split at hl
  · rename_i hr
    simp only [Prod.mk.injEq] at hl
    obtain ⟨-, rfl⟩ := hl
    rw [lead2 hr] at c4 c5
    match l, c2 with
    | a :: b :: r, _ =>
      refine ⟨.inl rfl, by simp, ?_⟩
      have hb := c3 0 (by omega)
      simp only [succN, qN, mdN, accP, lowN, if_true, List.getD_cons_zero, List.getD_cons_succ, Nat.reduceSub, List.take_succ_cons, List.take_zero] at hr hb c4 c5 ⊢
      obtain ⟨q, hq⟩ : ∃ q, q = 64 * (a.toNat % 32) + b.toNat % 64 := ⟨_, rfl⟩
      rw [← hq] at c4 c5 ⊢
      refine ⟨c4, ?_⟩
      unfold putOf
      rw [if_neg (by omega), if_pos (by omega), u8_of (a := a) (by omega), u8_of (a := b) (by omega)]
    | [], h => simp at h
    | [a], h => simp at h
  · split at hl
    · rename_i hr
      simp only [Prod.mk.injEq] at hl
      obtain ⟨-, rfl⟩ := hl
      rw [lead3 hr] at c4 c5
      match l, c2 with
      | a :: b :: c :: r, _ =>
        refine ⟨.inr (.inl rfl), by simp, ?_⟩
        have hb := c3 0 (by omega)
        have hb2 := c3 1 (by omega)
        simp only [succN, qN, mdN, accP, lowN, if_true, List.getD_cons_zero, List.getD_cons_succ, Nat.reduceSub, Nat.reduceEqDiff, if_false, List.take_succ_cons, List.take_zero] at hr hb hb2 c4 c5 ⊢
        obtain ⟨q, hq⟩ : ∃ q, q = 64 * (64 * (a.toNat % 16) + b.toNat % 64) + c.toNat % 64 := ⟨_, rfl⟩
        rw [← hq] at c4 c5 ⊢
        refine ⟨c4, ?_⟩
        unfold putOf
        rw [if_neg (by omega), if_neg (by omega), if_pos (by omega), u8_of (a := a) (by omega), u8_of (a := b) (by omega), u8_of (a := c) (by omega)]
      | [], h => simp at h
      | [a], h => simp at h
      | [a, b], h => simp at h
    · split at hl
      · rename_i hr
        simp only [Prod.mk.injEq] at hl
        obtain ⟨-, rfl⟩ := hl
        rw [lead4 hr] at c4 c5
        match l, c2 with
        | a :: b :: c :: d :: r, _ =>
          refine ⟨.inr (.inr rfl), by simp, ?_⟩
          have hb := c3 0 (by omega)
          have hb2 := c3 1 (by omega)
          have hb3 := c3 2 (by omega)
          simp only [succN, qN, mdN, accP, lowN, if_true, List.getD_cons_zero, List.getD_cons_succ, Nat.reduceSub, Nat.reduceEqDiff, if_false, List.take_succ_cons, List.take_zero] at hr hb hb2 hb3 c4 c5 ⊢
          obtain ⟨q, hq⟩ : ∃ q, q = 64 * (64 * (64 * (a.toNat % 8) + b.toNat % 64) + c.toNat % 64) + d.toNat % 64 := ⟨_, rfl⟩
          rw [← hq] at c4 c5 ⊢
          refine ⟨c4, ?_⟩
          unfold putOf
          rw [if_neg (by omega), if_neg (by omega), if_neg (by omega), u8_of (a := a) (by omega), u8_of (a := b) (by omega), u8_of (a := c) (by omega), u8_of (a := d) (by omega)]
        | [], h => simp at h
        | [a], h => simp at h
        | [a, b], h => simp at h
        | [a, b, c], h => simp at h
      · simp only [Prod.mk.injEq] at hl
        exact absurd hl.2.symm c1
end Go.Ab

/-
  The point at a text's front: the document's function.
-/
namespace Go.Ab
set_option linter.unusedVariables false
set_option linter.unusedSimpArgs false
variable {st s : St} {e : Env}

end Go.Ab

/-
  A text's points; whether it is one.
-/
namespace Go.Ab
set_option linter.unusedVariables false
set_option linter.unusedSimpArgs false
variable {st s : St} {e : Env}

theorem next_pos {l : List UInt8} {p n : Nat} (h : nextOf l = some (p, n)) : 1 ≤ n ∧ n ≤ l.length ∧ p < 2147483648 := by
  by_cases hc : (l.getD 0 0).toNat < 128
  · unfold nextOf at h
    split at h
    · cases h
    · rename_i hne
      cases h
      have := List.length_pos_iff.2 hne
      omega
  · obtain ⟨h1, h2, h3⟩ := next_succ hc h
    have h4 := succ_next h1 h2 hc h3
    rw [h] at h4
    simp only [Option.some.injEq, Prod.mk.injEq] at h4
    have := h3.1
    rw [← h4.1] at this
    unfold pointN at this
    omega

/-- A text's points from a place on; or where there is none. -/
def ptsOf : Nat → List UInt8 → Nat → Except Nat (List Nat)
  | 0, _, _ => .ok []
  | k + 1, l, i => if i < l.length then match nextOf (l.drop i) with
    | none => .error i
    | some (p, n) => match ptsOf k l (i + n) with
      | .ok r => .ok (p :: r)
      | .error j => .error j
    else .ok []
def ptV (p : Nat) : PV := .int .i32 (p : Int)
def ptsV (st : St) (r : Except Nat (List Nat)) : PV × St := match r with
  | .ok ps => (.tup [newSl st 1 (ps.map ptV), .agg [.int .i64 0, .int .i64 0]], newS st (ps.map ptV).isEmpty)
  | .error j => (.tup [.nils, .agg [.int .i64 (j : Int), .int .i64 20]], st)

theorem Kept.appS {esz : Nat} {v : PV} {xs : List PV} (hk : Kept st s) (h : Own st s esz v xs) : Kept st (Ab.appS s v) := by
  have htl := hk.tl
  rcases h with ⟨rfl, rfl⟩ | ⟨i, rfl, h2, h3⟩
  · exact hk.tok1
  · refine hk.of rfl rfl hk.lw (fun j hj => ?_) ?_
    · show (s.toks.set i false ++ [true])[j]? = s.toks[j]?
      rw [List.getElem?_append_left (by simp; omega), List.getElem?_set_ne (by omega)]
    · show st.toks.length ≤ (s.toks.set i false ++ [true]).length
      simp; omega
theorem Own.appK {esz : Nat} {v : PV} {xs ys : List PV} (hk : Kept st s) (h : Own st s esz v xs) : Own st (Ab.appS s v) esz (.sl esz (.own s.toks.length) ys) ys := by
  have htl := hk.tl
  refine .inr ⟨_, rfl, htl, ?_⟩
  rcases h with ⟨rfl, rfl⟩ | ⟨i, rfl, h2, h3⟩
  · simp [Ab.appS, St.tok1]
  · show (s.toks.set i false ++ [true])[s.toks.length]? = some true
    rw [List.getElem?_append_right (by simp)]; simp
theorem leave_ownA {v : PV} {xs : List PV} {a b : Int} (hk : Kept st s) (h : Own st s 1 v xs) (hne : xs = [] → v = .nils) : leave st s (.tup [v, .agg [.int .i64 a, .int .i64 b]]) = (.tup [newSl st 1 xs, .agg [.int .i64 a, .int .i64 b]], newS st xs.isEmpty) := by
  have e1 := hk.bx; have e2 := hk.lp; have e3 := hk.tk
  rcases h with ⟨rfl, rfl⟩ | ⟨i, rfl, h2, h3⟩
  · simp [leave, PV.inB, PV.inB.inBAll, hk.lw, keepRes, keepVals, keepVal, keepCells, keepLeaf, e1, e2, e3, newSl, newS]
  · by_cases hx : xs = []
    · have := hne hx; cases this
    · simp [leave, PV.inB, PV.inB.inBAll, hk.lw, keepRes, keepVals, keepVal, keepCells, keepLeaf, keepTok, h3, show ¬ i < st.toks.length by omega, e1, e2, e3, newSl, newS, hx, St.tok1]
theorem liti1 {p : Int} : litFill 1 (List.replicate 1 (.int .i32 0)) [(0, .int .i32 p)] = some [.int .i32 p] := lit1 rfl rfl
theorem build2i {a b : Int} : buildCells [.int .i64 0, .int .i64 0] [(0, 1, .int .i64 a), (1, 1, .int .i64 b)] = some [.int .i64 a, .int .i64 b] := by
  simp [buildCells, PV.cells, leafOk, setCells]
theorem build0i : buildCells [.int .i64 0, .int .i64 0] [] = some [.int .i64 0, .int .i64 0] := rfl

/-- The box of a fault. -/
def FB (st s : St) (a b : Int) : Prop := st.boxes.length < s.boxes.length ∧ s.boxes[st.boxes.length]? = some [.int .i64 a, .int .i64 b]
theorem FB.store {a b c d : Int} (hk : Kept st s) (h : FB st s a b) : ∃ s', storePV s 2 (.ptr st.boxes.length 0) (.agg [.int .i64 c, .int .i64 d]) = some s' ∧ Kept st s' ∧ FB st s' c d ∧ s'.toks = s.toks := by
  refine ⟨{ s with boxes := s.boxes.set st.boxes.length [.int .i64 c, .int .i64 d] }, ?_, ?_, ⟨by simpa using h.1, by simp [h.1]⟩, rfl⟩
  · simp [storePV, h.2, PV.cells, PV.inB, PV.inB.inBAll, leafOk, hasTok, tokOf, setCells]
  · exact hk.of (by rw [List.take_set_of_le (Nat.le_refl _)]) rfl hk.lw (fun _ _ => rfl) hk.tl
theorem FB.load {a b : Int} (h : FB st s a b) : loadPV s true 2 (.ptr st.boxes.length 0) = some (.agg [.int .i64 a, .int .i64 b]) := by
  simp [loadPV, h.2, readCells]
theorem FB.appS {v : PV} {esz : Nat} {xs : List PV} {a b : Int} (h : FB st s a b) (ho : Own st s esz v xs) : FB st (Ab.appS s v) a b := by
  rcases ho with ⟨rfl, rfl⟩ | ⟨i, rfl, _, _⟩ <;> exact h

set_option maxHeartbeats 1000000 in
theorem uPoints_spec {x : PV} {l : List UInt8} (hx : x.by = some l) (hl : l.length ≤ 100000000) : call prog (.fn 69 []) [x] st = some (ptsV st (ptsOf (l.length + 1) l 0)) := by
  refine call_of_W prog_69 ?_
  unfold F_utf_Points; dsimp only
  obtain ⟨T, hT⟩ : ∃ T, T = ptsOf (l.length + 1) l 0 := ⟨_, rfl⟩
  rw [← hT]
  refine W_cut (fun E S => Kept st S ∧ FB st S 0 0 ∧ E 0 = x ∧ E 3 = .ptr st.boxes.length 0) ?_ ?_
  · simp (maxSteps := 1000000) (disch := omega) only [allocPV, W_seq, W_region, W_cond, W_block, W_skip, W_label, W_exit, W_goto, W_ret, WO_cons, WO_consG, WO_nil, wantedA_eq, wantB, evOp, ev_tmp, ev_const, ev_fn, WN_some, WN_none, updO_some, updO_none, upd_eq,
 ↓reduceIte, Nat.reduceEqDiff, List.nil_append, List.cons_append, List.append_nil, List.map_cons, List.map_nil, env0_zero, env0_succ, env0_nil, Option.map_some, Option.map_none, seqQ_normal, seqQ_ret, seqQ_exit, seqQ_goto, blockQ_normal, blockQ_ret, blockQ_exit, blockQ_goto, condW_bool, loopQ_ret, loopQ_exit, loopQ_goto, endQ_ret, endQ_normal, keep_mk, keep_st,
 lss_i, leq_i, gtr_i, geq_i, eql_i, neq_i, eql_8, neq_8, lss_8, leq_8, gtr_8, geq_8, eql_s, neq_s, eql_b, neq_b, not_b, by_bys, by_nils, load_cp1, beq_true, beq_false, Bool.not_eq_true', decide_eq_true_eq, decide_eq_false_iff_not, decide_true, decide_false,
 Int.toNat_natCast, Int.ofNat_lt, Int.ofNat_le, Int.natCast_inj, Bool.false_eq_true, Bool.true_eq_false, extPV, List.getElem?_cons_zero, List.getElem?_cons_succ, nilckPV, Int.reduceToNat, Int.reduceLE, true_and, and_true, reduceCtorEq, or_false, false_or, or_true, Option.some.injEq, exists_eq_left', Bool.not_true, Bool.not_false, ne_eq, Int.reduceEq, not_true_eq_false, not_false_eq_true, Int.reduceLT, UInt8.reduceLT, UInt8.reduceLE, UInt8.reduceToNat]
    exact ⟨Kept.start.alloc, by simp, by simp⟩
  rintro e S ⟨hk, hb, h0, h3⟩
  simp (maxSteps := 1000000) (disch := omega) only [h0, h3, W_seq, W_region, W_cond, W_block, W_skip, W_label, W_exit, W_goto, W_ret, WO_cons, WO_consG, WO_nil, wantedA_eq, wantB, evOp, ev_tmp, ev_const, ev_fn, WN_some, WN_none, updO_some, updO_none, upd_eq,
 ↓reduceIte, Nat.reduceEqDiff, List.nil_append, List.cons_append, List.append_nil, List.map_cons, List.map_nil, env0_zero, env0_succ, env0_nil, Option.map_some, Option.map_none, seqQ_normal, seqQ_ret, seqQ_exit, seqQ_goto, blockQ_normal, blockQ_ret, blockQ_exit, blockQ_goto, condW_bool, loopQ_ret, loopQ_exit, loopQ_goto, endQ_ret, endQ_normal, keep_mk, keep_st,
 lss_i, leq_i, gtr_i, geq_i, eql_i, neq_i, eql_8, neq_8, lss_8, leq_8, gtr_8, geq_8, eql_s, neq_s, eql_b, neq_b, not_b, by_bys, by_nils, load_cp1, beq_true, beq_false, Bool.not_eq_true', decide_eq_true_eq, decide_eq_false_iff_not, decide_true, decide_false,
 Int.toNat_natCast, Int.ofNat_lt, Int.ofNat_le, Int.natCast_inj, Bool.false_eq_true, Bool.true_eq_false, extPV, List.getElem?_cons_zero, List.getElem?_cons_succ, nilckPV, Int.reduceToNat, Int.reduceLE, true_and, and_true, reduceCtorEq, or_false, false_or, or_true, Option.some.injEq, exists_eq_left', Bool.not_true, Bool.not_false, ne_eq, Int.reduceEq, not_true_eq_false, not_false_eq_true, Int.reduceLT, UInt8.reduceLT, UInt8.reduceLE, UInt8.reduceToNat]
  obtain ⟨I, hI⟩ : ∃ I : Nat → Env → St → Prop, I = fun m E S => ∃ (i k : Nat) (v : PV) (acc : List Nat), m = l.length - i ∧ l.length + 1 - i ≤ k ∧ i ≤ l.length ∧ acc.length ≤ i ∧ Kept st S ∧ FB st S 0 0 ∧ Own st S 1 v (acc.map ptV) ∧ (acc.map ptV = [] → v = .nils) ∧ T = (match ptsOf k l i with | .ok r => .ok (acc ++ r) | .error j => .error j) ∧ E 0 = x ∧ E 3 = .ptr st.boxes.length 0 ∧ E 4 = v ∧ E 5 = .int .i64 (i : Int) := ⟨_, rfl⟩
  refine W_loop I ?_ (n := l.length) (by
    rw [hI]
    refine ⟨0, l.length + 1, .nils, [], rfl, by omega, by omega, by simp, hk, hb, .inl ⟨rfl, rfl⟩, fun _ => rfl, ?_, h0, h3, rfl, rfl⟩
    rw [hT]; split <;> simp_all)
  clear hk hb h0 h3
  intro m e S hh
  rw [hI] at hh
  obtain ⟨i, k, v, acc, rfl, hki, hil, hacl, hk, hb, ho, hnil, hTT, h0, h3, h4, h5⟩ := hh
  by_cases hlt : i < l.length
  · obtain ⟨k, rfl⟩ : ∃ k', k = k' + 1 := ⟨k - 1, by omega⟩
    simp only [ptsOf, hlt, if_true] at hTT
    have hnx := fun S : St => uNext_spec (st := S) (dropB_by (i := i) hx) (by simp; omega)
    have hsl := slc_lo (k := .i64) (c := (i : Int)) hx (by omega) (by simpa using hil)
    rw [Int.toNat_natCast] at hsl
    cases hno : nextOf (l.drop i) with
    | none =>
      simp only [hno] at hTT
      have hdn : l.drop i ≠ [] := by intro h; have := congrArg List.length h; simp at this; omega
      rw [nextV_none hno hdn] at hnx
      obtain ⟨S2, a1, k1, b1, -⟩ := FB.store (c := (i : Int)) (d := 20) hk hb
      have hld := b1.load
      simp (maxSteps := 1000000) (disch := omega) only [h0, h3, h4, h5, len_by hx, hlt, hsl, hnx, build2i, a1, W_seq, W_region, W_cond, W_block, W_skip, W_label, W_exit, W_goto, W_ret, WO_cons, WO_consG, WO_nil, wantedA_eq, wantB, evOp, ev_tmp, ev_const, ev_fn, WN_some, WN_none, updO_some, updO_none, upd_eq,
 ↓reduceIte, Nat.reduceEqDiff, List.nil_append, List.cons_append, List.append_nil, List.map_cons, List.map_nil, env0_zero, env0_succ, env0_nil, Option.map_some, Option.map_none, seqQ_normal, seqQ_ret, seqQ_exit, seqQ_goto, blockQ_normal, blockQ_ret, blockQ_exit, blockQ_goto, condW_bool, loopQ_ret, loopQ_exit, loopQ_goto, endQ_ret, endQ_normal, keep_mk, keep_st,
 lss_i, leq_i, gtr_i, geq_i, eql_i, neq_i, eql_8, neq_8, lss_8, leq_8, gtr_8, geq_8, eql_s, neq_s, eql_b, neq_b, not_b, by_bys, by_nils, load_cp1, beq_true, beq_false, Bool.not_eq_true', decide_eq_true_eq, decide_eq_false_iff_not, decide_true, decide_false,
 Int.toNat_natCast, Int.ofNat_lt, Int.ofNat_le, Int.natCast_inj, Bool.false_eq_true, Bool.true_eq_false, extPV, List.getElem?_cons_zero, List.getElem?_cons_succ, nilckPV, Int.reduceToNat, Int.reduceLE, true_and, and_true, reduceCtorEq, or_false, false_or, or_true, Option.some.injEq, exists_eq_left', Bool.not_true, Bool.not_false, ne_eq, Int.reduceEq, not_true_eq_false, not_false_eq_true, Int.reduceLT, UInt8.reduceLT, UInt8.reduceLE, UInt8.reduceToNat]
      refine ⟨.tup [.nils, .agg [.int .i64 (i : Int), .int .i64 20]], ?_, ?_⟩
      · simp [resOf, rvAll, rv1, upd_eq, h3, hld, notTup, packRes]
      · rw [hTT]; exact k1.leave rfl (fun _ _ => rfl)
    | some pn =>
      obtain ⟨p, n⟩ := pn
      simp only [hno] at hTT
      rw [nextV_some hno] at hnx
      obtain ⟨hn1, hn2, hn3⟩ := next_pos hno
      simp only [List.length_drop] at hn2
      have happ := appV_own (u := ptV p) (t := .own S.toks.length) ho.tok1 (by simp only [List.length_map, room]; omega)
      have k2 := hk.tok1.appS ho.tok1
      have o2 := Own.appK (ys := acc.map ptV ++ [ptV p]) hk.tok1 ho.tok1
      have b2 : FB st (Ab.appS S.tok1 v) 0 0 := FB.appS (s := S.tok1) hb ho.tok1
      unfold ptV at happ
      simp (maxSteps := 1000000) (disch := omega) only [h0, h3, h4, h5, len_by hx, hlt, hsl, hnx, liti1, freshT_eq, happ, add_n, W_seq, W_region, W_cond, W_block, W_skip, W_label, W_exit, W_goto, W_ret, WO_cons, WO_consG, WO_nil, wantedA_eq, wantB, evOp, ev_tmp, ev_const, ev_fn, WN_some, WN_none, updO_some, updO_none, upd_eq,
 ↓reduceIte, Nat.reduceEqDiff, List.nil_append, List.cons_append, List.append_nil, List.map_cons, List.map_nil, env0_zero, env0_succ, env0_nil, Option.map_some, Option.map_none, seqQ_normal, seqQ_ret, seqQ_exit, seqQ_goto, blockQ_normal, blockQ_ret, blockQ_exit, blockQ_goto, condW_bool, loopQ_ret, loopQ_exit, loopQ_goto, endQ_ret, endQ_normal, keep_mk, keep_st,
 lss_i, leq_i, gtr_i, geq_i, eql_i, neq_i, eql_8, neq_8, lss_8, leq_8, gtr_8, geq_8, eql_s, neq_s, eql_b, neq_b, not_b, by_bys, by_nils, load_cp1, beq_true, beq_false, Bool.not_eq_true', decide_eq_true_eq, decide_eq_false_iff_not, decide_true, decide_false,
 Int.toNat_natCast, Int.ofNat_lt, Int.ofNat_le, Int.natCast_inj, Bool.false_eq_true, Bool.true_eq_false, extPV, List.getElem?_cons_zero, List.getElem?_cons_succ, nilckPV, Int.reduceToNat, Int.reduceLE, true_and, and_true, reduceCtorEq, or_false, false_or, or_true, Option.some.injEq, exists_eq_left', Bool.not_true, Bool.not_false, ne_eq, Int.reduceEq, not_true_eq_false, not_false_eq_true, Int.reduceLT, UInt8.reduceLT, UInt8.reduceLE, UInt8.reduceToNat]
      refine loopQ_intro (m := l.length - (i + n)) (by omega) ?_
      rw [hI]
      refine ⟨i + n, k, _, acc ++ [p], rfl, by omega, by omega, by simp; omega, k2, b2, ?_, fun h => by simp at h, ?_, h0, h3, rfl, rfl⟩
      · rw [List.map_append]; exact o2
      · rw [hTT]
        cases ptsOf k l (i + n) with
        | ok r => simp
        | error j => rfl
  · obtain rfl : i = l.length := by omega
    have hTf : T = .ok acc := by
      rw [hTT]
      cases k with
      | zero => simp [ptsOf]
      | succ k => simp [ptsOf]
    obtain ⟨S2, a1, k1, b1, t1⟩ := FB.store (c := 0) (d := 0) hk hb
    have hld := b1.load
    have ho2 : Own st S2 1 v (acc.map ptV) := by
      rcases ho with h | ⟨i, h1, h2, h3⟩
      · exact .inl h
      · exact .inr ⟨i, h1, h2, by rw [t1]; exact h3⟩
    simp (maxSteps := 1000000) (disch := omega) only [h0, h3, h4, h5, len_by hx, hlt, build0i, a1, W_seq, W_region, W_cond, W_block, W_skip, W_label, W_exit, W_goto, W_ret, WO_cons, WO_consG, WO_nil, wantedA_eq, wantB, evOp, ev_tmp, ev_const, ev_fn, WN_some, WN_none, updO_some, updO_none, upd_eq,
 ↓reduceIte, Nat.reduceEqDiff, List.nil_append, List.cons_append, List.append_nil, List.map_cons, List.map_nil, env0_zero, env0_succ, env0_nil, Option.map_some, Option.map_none, seqQ_normal, seqQ_ret, seqQ_exit, seqQ_goto, blockQ_normal, blockQ_ret, blockQ_exit, blockQ_goto, condW_bool, loopQ_ret, loopQ_exit, loopQ_goto, endQ_ret, endQ_normal, keep_mk, keep_st,
 lss_i, leq_i, gtr_i, geq_i, eql_i, neq_i, eql_8, neq_8, lss_8, leq_8, gtr_8, geq_8, eql_s, neq_s, eql_b, neq_b, not_b, by_bys, by_nils, load_cp1, beq_true, beq_false, Bool.not_eq_true', decide_eq_true_eq, decide_eq_false_iff_not, decide_true, decide_false,
 Int.toNat_natCast, Int.ofNat_lt, Int.ofNat_le, Int.natCast_inj, Bool.false_eq_true, Bool.true_eq_false, extPV, List.getElem?_cons_zero, List.getElem?_cons_succ, nilckPV, Int.reduceToNat, Int.reduceLE, true_and, and_true, reduceCtorEq, or_false, false_or, or_true, Option.some.injEq, exists_eq_left', Bool.not_true, Bool.not_false, ne_eq, Int.reduceEq, not_true_eq_false, not_false_eq_true, Int.reduceLT, UInt8.reduceLT, UInt8.reduceLE, UInt8.reduceToNat]
    refine ⟨.tup [v, .agg [.int .i64 0, .int .i64 0]], ?_, ?_⟩
    · have hnt : notTup v = true := by rcases ho with ⟨rfl, _⟩ | ⟨i, rfl, _⟩ <;> rfl
      simp [resOf, rvAll, rv1, upd_eq, h3, hld, hnt, packRes]
      rfl
    · rw [hTf]; exact leave_ownA k1 ho2 hnil
end Go.Ab

/-
  Whether a text is one of points; where it can be cut.
-/
namespace Go.Ab
set_option linter.unusedVariables false
set_option linter.unusedSimpArgs false
variable {st s : St} {e : Env}

/-- Is a text one of points? -/
def validOf (l : List UInt8) : Bool := match ptsOf (l.length + 1) l 0 with
  | .ok _ => true
  | .error _ => false

theorem pts_parts {l : List UInt8} {S : St} (hk : Kept st S) : ∃ w a S', ptsV S (ptsOf (l.length + 1) l 0) = (.tup [w, .agg [.int .i64 a, .int .i64 (if validOf l = true then 0 else 20)]], S') ∧ Kept st S' := by
  unfold validOf
  cases ptsOf (l.length + 1) l 0 with
  | ok ps =>
    refine ⟨_, 0, _, rfl, ?_⟩
    unfold newS; split
    · exact hk
    · exact hk.tok1
  | error j => exact ⟨_, _, _, rfl, hk⟩
theorem store_i2 {B : List (List PV)} {T : List Bool} {L : List LoopS} {lo : Nat} {a b : Int} : storePV ⟨B ++ [[.int .i64 0, .int .i64 0]], T, L, lo⟩ 2 (.ptr B.length 0) (.agg [.int .i64 a, .int .i64 b]) = some ⟨B ++ [[.int .i64 a, .int .i64 b]], T, L, lo⟩ := by
  simp [storePV, PV.cells, PV.inB, PV.inB.inBAll, leafOk, setCells, hasTok, tokOf]
theorem load_i1 {B : List (List PV)} {T : List Bool} {L : List LoopS} {lo : Nat} {a b : Int} : loadPV ⟨B ++ [[.int .i64 a, .int .i64 b]], T, L, lo⟩ false 1 (.ptr B.length 1) = some (.int .i64 b) := by
  simp [loadPV, readCells]

theorem uValid_spec {x : PV} {l : List UInt8} (hx : x.by = some l) (hl : l.length ≤ 100000000) : call prog (.fn 53 []) [x] st = some (.bool (validOf l), st) := by
  refine call_of_W prog_53 ?_
  unfold F_utf_Valid; dsimp only
  obtain ⟨w, a, S', h1, hk⟩ := pts_parts (l := l) (st := st) Kept.start
  have hp := uPoints_spec (st := { boxes := st.boxes, toks := st.toks, loops := st.loops, low := st.boxes.length }) hx hl
  rw [h1] at hp
  cases hv : validOf l with
  | true =>
    simp only [hv, if_true] at hp
    simp (maxSteps := 1000000) (disch := omega) only [hp, allocPV, store_i2, faddrPV, Nat.zero_add, load_i1, W_seq, W_region, W_cond, W_block, W_skip, W_label, W_exit, W_goto, W_ret, WO_cons, WO_consG, WO_nil, wantedA_eq, wantB, evOp, ev_tmp, ev_const, ev_fn, WN_some, WN_none, updO_some, updO_none, upd_eq,
 ↓reduceIte, Nat.reduceEqDiff, List.nil_append, List.cons_append, List.append_nil, List.map_cons, List.map_nil, env0_zero, env0_succ, env0_nil, Option.map_some, Option.map_none, seqQ_normal, seqQ_ret, seqQ_exit, seqQ_goto, blockQ_normal, blockQ_ret, blockQ_exit, blockQ_goto, condW_bool, loopQ_ret, loopQ_exit, loopQ_goto, endQ_ret, endQ_normal, keep_mk, keep_st,
 lss_i, leq_i, gtr_i, geq_i, eql_i, neq_i, eql_8, neq_8, lss_8, leq_8, gtr_8, geq_8, eql_s, neq_s, eql_b, neq_b, not_b, by_bys, by_nils, load_cp1, beq_true, beq_false, Bool.not_eq_true', decide_eq_true_eq, decide_eq_false_iff_not, decide_true, decide_false,
 Int.toNat_natCast, Int.ofNat_lt, Int.ofNat_le, Int.natCast_inj, Bool.false_eq_true, Bool.true_eq_false, extPV, List.getElem?_cons_zero, List.getElem?_cons_succ, nilckPV, Int.reduceToNat, Int.reduceLE, true_and, and_true, reduceCtorEq, or_false, false_or, or_true, Option.some.injEq, exists_eq_left', Bool.not_true, Bool.not_false, ne_eq, Int.reduceEq, not_true_eq_false, not_false_eq_true, Int.reduceLT, UInt8.reduceLT, UInt8.reduceLE, UInt8.reduceToNat]
    exact ⟨.bool true, rfl, hk.alloc.leave rfl (fun _ _ => rfl)⟩
  | false =>
    simp only [hv, Bool.false_eq_true, if_false] at hp
    simp (maxSteps := 1000000) (disch := omega) only [hp, allocPV, store_i2, faddrPV, Nat.zero_add, load_i1, W_seq, W_region, W_cond, W_block, W_skip, W_label, W_exit, W_goto, W_ret, WO_cons, WO_consG, WO_nil, wantedA_eq, wantB, evOp, ev_tmp, ev_const, ev_fn, WN_some, WN_none, updO_some, updO_none, upd_eq,
 ↓reduceIte, Nat.reduceEqDiff, List.nil_append, List.cons_append, List.append_nil, List.map_cons, List.map_nil, env0_zero, env0_succ, env0_nil, Option.map_some, Option.map_none, seqQ_normal, seqQ_ret, seqQ_exit, seqQ_goto, blockQ_normal, blockQ_ret, blockQ_exit, blockQ_goto, condW_bool, loopQ_ret, loopQ_exit, loopQ_goto, endQ_ret, endQ_normal, keep_mk, keep_st,
 lss_i, leq_i, gtr_i, geq_i, eql_i, neq_i, eql_8, neq_8, lss_8, leq_8, gtr_8, geq_8, eql_s, neq_s, eql_b, neq_b, not_b, by_bys, by_nils, load_cp1, beq_true, beq_false, Bool.not_eq_true', decide_eq_true_eq, decide_eq_false_iff_not, decide_true, decide_false,
 Int.toNat_natCast, Int.ofNat_lt, Int.ofNat_le, Int.natCast_inj, Bool.false_eq_true, Bool.true_eq_false, extPV, List.getElem?_cons_zero, List.getElem?_cons_succ, nilckPV, Int.reduceToNat, Int.reduceLE, true_and, and_true, reduceCtorEq, or_false, false_or, or_true, Option.some.injEq, exists_eq_left', Bool.not_true, Bool.not_false, ne_eq, Int.reduceEq, not_true_eq_false, not_false_eq_true, Int.reduceLT, UInt8.reduceLT, UInt8.reduceLE, UInt8.reduceToNat]
    exact ⟨.bool false, rfl, hk.alloc.leave rfl (fun _ _ => rfl)⟩
/-! ### Where a text can be cut -/
def isCont (c : UInt8) : Prop := 128 ≤ c.toNat ∧ c.toNat < 192
instance {c : UInt8} : Decidable (isCont c) := by unfold isCont; infer_instance
def back (l : List UInt8) : Nat → Nat
  | 0 => 0
  | n + 1 => if n + 1 < l.length ∧ isCont (l.getD (n + 1) 0) then back l n else n + 1
def cutOf (l : List UInt8) (m : Nat) : Nat := if validOf l = true then back l (min m l.length) else min m l.length

theorem back_le {l : List UInt8} : ∀ n, back l n ≤ n := by
  intro n
  induction n with
  | zero => simp [back]
  | succ n ih => simp only [back]; split <;> omega
theorem next_cont {l : List UInt8} {p n : Nat} (h : nextOf l = some (p, n)) : ¬ isCont (l.getD 0 0) ∧ ∀ j, 1 ≤ j → j < n → isCont (l.getD j 0) := by
  unfold nextOf at h
  split at h
  · cases h
  split at h
  · rename_i hc
    cases h
    exact ⟨fun hh => by unfold isCont at hh; omega, fun j h1 h2 => by omega⟩
  · rename_i hc
    simp only at h
    split at h
    · cases h
    · rename_i hcond
      simp only [not_or, Classical.not_not] at hcond
      cases h
      refine ⟨fun hh => ?_, fun j h1 h2 => ?_⟩
      · apply hcond.1
        unfold isCont at hh
        unfold lead
        rw [if_neg (by omega), if_neg (by omega), if_neg (by omega)]
      · have := hcond.2.2.1 (j - 1) (by omega)
        rw [show j - 1 + 1 = j by omega] at this
        exact this

theorem uCut_spec {x : PV} {l : List UInt8} {m : Nat} (hx : x.by = some l) (hl : l.length ≤ 100000000) : call prog (.fn 61 []) [x, .int .i64 (m : Int)] st = some (.int .i64 ((cutOf l m : Nat) : Int), st) := by
  refine call_of_W prog_61 ?_
  unfold F_utf_Cut; dsimp only
  have hm1 : mnmxPV false [.int .i64 (m : Int), .int .i64 (l.length : Int)] = some (.int .i64 ((min m l.length : Nat) : Int)) := by
    simp [mnmxPV] <;> omega
  have hm2 : mnmxPV true [.int .i64 ((min m l.length : Nat) : Int), .int .i64 0] = some (.int .i64 ((min m l.length : Nat) : Int)) := by
    simp [mnmxPV] <;> omega
  have hv := fun S : St => uValid_spec (st := S) hx hl
  obtain ⟨q, hq⟩ : ∃ q, q = min m l.length := ⟨_, rfl⟩
  rw [← hq] at hm1 hm2
  have hql : q ≤ l.length := by omega
  cases hvl : validOf l with
  | false =>
    have hc : cutOf l m = q := by simp [cutOf, hvl, hq]
    rw [hc]
    simp only [hvl] at hv
    simp (maxSteps := 1000000) (disch := omega) only [len_by hx, hm1, hm2, hv, W_seq, W_region, W_cond, W_block, W_skip, W_label, W_exit, W_goto, W_ret, WO_cons, WO_consG, WO_nil, wantedA_eq, wantB, evOp, ev_tmp, ev_const, ev_fn, WN_some, WN_none, updO_some, updO_none, upd_eq,
 ↓reduceIte, Nat.reduceEqDiff, List.nil_append, List.cons_append, List.append_nil, List.map_cons, List.map_nil, env0_zero, env0_succ, env0_nil, Option.map_some, Option.map_none, seqQ_normal, seqQ_ret, seqQ_exit, seqQ_goto, blockQ_normal, blockQ_ret, blockQ_exit, blockQ_goto, condW_bool, loopQ_ret, loopQ_exit, loopQ_goto, endQ_ret, endQ_normal, keep_mk, keep_st,
 lss_i, leq_i, gtr_i, geq_i, eql_i, neq_i, eql_8, neq_8, lss_8, leq_8, gtr_8, geq_8, eql_s, neq_s, eql_b, neq_b, not_b, by_bys, by_nils, load_cp1, beq_true, beq_false, Bool.not_eq_true', decide_eq_true_eq, decide_eq_false_iff_not, decide_true, decide_false,
 Int.toNat_natCast, Int.ofNat_lt, Int.ofNat_le, Int.natCast_inj, Bool.false_eq_true, Bool.true_eq_false, extPV, List.getElem?_cons_zero, List.getElem?_cons_succ, nilckPV, Int.reduceToNat, Int.reduceLE, true_and, and_true, reduceCtorEq, or_false, false_or, or_true, Option.some.injEq, exists_eq_left', Bool.not_true, Bool.not_false, ne_eq, Int.reduceEq, not_true_eq_false, not_false_eq_true, Int.reduceLT, UInt8.reduceLT, UInt8.reduceLE, UInt8.reduceToNat]
    exact ⟨.int .i64 (q : Int), rfl, Kept.start.leave rfl (fun _ _ => rfl)⟩
  | true =>
    have hc : cutOf l m = back l q := by simp [cutOf, hvl, hq]
    rw [hc]
    simp only [hvl] at hv
    simp (maxSteps := 1000000) (disch := omega) only [len_by hx, hm1, hm2, hv, W_seq, W_region, W_cond, W_block, W_skip, W_label, W_exit, W_goto, W_ret, WO_cons, WO_consG, WO_nil, wantedA_eq, wantB, evOp, ev_tmp, ev_const, ev_fn, WN_some, WN_none, updO_some, updO_none, upd_eq,
 ↓reduceIte, Nat.reduceEqDiff, List.nil_append, List.cons_append, List.append_nil, List.map_cons, List.map_nil, env0_zero, env0_succ, env0_nil, Option.map_some, Option.map_none, seqQ_normal, seqQ_ret, seqQ_exit, seqQ_goto, blockQ_normal, blockQ_ret, blockQ_exit, blockQ_goto, condW_bool, loopQ_ret, loopQ_exit, loopQ_goto, endQ_ret, endQ_normal, keep_mk, keep_st,
 lss_i, leq_i, gtr_i, geq_i, eql_i, neq_i, eql_8, neq_8, lss_8, leq_8, gtr_8, geq_8, eql_s, neq_s, eql_b, neq_b, not_b, by_bys, by_nils, load_cp1, beq_true, beq_false, Bool.not_eq_true', decide_eq_true_eq, decide_eq_false_iff_not, decide_true, decide_false,
 Int.toNat_natCast, Int.ofNat_lt, Int.ofNat_le, Int.natCast_inj, Bool.false_eq_true, Bool.true_eq_false, extPV, List.getElem?_cons_zero, List.getElem?_cons_succ, nilckPV, Int.reduceToNat, Int.reduceLE, true_and, and_true, reduceCtorEq, or_false, false_or, or_true, Option.some.injEq, exists_eq_left', Bool.not_true, Bool.not_false, ne_eq, Int.reduceEq, not_true_eq_false, not_false_eq_true, Int.reduceLT, UInt8.reduceLT, UInt8.reduceLE, UInt8.reduceToNat]
    obtain ⟨I, hI⟩ : ∃ I : Nat → Env → St → Prop, I = fun k E S => ∃ i : Nat, i = k ∧ i ≤ l.length ∧ Kept st S ∧ back l i = back l q ∧ E 0 = x ∧ E 1 = .int .i64 (i : Int) := ⟨_, rfl⟩
    refine W_loop I ?_ (n := q) (by
      rw [hI]
      exact ⟨q, rfl, hql, Kept.start, rfl, rfl, rfl⟩)
    intro k e S hh
    rw [hI] at hh
    obtain ⟨i, rfl, hil, hk, hb, h0, h1⟩ := hh
    have fin : back l i = i → ∀ E : Env, E 4 = .int .i64 (i : Int) → ∃ rv, resOf E S [.tmp 4] = some rv ∧ leave st S rv = (.int .i64 ((back l q : Nat) : Int), st) := by
      intro hbi E k4
      exact ⟨.int .i64 (i : Int), by simp [resOf, rvAll, rv1, k4, notTup, packRes], by rw [← hb, hbi]; exact hk.leave rfl (fun _ _ => rfl)⟩
    cases i with
    | zero =>
      have e0 : ¬ (0 : Int) < ((0 : Nat) : Int) := by omega
      simp (maxSteps := 1000000) (disch := omega) only [h0, h1, e0, W_seq, W_region, W_cond, W_block, W_skip, W_label, W_exit, W_goto, W_ret, WO_cons, WO_consG, WO_nil, wantedA_eq, wantB, evOp, ev_tmp, ev_const, ev_fn, WN_some, WN_none, updO_some, updO_none, upd_eq,
 ↓reduceIte, Nat.reduceEqDiff, List.nil_append, List.cons_append, List.append_nil, List.map_cons, List.map_nil, env0_zero, env0_succ, env0_nil, Option.map_some, Option.map_none, seqQ_normal, seqQ_ret, seqQ_exit, seqQ_goto, blockQ_normal, blockQ_ret, blockQ_exit, blockQ_goto, condW_bool, loopQ_ret, loopQ_exit, loopQ_goto, endQ_ret, endQ_normal, keep_mk, keep_st,
 lss_i, leq_i, gtr_i, geq_i, eql_i, neq_i, eql_8, neq_8, lss_8, leq_8, gtr_8, geq_8, eql_s, neq_s, eql_b, neq_b, not_b, by_bys, by_nils, load_cp1, beq_true, beq_false, Bool.not_eq_true', decide_eq_true_eq, decide_eq_false_iff_not, decide_true, decide_false,
 Int.toNat_natCast, Int.ofNat_lt, Int.ofNat_le, Int.natCast_inj, Bool.false_eq_true, Bool.true_eq_false, extPV, List.getElem?_cons_zero, List.getElem?_cons_succ, nilckPV, Int.reduceToNat, Int.reduceLE, true_and, and_true, reduceCtorEq, or_false, false_or, or_true, Option.some.injEq, exists_eq_left', Bool.not_true, Bool.not_false, ne_eq, Int.reduceEq, not_true_eq_false, not_false_eq_true, Int.reduceLT, UInt8.reduceLT, UInt8.reduceLE, UInt8.reduceToNat]
      exact fin rfl _ rfl
    | succ i =>
      have e0 : (0 : Int) < ((i + 1 : Nat) : Int) := by omega
      by_cases hlt : i + 1 < l.length
      · obtain ⟨d, hd⟩ : ∃ d, d = l.getD (i + 1) 0 := ⟨_, rfl⟩
        have hid : iaddrPV 1 x (.int .i64 ((i + 1 : Nat) : Int)) = some (.cp [.b8 d]) := by
          rw [hd]; exact iaddr_by hx (by omega) (by rw [Int.toNat_natCast]; omega)
        by_cases q6 : UInt8.ofNat (d.toNat / 64) = 2
        · have hdc := (isC d).1 q6
          simp (maxSteps := 1000000) (disch := omega) only [h0, h1, e0, len_by hx, hlt, hid, load_cp1, shr6, eq_true q6, sub_n, W_seq, W_region, W_cond, W_block, W_skip, W_label, W_exit, W_goto, W_ret, WO_cons, WO_consG, WO_nil, wantedA_eq, wantB, evOp, ev_tmp, ev_const, ev_fn, WN_some, WN_none, updO_some, updO_none, upd_eq,
 ↓reduceIte, Nat.reduceEqDiff, List.nil_append, List.cons_append, List.append_nil, List.map_cons, List.map_nil, env0_zero, env0_succ, env0_nil, Option.map_some, Option.map_none, seqQ_normal, seqQ_ret, seqQ_exit, seqQ_goto, blockQ_normal, blockQ_ret, blockQ_exit, blockQ_goto, condW_bool, loopQ_ret, loopQ_exit, loopQ_goto, endQ_ret, endQ_normal, keep_mk, keep_st,
 lss_i, leq_i, gtr_i, geq_i, eql_i, neq_i, eql_8, neq_8, lss_8, leq_8, gtr_8, geq_8, eql_s, neq_s, eql_b, neq_b, not_b, by_bys, by_nils, load_cp1, beq_true, beq_false, Bool.not_eq_true', decide_eq_true_eq, decide_eq_false_iff_not, decide_true, decide_false,
 Int.toNat_natCast, Int.ofNat_lt, Int.ofNat_le, Int.natCast_inj, Bool.false_eq_true, Bool.true_eq_false, extPV, List.getElem?_cons_zero, List.getElem?_cons_succ, nilckPV, Int.reduceToNat, Int.reduceLE, true_and, and_true, reduceCtorEq, or_false, false_or, or_true, Option.some.injEq, exists_eq_left', Bool.not_true, Bool.not_false, ne_eq, Int.reduceEq, not_true_eq_false, not_false_eq_true, Int.reduceLT, UInt8.reduceLT, UInt8.reduceLE, UInt8.reduceToNat]
          refine loopQ_intro (m := i) (by omega) ?_
          rw [hI]
          refine ⟨i, rfl, by omega, hk, ?_, h0, rfl⟩
          rw [← hb]
          simp only [back]
          rw [if_pos ⟨hlt, by rw [← hd]; exact hdc⟩]
        · have hdc : ¬ isCont d := fun h => q6 ((isC d).2 h)
          simp (maxSteps := 1000000) (disch := omega) only [h0, h1, e0, len_by hx, hlt, hid, load_cp1, shr6, q6, W_seq, W_region, W_cond, W_block, W_skip, W_label, W_exit, W_goto, W_ret, WO_cons, WO_consG, WO_nil, wantedA_eq, wantB, evOp, ev_tmp, ev_const, ev_fn, WN_some, WN_none, updO_some, updO_none, upd_eq,
 ↓reduceIte, Nat.reduceEqDiff, List.nil_append, List.cons_append, List.append_nil, List.map_cons, List.map_nil, env0_zero, env0_succ, env0_nil, Option.map_some, Option.map_none, seqQ_normal, seqQ_ret, seqQ_exit, seqQ_goto, blockQ_normal, blockQ_ret, blockQ_exit, blockQ_goto, condW_bool, loopQ_ret, loopQ_exit, loopQ_goto, endQ_ret, endQ_normal, keep_mk, keep_st,
 lss_i, leq_i, gtr_i, geq_i, eql_i, neq_i, eql_8, neq_8, lss_8, leq_8, gtr_8, geq_8, eql_s, neq_s, eql_b, neq_b, not_b, by_bys, by_nils, load_cp1, beq_true, beq_false, Bool.not_eq_true', decide_eq_true_eq, decide_eq_false_iff_not, decide_true, decide_false,
 Int.toNat_natCast, Int.ofNat_lt, Int.ofNat_le, Int.natCast_inj, Bool.false_eq_true, Bool.true_eq_false, extPV, List.getElem?_cons_zero, List.getElem?_cons_succ, nilckPV, Int.reduceToNat, Int.reduceLE, true_and, and_true, reduceCtorEq, or_false, false_or, or_true, Option.some.injEq, exists_eq_left', Bool.not_true, Bool.not_false, ne_eq, Int.reduceEq, not_true_eq_false, not_false_eq_true, Int.reduceLT, UInt8.reduceLT, UInt8.reduceLE, UInt8.reduceToNat]
          exact fin (by simp only [back]; rw [if_neg (by rw [← hd]; exact fun h => hdc h.2)]) _ rfl
      · simp (maxSteps := 1000000) (disch := omega) only [h0, h1, e0, len_by hx, hlt, W_seq, W_region, W_cond, W_block, W_skip, W_label, W_exit, W_goto, W_ret, WO_cons, WO_consG, WO_nil, wantedA_eq, wantB, evOp, ev_tmp, ev_const, ev_fn, WN_some, WN_none, updO_some, updO_none, upd_eq,
 ↓reduceIte, Nat.reduceEqDiff, List.nil_append, List.cons_append, List.append_nil, List.map_cons, List.map_nil, env0_zero, env0_succ, env0_nil, Option.map_some, Option.map_none, seqQ_normal, seqQ_ret, seqQ_exit, seqQ_goto, blockQ_normal, blockQ_ret, blockQ_exit, blockQ_goto, condW_bool, loopQ_ret, loopQ_exit, loopQ_goto, endQ_ret, endQ_normal, keep_mk, keep_st,
 lss_i, leq_i, gtr_i, geq_i, eql_i, neq_i, eql_8, neq_8, lss_8, leq_8, gtr_8, geq_8, eql_s, neq_s, eql_b, neq_b, not_b, by_bys, by_nils, load_cp1, beq_true, beq_false, Bool.not_eq_true', decide_eq_true_eq, decide_eq_false_iff_not, decide_true, decide_false,
 Int.toNat_natCast, Int.ofNat_lt, Int.ofNat_le, Int.natCast_inj, Bool.false_eq_true, Bool.true_eq_false, extPV, List.getElem?_cons_zero, List.getElem?_cons_succ, nilckPV, Int.reduceToNat, Int.reduceLE, true_and, and_true, reduceCtorEq, or_false, false_or, or_true, Option.some.injEq, exists_eq_left', Bool.not_true, Bool.not_false, ne_eq, Int.reduceEq, not_true_eq_false, not_false_eq_true, Int.reduceLT, UInt8.reduceLT, UInt8.reduceLE, UInt8.reduceToNat]
        exact fin (by simp only [back]; rw [if_neg (fun h => hlt h.1)]) _ rfl
end Go.Ab

/-
  Where a text can be cut, by the document.
-/
namespace Go.Ab
set_option linter.unusedVariables false
set_option linter.unusedSimpArgs false
variable {st s : St} {e : Env}

theorem drop_get {l : List UInt8} {i j : Nat} : (l.drop i).getD j 0 = l.getD (i + j) 0 := by simp [List.getD]

end Go.Ab

/-
  Texts of points: put together, cut.
-/
namespace Go.Ab
set_option linter.unusedVariables false
set_option linter.unusedSimpArgs false

theorem accP_congr {l m : List UInt8} {p : Nat} : ∀ k, (∀ j, j ≤ k → l.getD j 0 = m.getD j 0) → accP l p k = accP m p k := by
  intro k
  induction k with
  | zero => intro _; rfl
  | succ k ih =>
    intro h
    simp only [accP]
    rw [ih (fun j hj => h j (by omega)), h (k + 1) (by omega)]
theorem next_congr {l m : List UInt8} {p n : Nat} (h : nextOf l = some (p, n)) (hl : n ≤ m.length) (he : ∀ j, j < n → m.getD j 0 = l.getD j 0) : nextOf m = some (p, n) := by
  obtain ⟨h1, h2, -⟩ := next_pos h
  have h0 := he 0 (by omega)
  have hne : m ≠ [] := by rintro rfl; simp at hl; omega
  by_cases hc : (l.getD 0 0).toNat < 128
  · have h' := h
    unfold nextOf at h'
    split at h'
    · cases h'
    · cases h'
      unfold nextOf
      rw [if_neg hne, h0, if_pos hc]
  · obtain ⟨k1, k2, k3⟩ := next_succ hc h
    have hc2 : ¬ (m.getD 0 0).toNat < 128 := by rw [h0]; exact hc
    have hq : qN m n = qN l n := by
      unfold qN
      rw [h0]
      exact accP_congr _ (fun j hj => he j (by omega))
    have ht : m.take n = l.take n := by
      apply List.ext_getElem
      · simp; omega
      · intro i h1 h2
        simp only [List.length_take] at h1 h2
        have := he i (by omega)
        simp only [List.getElem_take]
        simpa [List.getD, show i < m.length by omega, show i < l.length by omega] using this
    have hs : succN m n := ⟨by rw [hq]; exact k3.1, by rw [hq, ht]; exact k3.2⟩
    have e1 := succ_next k1 hl hc2 hs
    have e2 := succ_next k1 k2 hc k3
    rw [h] at e2
    cases e2
    rw [e1, hq]

/-- A text of points. -/
inductive Vd : List UInt8 → Prop
  | nil : Vd []
  | cons {l : List UInt8} {p n : Nat} (h : nextOf l = some (p, n)) (hr : Vd (l.drop n)) : Vd l

theorem vd_of_pts : ∀ (k : Nat) (l : List UInt8) (i : Nat), l.length + 1 - i ≤ k → i ≤ l.length → ((∃ r, ptsOf k l i = .ok r) ↔ Vd (l.drop i)) := by
  intro k
  induction k with
  | zero => intro l i h1 h2; omega
  | succ k ih =>
    intro l i h1 h2
    simp only [ptsOf]
    by_cases hlt : i < l.length
    · rw [if_pos hlt]
      have hdl : l.drop i ≠ [] := by intro h; have := congrArg List.length h; simp at this; omega
      cases hno : nextOf (l.drop i) with
      | none =>
        simp only
        constructor
        · rintro ⟨r, hr⟩; cases hr
        · intro h
          exfalso
          generalize hm : l.drop i = m at *
          cases h with
          | nil => exact hdl rfl
          | cons h' _ => rw [hno] at h'; cases h'
      | some pn =>
        obtain ⟨p, n⟩ := pn
        obtain ⟨n1, n2, -⟩ := next_pos hno
        simp only [List.length_drop] at n2
        have := ih l (i + n) (by omega) (by omega)
        simp only
        constructor
        · rintro ⟨r, hr⟩
          refine .cons hno ?_
          rw [List.drop_drop]
          apply this.1
          cases h : ptsOf k l (i + n) with
          | ok r => exact ⟨r, rfl⟩
          | error j => rw [h] at hr; cases hr
        · intro h
          have h3 : Vd ((l.drop i).drop n) := by
            generalize hm : l.drop i = m at *
            cases h with
            | nil => exact absurd rfl hdl
            | cons h' hr => rw [hno] at h'; cases h'; exact hr
          rw [List.drop_drop] at h3
          obtain ⟨r, hr⟩ := this.2 h3
          exact ⟨p :: r, by rw [hr]⟩
    · rw [if_neg hlt]
      have : i = l.length := by omega
      subst this
      rw [List.drop_length]
      exact ⟨fun _ => .nil, fun _ => ⟨[], rfl⟩⟩
theorem valid_iff {l : List UInt8} : validOf l = true ↔ Vd l := by
  have := vd_of_pts (l.length + 1) l 0 (by omega) (by omega)
  rw [List.drop_zero] at this
  rw [← this]
  unfold validOf
  cases ptsOf (l.length + 1) l 0 with
  | ok r => exact ⟨fun _ => ⟨r, rfl⟩, fun _ => rfl⟩
  | error j => exact ⟨fun h => (by cases h), fun h => (by obtain ⟨r, hr⟩ := h; cases hr)⟩

theorem Vd.app {a b : List UInt8} (ha : Vd a) (hb : Vd b) : Vd (a ++ b) := by
  induction ha with
  | nil => exact hb
  | @cons l p n h hr ih =>
    obtain ⟨n1, n2, -⟩ := next_pos h
    refine .cons (p := p) (n := n) (next_congr h (by simp; omega) fun j hj => ?_) ?_
    · simp only [List.getD]; rw [List.getElem?_append_left (by omega)]
    · rw [List.drop_append_of_le_length n2]; exact ih
theorem Vd.cut {l : List UInt8} (h : Vd l) : ∀ c, c ≤ l.length → (c = l.length ∨ ¬ isCont (l.getD c 0)) → Vd (l.take c) ∧ Vd (l.drop c) := by
  induction h with
  | nil => intro c hc _; simp at hc; subst hc; exact ⟨.nil, .nil⟩
  | @cons l p n h hr ih =>
    intro c hc hcc
    obtain ⟨n1, n2, -⟩ := next_pos h
    obtain ⟨-, c2⟩ := next_cont h
    by_cases h0 : c = 0
    · subst h0; exact ⟨.nil, .cons h hr⟩
    · have hnc : n ≤ c := by
        rcases hcc with hcc | hcc
        · omega
        · by_cases hlt : c < n
          · exact absurd (c2 c (by omega) hlt) hcc
          · omega
      have h3 := ih (c - n) (by simp; omega) (by
        rcases hcc with hcc | hcc
        · exact .inl (by simp; omega)
        · right; rw [drop_get, show n + (c - n) = c by omega]; exact hcc)
      have e1 : (l.drop n).drop (c - n) = l.drop c := by rw [List.drop_drop]; congr 1; omega
      have e2 : (l.take c).drop n = (l.drop n).take (c - n) := by rw [List.drop_take]
      refine ⟨.cons (p := p) (n := n) (next_congr h (by simp; omega) fun j hj => ?_) (by rw [e2]; exact h3.1), by rw [← e1]; exact h3.2⟩
      simp [List.getD, List.getElem?_take, show j < c by omega]
end Go.Ab

/-
  Names and texts of a calendar's lines.
-/
namespace Go.Ab
set_option linter.unusedVariables false
set_option linter.unusedSimpArgs false
variable {st s : St} {e : Env}

end Go.Ab

/-
  Lines that may be.
-/
namespace Go.Ab
set_option linter.unusedVariables false
set_option linter.unusedSimpArgs false
variable {st s : St} {e : Env}

/-- A line: its name, its parameters (as a value, as a list), its value. -/
structure Ln where
  n : List UInt8
  pv : PV
  ps : List Fld
  v : List UInt8
structure Ln.ok (L : Ln) : Prop where
  vs : L.pv.vs 2 = some (L.ps.map fV)
  ib : ∀ n, L.pv.inB n = true
  lf : leafOk L.pv = true
  tk : tokOf L.pv = none
  l1 : L.n.length ≤ 300
  l2 : L.v.length ≤ 5000
  l3 : L.ps.length ≤ 30
  l4 : ∀ p ∈ L.ps, p.1.length + p.2.length ≤ 500

/-! ### Boxes that stay -/
def At (s : St) (b : Nat) (cs : List PV) : Prop := s.boxes[b]? = some cs
theorem At.alloc {b : Nat} {cs z : List PV} {T : List Bool} {Lp : List LoopS} {lo : Nat} (h : At s b cs) : At ⟨s.boxes ++ [z], T, Lp, lo⟩ b cs := by
  unfold At at *
  have := (List.getElem?_eq_some_iff.1 h).1
  show (s.boxes ++ [z])[b]? = _
  rw [List.getElem?_append_left this]; exact h
theorem At.last {z : List PV} {T : List Bool} {Lp : List LoopS} {lo : Nat} : At ⟨s.boxes ++ [z], T, Lp, lo⟩ s.boxes.length z := by
  unfold At; simp
theorem At.load {b k : Nat} {cs : List PV} {v : PV} {r : List PV} (h : At s b cs) (hk : cs.drop k = v :: r) : loadPV s false 1 (.ptr b k) = some v := by
  unfold At at h
  simp [loadPV, h, hk, readCells]
end Go.Ab

/-
  Lines that may be, by the document.
-/
namespace Go.Ab
set_option linter.unusedVariables false
set_option linter.unusedSimpArgs false
variable {st s : St} {e : Env}

/-! ### A line as a text -/
end Go.Ab

/-
  A line as a text.
-/
namespace Go.Ab
set_option linter.unusedVariables false
set_option linter.unusedSimpArgs false
variable {st s : St} {e : Env}

end Go.Ab

/-
  A line as a text, by the document.
-/
namespace Go.Ab
set_option linter.unusedVariables false
set_option linter.unusedSimpArgs false
variable {st s : St} {e : Env}

end Go.Ab

/-
  Lines are written, folded.
-/
namespace Go.Ab
set_option linter.unusedVariables false
set_option linter.unusedSimpArgs false
variable {st s : St} {e : Env}

theorem next_le4 {l : List UInt8} {p n : Nat} (h : nextOf l = some (p, n)) : n ≤ 4 := by
  by_cases hc : (l.getD 0 0).toNat < 128
  · unfold nextOf at h
    split at h
    · cases h
    · cases h; omega
  · obtain ⟨h1, -, -⟩ := next_succ hc h
    omega
theorem near {l : List UInt8} {m : Nat} (hm : m < l.length) : ∀ (k i : Nat), l.length + 1 - i ≤ k → i ≤ m → (∃ r, ptsOf k l i = .ok r) → ∃ j, i ≤ j ∧ j ≤ m ∧ m < j + 4 ∧ ¬ isCont (l.getD j 0) := by
  intro k
  induction k with
  | zero => intro i h1 h2; omega
  | succ k ih =>
    intro i h1 h2 ⟨r, hr⟩
    simp only [ptsOf] at hr
    rw [if_pos (by omega)] at hr
    cases hno : nextOf (l.drop i) with
    | none => rw [hno] at hr; cases hr
    | some pn =>
      obtain ⟨p, n⟩ := pn
      rw [hno] at hr
      simp only at hr
      obtain ⟨hn1, hn2, hn3⟩ := next_pos hno
      have hn4 := next_le4 hno
      obtain ⟨c1, -⟩ := next_cont hno
      rw [drop_get, Nat.add_zero] at c1
      by_cases hmi : m < i + n
      · exact ⟨i, Nat.le_refl _, h2, by omega, c1⟩
      · have hr2 : ∃ r, ptsOf k l (i + n) = .ok r := by
          cases h : ptsOf k l (i + n) with
          | ok r => exact ⟨r, rfl⟩
          | error j => rw [h] at hr; cases hr
        obtain ⟨j, j1, j2, j3, j4⟩ := ih (i + n) (by omega) (by omega) hr2
        exact ⟨j, by omega, j2, j3, j4⟩
theorem back_ge {l : List UInt8} {j : Nat} (hj : ¬ isCont (l.getD j 0)) : ∀ m, j ≤ m → j ≤ back l m := by
  intro m
  induction m with
  | zero => intro h; simp [back]; omega
  | succ m ih =>
    intro h
    simp only [back]
    split
    · rename_i hc
      by_cases hjm : j = m + 1
      · subst hjm; exact absurd hc.2 hj
      · exact ih (by omega)
    · exact h
end Go.Ab

/-
  Words of a header: plain texts; a word of signs is read; pieces.
-/
namespace Go.Ab
set_option linter.unusedVariables false
set_option linter.unusedSimpArgs false
set_option maxRecDepth 20000
variable {st s : St} {e : Env}

/-! ### Plain texts -/
def prW (c : UInt8) : Bool := !decide (c < 32) && !decide (126 < c)
def plnB (s : Bs) : Bool := s.all prW && (!decide (([32] : Bs) <+: s) && (!decide (([32] : Bs) <:+ s) && (!hasB s [32, 32] && !hasB s [61, 63])))

set_option maxHeartbeats 2000000 in
theorem wPlain_spec {s : Bs} (hl : s.length ≤ 1000000) : call prog (.fn 224 []) [.str s] st = some (.bool (plnB s), st) := by
  refine call_of_W prog_224 ?_
  unfold F_word_Plain; dsimp only
  simp (maxSteps := 1000000) (disch := omega) only [len_s, W_seq, W_region, W_cond, W_block, W_skip, W_label, W_exit, W_goto, W_ret, WO_cons, WO_consG, WO_nil, wantedA_eq, wantB, evOp, ev_tmp, ev_const, ev_fn, WN_some, WN_none, updO_some, updO_none, upd_eq,
 ↓reduceIte, Nat.reduceEqDiff, List.nil_append, List.cons_append, List.append_nil, List.map_cons, List.map_nil, env0_zero, env0_succ, env0_nil, Option.map_some, Option.map_none, seqQ_normal, seqQ_ret, seqQ_exit, seqQ_goto, blockQ_normal, blockQ_ret, blockQ_exit, blockQ_goto, condW_bool, loopQ_ret, loopQ_exit, loopQ_goto, endQ_ret, endQ_normal, keep_mk, keep_st,
 lss_i, leq_i, gtr_i, geq_i, eql_i, neq_i, eql_8, neq_8, lss_8, leq_8, gtr_8, geq_8, eql_s, neq_s, eql_b, neq_b, not_b, by_bys, by_nils, load_cp1, beq_true, beq_false, Bool.not_eq_true', decide_eq_true_eq, decide_eq_false_iff_not, decide_true, decide_false,
 Int.toNat_natCast, Int.ofNat_lt, Int.ofNat_le, Int.natCast_inj, Bool.false_eq_true, Bool.true_eq_false, extPV, List.getElem?_cons_zero, List.getElem?_cons_succ, nilckPV, Int.reduceToNat, Int.reduceLE, true_and, and_true, reduceCtorEq, or_false, false_or, or_true, Option.some.injEq, exists_eq_left', Bool.not_true, Bool.not_false, ne_eq, Int.reduceEq, not_true_eq_false, not_false_eq_true, Int.reduceLT, UInt8.reduceLT, UInt8.reduceLE, UInt8.reduceToNat]
  obtain ⟨Q0, hQ0⟩ : ∃ Q0 : Ex → Env → St → Prop, Q0 = endQ st [.tmp 2] (.bool (plnB s), st) := ⟨_, rfl⟩
  rw [← hQ0]
  refine W_mono (Q := fun x E S => (x = .exit 0 ∧ S = ⟨st.boxes, st.toks, st.loops, st.boxes.length⟩ ∧ E 0 = .str s ∧ s.all prW = true) ∨ (x = .ret ∧ Q0 .ret E S)) ?_ ?_
  · obtain ⟨I, hI⟩ : ∃ I : Nat → Env → St → Prop, I = fun k E S => ∃ i : Nat, k = s.length - i ∧ i ≤ s.length ∧ S = ⟨st.boxes, st.toks, st.loops, st.boxes.length⟩ ∧ (∀ j, j < i → prW (s.getD j 0) = true) ∧ E 0 = .str s ∧ E 5 = .int .i64 (s.length : Int) ∧ E 6 = .int .i64 (i : Int) := ⟨_, rfl⟩
    refine W_loop I ?_ (n := s.length) (by
      rw [hI]; exact ⟨0, rfl, by omega, rfl, fun j h => by omega, rfl, rfl, rfl⟩)
    intro k E S hh
    rw [hI] at hh
    obtain ⟨i, rfl, hi, rfl, hall, h0, h5, h6⟩ := hh
    by_cases hlt : i < s.length
    · obtain ⟨c, hc⟩ : ∃ c, c = s.getD i 0 := ⟨_, rfl⟩
      have bad : prW c = false → ∀ E2 : Env, E2 2 = .bool false → Q0 .ret E2 ⟨st.boxes, st.toks, st.loops, st.boxes.length⟩ := fun h E2 h2 => by
        rw [hQ0, endQ_ret]
        have : plnB s = false := by
          unfold plnB
          rw [show s.all prW = false from all_bad hlt (by rw [← hc]; exact h), Bool.false_and]
        exact retB h2 Kept.start this.symm
      by_cases c1 : c < 32
      · simp (maxSteps := 1000000) (disch := omega) only [h0, h5, h6, hlt, idx_s, ← hc, c1, W_seq, W_region, W_cond, W_block, W_skip, W_label, W_exit, W_goto, W_ret, WO_cons, WO_consG, WO_nil, wantedA_eq, wantB, evOp, ev_tmp, ev_const, ev_fn, WN_some, WN_none, updO_some, updO_none, upd_eq,
 ↓reduceIte, Nat.reduceEqDiff, List.nil_append, List.cons_append, List.append_nil, List.map_cons, List.map_nil, env0_zero, env0_succ, env0_nil, Option.map_some, Option.map_none, seqQ_normal, seqQ_ret, seqQ_exit, seqQ_goto, blockQ_normal, blockQ_ret, blockQ_exit, blockQ_goto, condW_bool, loopQ_ret, loopQ_exit, loopQ_goto, endQ_ret, endQ_normal, keep_mk, keep_st,
 lss_i, leq_i, gtr_i, geq_i, eql_i, neq_i, eql_8, neq_8, lss_8, leq_8, gtr_8, geq_8, eql_s, neq_s, eql_b, neq_b, not_b, by_bys, by_nils, load_cp1, beq_true, beq_false, Bool.not_eq_true', decide_eq_true_eq, decide_eq_false_iff_not, decide_true, decide_false,
 Int.toNat_natCast, Int.ofNat_lt, Int.ofNat_le, Int.natCast_inj, Bool.false_eq_true, Bool.true_eq_false, extPV, List.getElem?_cons_zero, List.getElem?_cons_succ, nilckPV, Int.reduceToNat, Int.reduceLE, true_and, and_true, reduceCtorEq, or_false, false_or, or_true, Option.some.injEq, exists_eq_left', Bool.not_true, Bool.not_false, ne_eq, Int.reduceEq, not_true_eq_false, not_false_eq_true, Int.reduceLT, UInt8.reduceLT, UInt8.reduceLE, UInt8.reduceToNat]
        exact .inr (bad (by simp [prW, c1]) _ rfl)
      · by_cases c2 : 126 < c
        · simp (maxSteps := 1000000) (disch := omega) only [h0, h5, h6, hlt, idx_s, ← hc, c1, c2, W_seq, W_region, W_cond, W_block, W_skip, W_label, W_exit, W_goto, W_ret, WO_cons, WO_consG, WO_nil, wantedA_eq, wantB, evOp, ev_tmp, ev_const, ev_fn, WN_some, WN_none, updO_some, updO_none, upd_eq,
 ↓reduceIte, Nat.reduceEqDiff, List.nil_append, List.cons_append, List.append_nil, List.map_cons, List.map_nil, env0_zero, env0_succ, env0_nil, Option.map_some, Option.map_none, seqQ_normal, seqQ_ret, seqQ_exit, seqQ_goto, blockQ_normal, blockQ_ret, blockQ_exit, blockQ_goto, condW_bool, loopQ_ret, loopQ_exit, loopQ_goto, endQ_ret, endQ_normal, keep_mk, keep_st,
 lss_i, leq_i, gtr_i, geq_i, eql_i, neq_i, eql_8, neq_8, lss_8, leq_8, gtr_8, geq_8, eql_s, neq_s, eql_b, neq_b, not_b, by_bys, by_nils, load_cp1, beq_true, beq_false, Bool.not_eq_true', decide_eq_true_eq, decide_eq_false_iff_not, decide_true, decide_false,
 Int.toNat_natCast, Int.ofNat_lt, Int.ofNat_le, Int.natCast_inj, Bool.false_eq_true, Bool.true_eq_false, extPV, List.getElem?_cons_zero, List.getElem?_cons_succ, nilckPV, Int.reduceToNat, Int.reduceLE, true_and, and_true, reduceCtorEq, or_false, false_or, or_true, Option.some.injEq, exists_eq_left', Bool.not_true, Bool.not_false, ne_eq, Int.reduceEq, not_true_eq_false, not_false_eq_true, Int.reduceLT, UInt8.reduceLT, UInt8.reduceLE, UInt8.reduceToNat]
          exact .inr (bad (by simp [prW, c2]) _ rfl)
        · simp (maxSteps := 1000000) (disch := omega) only [h0, h5, h6, hlt, idx_s, ← hc, c1, c2, add_n, loopQ_normal, W_seq, W_region, W_cond, W_block, W_skip, W_label, W_exit, W_goto, W_ret, WO_cons, WO_consG, WO_nil, wantedA_eq, wantB, evOp, ev_tmp, ev_const, ev_fn, WN_some, WN_none, updO_some, updO_none, upd_eq,
 ↓reduceIte, Nat.reduceEqDiff, List.nil_append, List.cons_append, List.append_nil, List.map_cons, List.map_nil, env0_zero, env0_succ, env0_nil, Option.map_some, Option.map_none, seqQ_normal, seqQ_ret, seqQ_exit, seqQ_goto, blockQ_normal, blockQ_ret, blockQ_exit, blockQ_goto, condW_bool, loopQ_ret, loopQ_exit, loopQ_goto, endQ_ret, endQ_normal, keep_mk, keep_st,
 lss_i, leq_i, gtr_i, geq_i, eql_i, neq_i, eql_8, neq_8, lss_8, leq_8, gtr_8, geq_8, eql_s, neq_s, eql_b, neq_b, not_b, by_bys, by_nils, load_cp1, beq_true, beq_false, Bool.not_eq_true', decide_eq_true_eq, decide_eq_false_iff_not, decide_true, decide_false,
 Int.toNat_natCast, Int.ofNat_lt, Int.ofNat_le, Int.natCast_inj, Bool.false_eq_true, Bool.true_eq_false, extPV, List.getElem?_cons_zero, List.getElem?_cons_succ, nilckPV, Int.reduceToNat, Int.reduceLE, true_and, and_true, reduceCtorEq, or_false, false_or, or_true, Option.some.injEq, exists_eq_left', Bool.not_true, Bool.not_false, ne_eq, Int.reduceEq, not_true_eq_false, not_false_eq_true, Int.reduceLT, UInt8.reduceLT, UInt8.reduceLE, UInt8.reduceToNat]
          refine ⟨s.length - (i + 1), by omega, ?_⟩
          rw [hI]
          refine ⟨i + 1, rfl, by omega, rfl, fun j hj => ?_, h0, h5, rfl⟩
          by_cases hji : j = i
          · subst hji; rw [← hc]; simp [prW, c1, c2]
          · exact hall j (by omega)
    · simp (maxSteps := 1000000) (disch := omega) only [h0, h5, h6, hlt, W_seq, W_region, W_cond, W_block, W_skip, W_label, W_exit, W_goto, W_ret, WO_cons, WO_consG, WO_nil, wantedA_eq, wantB, evOp, ev_tmp, ev_const, ev_fn, WN_some, WN_none, updO_some, updO_none, upd_eq,
 ↓reduceIte, Nat.reduceEqDiff, List.nil_append, List.cons_append, List.append_nil, List.map_cons, List.map_nil, env0_zero, env0_succ, env0_nil, Option.map_some, Option.map_none, seqQ_normal, seqQ_ret, seqQ_exit, seqQ_goto, blockQ_normal, blockQ_ret, blockQ_exit, blockQ_goto, condW_bool, loopQ_ret, loopQ_exit, loopQ_goto, endQ_ret, endQ_normal, keep_mk, keep_st,
 lss_i, leq_i, gtr_i, geq_i, eql_i, neq_i, eql_8, neq_8, lss_8, leq_8, gtr_8, geq_8, eql_s, neq_s, eql_b, neq_b, not_b, by_bys, by_nils, load_cp1, beq_true, beq_false, Bool.not_eq_true', decide_eq_true_eq, decide_eq_false_iff_not, decide_true, decide_false,
 Int.toNat_natCast, Int.ofNat_lt, Int.ofNat_le, Int.natCast_inj, Bool.false_eq_true, Bool.true_eq_false, extPV, List.getElem?_cons_zero, List.getElem?_cons_succ, nilckPV, Int.reduceToNat, Int.reduceLE, true_and, and_true, reduceCtorEq, or_false, false_or, or_true, Option.some.injEq, exists_eq_left', Bool.not_true, Bool.not_false, ne_eq, Int.reduceEq, not_true_eq_false, not_false_eq_true, Int.reduceLT, UInt8.reduceLT, UInt8.reduceLE, UInt8.reduceToNat]
      exact .inl (all_getD fun j hj => hall j (by omega))
  · intro x E S hh
    rcases hh with ⟨rfl, rfl, h0, hall⟩ | ⟨rfl, hq⟩
    · have h1 := fun S : St => sHasPrefix_spec (st := S) (a := s) (b := [32])
      have h2 := fun S : St => HasSuffix_spec (st := S) (a := s) (b := [32]) (by omega)
      have h3 := fun S : St => Contains_spec (st := S) (a := s) (b := [32, 32]) (by omega)
      have h4 := fun S : St => Contains_spec (st := S) (a := s) (b := [61, 63]) (by omega)
      have hP : plnB s = (!decide (([32] : Bs) <+: s) && (!decide (([32] : Bs) <:+ s) && (!hasB s [32, 32] && !hasB s [61, 63]))) := by unfold plnB; rw [hall, Bool.true_and]
      rw [hP] at hQ0
      generalize decide (([32] : Bs) <+: s) = b1 at h1 hQ0
      generalize decide (([32] : Bs) <:+ s) = b2 at h2 hQ0
      generalize hasB s [32, 32] = b3 at h3 hQ0
      generalize hasB s [61, 63] = b4 at h4 hQ0
      cases b1 with
      | true =>
        simp (maxSteps := 1000000) (disch := omega) only [h0, h1, h2, h3, h4, W_seq, W_region, W_cond, W_block, W_skip, W_label, W_exit, W_goto, W_ret, WO_cons, WO_consG, WO_nil, wantedA_eq, wantB, evOp, ev_tmp, ev_const, ev_fn, WN_some, WN_none, updO_some, updO_none, upd_eq,
 ↓reduceIte, Nat.reduceEqDiff, List.nil_append, List.cons_append, List.append_nil, List.map_cons, List.map_nil, env0_zero, env0_succ, env0_nil, Option.map_some, Option.map_none, seqQ_normal, seqQ_ret, seqQ_exit, seqQ_goto, blockQ_normal, blockQ_ret, blockQ_exit, blockQ_goto, condW_bool, loopQ_ret, loopQ_exit, loopQ_goto, endQ_ret, endQ_normal, keep_mk, keep_st,
 lss_i, leq_i, gtr_i, geq_i, eql_i, neq_i, eql_8, neq_8, lss_8, leq_8, gtr_8, geq_8, eql_s, neq_s, eql_b, neq_b, not_b, by_bys, by_nils, load_cp1, beq_true, beq_false, Bool.not_eq_true', decide_eq_true_eq, decide_eq_false_iff_not, decide_true, decide_false,
 Int.toNat_natCast, Int.ofNat_lt, Int.ofNat_le, Int.natCast_inj, Bool.false_eq_true, Bool.true_eq_false, extPV, List.getElem?_cons_zero, List.getElem?_cons_succ, nilckPV, Int.reduceToNat, Int.reduceLE, true_and, and_true, reduceCtorEq, or_false, false_or, or_true, Option.some.injEq, exists_eq_left', Bool.not_true, Bool.not_false, ne_eq, Int.reduceEq, not_true_eq_false, not_false_eq_true, Int.reduceLT, UInt8.reduceLT, UInt8.reduceLE, UInt8.reduceToNat]
        rw [hQ0, endQ_ret]; exact retB rfl Kept.start rfl
      | false =>
        cases b2 with
        | true =>
          simp (maxSteps := 1000000) (disch := omega) only [h0, h1, h2, h3, h4, W_seq, W_region, W_cond, W_block, W_skip, W_label, W_exit, W_goto, W_ret, WO_cons, WO_consG, WO_nil, wantedA_eq, wantB, evOp, ev_tmp, ev_const, ev_fn, WN_some, WN_none, updO_some, updO_none, upd_eq,
 ↓reduceIte, Nat.reduceEqDiff, List.nil_append, List.cons_append, List.append_nil, List.map_cons, List.map_nil, env0_zero, env0_succ, env0_nil, Option.map_some, Option.map_none, seqQ_normal, seqQ_ret, seqQ_exit, seqQ_goto, blockQ_normal, blockQ_ret, blockQ_exit, blockQ_goto, condW_bool, loopQ_ret, loopQ_exit, loopQ_goto, endQ_ret, endQ_normal, keep_mk, keep_st,
 lss_i, leq_i, gtr_i, geq_i, eql_i, neq_i, eql_8, neq_8, lss_8, leq_8, gtr_8, geq_8, eql_s, neq_s, eql_b, neq_b, not_b, by_bys, by_nils, load_cp1, beq_true, beq_false, Bool.not_eq_true', decide_eq_true_eq, decide_eq_false_iff_not, decide_true, decide_false,
 Int.toNat_natCast, Int.ofNat_lt, Int.ofNat_le, Int.natCast_inj, Bool.false_eq_true, Bool.true_eq_false, extPV, List.getElem?_cons_zero, List.getElem?_cons_succ, nilckPV, Int.reduceToNat, Int.reduceLE, true_and, and_true, reduceCtorEq, or_false, false_or, or_true, Option.some.injEq, exists_eq_left', Bool.not_true, Bool.not_false, ne_eq, Int.reduceEq, not_true_eq_false, not_false_eq_true, Int.reduceLT, UInt8.reduceLT, UInt8.reduceLE, UInt8.reduceToNat]
          rw [hQ0, endQ_ret]; exact retB rfl Kept.start rfl
        | false =>
          cases b3 with
          | true =>
            simp (maxSteps := 1000000) (disch := omega) only [h0, h1, h2, h3, h4, W_seq, W_region, W_cond, W_block, W_skip, W_label, W_exit, W_goto, W_ret, WO_cons, WO_consG, WO_nil, wantedA_eq, wantB, evOp, ev_tmp, ev_const, ev_fn, WN_some, WN_none, updO_some, updO_none, upd_eq,
 ↓reduceIte, Nat.reduceEqDiff, List.nil_append, List.cons_append, List.append_nil, List.map_cons, List.map_nil, env0_zero, env0_succ, env0_nil, Option.map_some, Option.map_none, seqQ_normal, seqQ_ret, seqQ_exit, seqQ_goto, blockQ_normal, blockQ_ret, blockQ_exit, blockQ_goto, condW_bool, loopQ_ret, loopQ_exit, loopQ_goto, endQ_ret, endQ_normal, keep_mk, keep_st,
 lss_i, leq_i, gtr_i, geq_i, eql_i, neq_i, eql_8, neq_8, lss_8, leq_8, gtr_8, geq_8, eql_s, neq_s, eql_b, neq_b, not_b, by_bys, by_nils, load_cp1, beq_true, beq_false, Bool.not_eq_true', decide_eq_true_eq, decide_eq_false_iff_not, decide_true, decide_false,
 Int.toNat_natCast, Int.ofNat_lt, Int.ofNat_le, Int.natCast_inj, Bool.false_eq_true, Bool.true_eq_false, extPV, List.getElem?_cons_zero, List.getElem?_cons_succ, nilckPV, Int.reduceToNat, Int.reduceLE, true_and, and_true, reduceCtorEq, or_false, false_or, or_true, Option.some.injEq, exists_eq_left', Bool.not_true, Bool.not_false, ne_eq, Int.reduceEq, not_true_eq_false, not_false_eq_true, Int.reduceLT, UInt8.reduceLT, UInt8.reduceLE, UInt8.reduceToNat]
            rw [hQ0, endQ_ret]; exact retB rfl Kept.start rfl
          | false =>
            simp (maxSteps := 1000000) (disch := omega) only [h0, h1, h2, h3, h4, W_seq, W_region, W_cond, W_block, W_skip, W_label, W_exit, W_goto, W_ret, WO_cons, WO_consG, WO_nil, wantedA_eq, wantB, evOp, ev_tmp, ev_const, ev_fn, WN_some, WN_none, updO_some, updO_none, upd_eq,
 ↓reduceIte, Nat.reduceEqDiff, List.nil_append, List.cons_append, List.append_nil, List.map_cons, List.map_nil, env0_zero, env0_succ, env0_nil, Option.map_some, Option.map_none, seqQ_normal, seqQ_ret, seqQ_exit, seqQ_goto, blockQ_normal, blockQ_ret, blockQ_exit, blockQ_goto, condW_bool, loopQ_ret, loopQ_exit, loopQ_goto, endQ_ret, endQ_normal, keep_mk, keep_st,
 lss_i, leq_i, gtr_i, geq_i, eql_i, neq_i, eql_8, neq_8, lss_8, leq_8, gtr_8, geq_8, eql_s, neq_s, eql_b, neq_b, not_b, by_bys, by_nils, load_cp1, beq_true, beq_false, Bool.not_eq_true', decide_eq_true_eq, decide_eq_false_iff_not, decide_true, decide_false,
 Int.toNat_natCast, Int.ofNat_lt, Int.ofNat_le, Int.natCast_inj, Bool.false_eq_true, Bool.true_eq_false, extPV, List.getElem?_cons_zero, List.getElem?_cons_succ, nilckPV, Int.reduceToNat, Int.reduceLE, true_and, and_true, reduceCtorEq, or_false, false_or, or_true, Option.some.injEq, exists_eq_left', Bool.not_true, Bool.not_false, ne_eq, Int.reduceEq, not_true_eq_false, not_false_eq_true, Int.reduceLT, UInt8.reduceLT, UInt8.reduceLE, UInt8.reduceToNat]
            rw [hQ0, endQ_ret]; exact retB rfl Kept.start (by cases b4 <;> rfl)
    · simp only [blockQ_ret, seqQ_ret]
      exact hq
end Go.Ab

/-
  Dates are read: a written date is read as it was, plain.
-/
namespace Go.Ab
set_option linter.unusedVariables false
set_option linter.unusedSimpArgs false
set_option maxRecDepth 20000

/-- No blanks, no brackets. -/
def clW (w : Bs) : Prop := ∀ c ∈ w, c ≠ 32 ∧ c ≠ 9 ∧ c ≠ 40
theorem clW.app {a b : Bs} (h : clW a) (k : clW b) : clW (a ++ b) := fun c hc => by
  rcases List.mem_append.1 hc with h1 | h1
  · exact h c h1
  · exact k c h1
theorem clW.bl {a : Bs} (h : clW a) : noBl a := fun c hc => ⟨(h c hc).1, (h c hc).2.1⟩
theorem split_cutc {k : UInt8} {r : Bs} : ∀ (n acc : Bs), (∀ c ∈ n, c ≠ k) → splitOn k acc (n ++ k :: r) = (acc ++ n) :: splitOn k [] r := by
  intro n
  induction n with
  | nil => intro acc _; simp [splitOn]
  | cons d n ih =>
    intro acc h
    rw [List.cons_append, splitOn, if_neg (h d (by simp)), ih _ fun c hc => h c (by simp [hc])]; simp
theorem split_end {k : UInt8} : ∀ (n acc : Bs), (∀ c ∈ n, c ≠ k) → splitOn k acc n = [acc ++ n] := by
  intro n
  induction n with
  | nil => intro acc _; simp [splitOn]
  | cons d n ih =>
    intro acc h
    rw [splitOn, if_neg (h d (by simp)), ih _ fun c hc => h c (by simp [hc])]; simp
end Go.Ab

/-
  Dates are read: a day's name ahead of the words, walked.
-/
namespace Go.Ab
set_option linter.unusedVariables false
set_option linter.unusedSimpArgs false
set_option maxRecDepth 20000
variable {st s : St} {e : Env}

/-- A row of words as a value. -/
def rowV (t : Tok) (l : List Bs) : PV := .sl 1 t (l.map .str)
theorem Kept.toks {T : List Bool} (h : Kept st s) : Kept st ⟨s.boxes, s.toks ++ T, s.loops, s.low⟩ := by
  refine ⟨h.bx, h.lp, h.lw, ?_⟩
  have h1 := h.tk
  have h2 : st.toks.length ≤ s.toks.length := by have := congrArg List.length h1; simp at this; omega
  simp only [List.take_append_of_le_length h2]
  exact h1

end Go.Ab

/-
  Dates are read: the whole, walked.
-/
namespace Go.Ab
set_option linter.unusedVariables false
set_option linter.unusedSimpArgs false
set_option maxRecDepth 20000
variable {st s : St} {e : Env}

/-- The state while words are gathered. -/
def dst (st : St) (d : PV) (B : Bs) (ts : List Bool) (lo : Nat) (rc : List LoopS) : St := ⟨st.boxes ++ [[d], [.str B]], st.toks ++ ts, st.loops ++ rc, lo⟩
variable {d d' : PV} {B : Bs} {ts : List Bool} {lo : Nat} {rc : List LoopS}
theorem lc1 {v : PV} : loadcPV false 1 (.cp [v]) = some v := rfl
theorem tok_row {t : Tok} {l : List Bs} : (rowV t l).cells = [rowV t l] ∧ leafOk (rowV t l) = true ∧ ∀ n, (rowV t l).inB n = true := ⟨rfl, rfl, fun _ => rfl⟩

end Go.Ab

/-
  Words of a header: a word of signs is read.
-/
namespace Go.Ab
set_option linter.unusedVariables false
set_option linter.unusedSimpArgs false
set_option maxRecDepth 20000
variable {st s : St} {e : Env}

theorem wlower_spec {s : List UInt8} (h : s.length ≤ 1000000) : call prog (.fn 240 []) [.str s] st = some (.str (lowOf s), st) := by
  rw [← lower_spec (st := st) h, call_fn prog_240, call_fn prog_167]
  rfl
def utf8T : Bs := [117, 116, 102, 45, 56]

set_option maxHeartbeats 4000000 in
theorem One_word {s set how text p : Bs} (h75 : s.length ≤ 75) (hpre : ([61, 63] : Bs) <+: s) (hsuf : ([63, 61] : Bs) <:+ s) (hsp : splitOn 63 [] s = [[61], set, how, text, [61]]) (h32 : 32 ∉ s)
    (hset : lowOf set = utf8T) (hhow : lowOf how = [98]) (hdec : dec64 text = some p) (hv : validOf p = true) (hpl : p.length ≤ 1000000) : call prog (.fn 227 []) [.str s] st = some (.tup [.str p, .bool true], st) := by
  refine call_of_W prog_227 ?_
  unfold F_word_One; dsimp only
  have hlen := split_len (sep := 63) s []
  rw [hsp] at hlen
  simp only [List.length_nil, Nat.zero_add] at hlen
  have l1 := hlen set (by simp); have l2 := hlen how (by simp); have l3 := hlen text (by simp)
  have p1 : ∀ S : St, call prog (.fn 72 []) [.str s, .str [61, 63]] S = some (.bool true, S) := fun S => by rw [sHasPrefix_spec, decide_eq_true hpre]
  have p2 : ∀ S : St, call prog (.fn 130 []) [.str s, .str [63, 61]] S = some (.bool true, S) := fun S => by rw [HasSuffix_spec (by omega), decide_eq_true hsuf]
  have p3 : ∀ S : St, call prog (.fn 133 []) [.str s, .str [63]] S = some (.sl 1 .no ([[61], set, how, text, [61]].map .str), S) := fun S => by rw [← hsp]; exact Split_spec (by omega)
  have hno : hasB s [32] = false := by
    have := index_one (l := s) (c := 32)
    unfold hasB
    simp only [decide_eq_false_iff_not]
    exact fun h => h32 (this.1 h)
  have p4 : ∀ S : St, call prog (.fn 66 []) [.str s, .str [32]] S = some (.bool false, S) := fun S => by rw [Contains_spec (by omega), hno]
  have e75 : ¬ (75 : Int) < (s.length : Int) := by omega
  obtain ⟨v, hvv⟩ : ∃ v, v = PV.sl 1 .no ([[61], set, how, text, [61]].map .str) := ⟨_, rfl⟩
  have hvs : v.vs 1 = some ([[61], set, how, text, [61]].map .str) := by rw [hvv]; simp [PV.vs]
  have hln : lenPV false v = some (.int .i64 5) := by rw [hvv]; simp [lenPV]
  rw [← hvv] at p3
  have i1 : iaddrPV 1 v (.int .i64 1) = some (.cp [.str set]) := iaddr_t hvs (by omega) (by simp)
  have i2 : iaddrPV 1 v (.int .i64 2) = some (.cp [.str how]) := iaddr_t hvs (by omega) (by simp)
  have i3 : iaddrPV 1 v (.int .i64 3) = some (.cp [.str text]) := iaddr_t hvs (by omega) (by simp)
  have w1 : ∀ S : St, call prog (.fn 240 []) [.str set] S = some (.str utf8T, S) := fun S => by rw [wlower_spec (by omega), hset]
  have w2 : ∀ S : St, call prog (.fn 240 []) [.str how] S = some (.str [98], S) := fun S => by rw [wlower_spec (by omega), hhow]
  obtain ⟨⟨r1, s1⟩, d1, y, f0, f1, hr1, hs1, hm⟩ := bDecode_spec (st := ⟨st.boxes, st.toks, st.loops, st.boxes.length⟩) (s := text) (by omega)
  rw [hdec] at hm
  obtain ⟨hf1, hy⟩ := hm
  simp only at hr1 hs1
  rw [hr1, hf1] at d1
  obtain ⟨T, rfl⟩ : ∃ T, s1 = ⟨st.boxes, st.toks ++ T, st.loops, st.boxes.length⟩ := by
    rcases hs1 with rfl | rfl
    · exact ⟨[], by simp⟩
    · exact ⟨[true], rfl⟩
  have hst : ∀ T : List Bool, storePV ⟨st.boxes ++ [[.int .i64 0, .int .i64 0]], T, st.loops, st.boxes.length⟩ 2 (.ptr st.boxes.length 0) (.agg [.int .i64 f0, .int .i64 0]) = some ⟨st.boxes ++ [[.int .i64 f0, .int .i64 0]], T, st.loops, st.boxes.length⟩ := fun T => flt_store rfl
  have hld : ∀ T : List Bool, loadPV ⟨st.boxes ++ [[.int .i64 f0, .int .i64 0]], T, st.loops, st.boxes.length⟩ false 1 (.ptr st.boxes.length 1) = some (.int .i64 0) := fun T => by simp [loadPV, readCells]
  have hfa : faddrPV 1 (.ptr st.boxes.length 0) = some (.ptr st.boxes.length 1) := rfl
  have hval : ∀ S : St, ∀ t : Tok, call prog (.fn 53 []) [.bys t p] S = some (.bool true, S) := fun S t => by rw [uValid_spec by_bys (by omega), hv]
  have hu : ¬ (utf8T = ([117, 115, 45, 97, 115, 99, 105, 105] : Bs)) := by decide
  have hu2 : utf8T = ([117, 116, 102, 45, 56] : Bs) := rfl
  simp (maxSteps := 1000000) (disch := omega) only [len_s, e75, p1, p2, p3, p4, hln, i1, i2, i3, lc1, w1, w2, d1, allocPV, hst, hld, hfa, b2s_by hy, freshT, hval, eq_true hu2, hu, W_seq, W_region, W_cond, W_block, W_skip, W_label, W_exit, W_goto, W_ret, WO_cons, WO_consG, WO_nil, wantedA_eq, wantB, evOp, ev_tmp, ev_const, ev_fn, WN_some, WN_none, updO_some, updO_none, upd_eq,
 ↓reduceIte, Nat.reduceEqDiff, List.nil_append, List.cons_append, List.append_nil, List.map_cons, List.map_nil, env0_zero, env0_succ, env0_nil, Option.map_some, Option.map_none, seqQ_normal, seqQ_ret, seqQ_exit, seqQ_goto, blockQ_normal, blockQ_ret, blockQ_exit, blockQ_goto, condW_bool, loopQ_ret, loopQ_exit, loopQ_goto, endQ_ret, endQ_normal, keep_mk, keep_st,
 lss_i, leq_i, gtr_i, geq_i, eql_i, neq_i, eql_8, neq_8, lss_8, leq_8, gtr_8, geq_8, eql_s, neq_s, eql_b, neq_b, not_b, by_bys, by_nils, load_cp1, beq_true, beq_false, Bool.not_eq_true', decide_eq_true_eq, decide_eq_false_iff_not, decide_true, decide_false,
 Int.toNat_natCast, Int.ofNat_lt, Int.ofNat_le, Int.natCast_inj, Bool.false_eq_true, Bool.true_eq_false, extPV, List.getElem?_cons_zero, List.getElem?_cons_succ, nilckPV, Int.reduceToNat, Int.reduceLE, true_and, and_true, reduceCtorEq, or_false, false_or, or_true, Option.some.injEq, exists_eq_left', Bool.not_true, Bool.not_false, ne_eq, Int.reduceEq, not_true_eq_false, not_false_eq_true, Int.reduceLT, UInt8.reduceLT, UInt8.reduceLE, UInt8.reduceToNat]
  obtain ⟨Q0, hQ0⟩ : ∃ Q0 : Ex → Env → St → Prop, Q0 = endQ st [.tmp 2, .tmp 3] (.tup [.str p, .bool true], st) := ⟨_, rfl⟩
  rw [← hQ0]
  obtain ⟨I, hI⟩ : ∃ I : Nat → Env → St → Prop, I = fun k E S => ∃ i : Nat, k = p.length - i ∧ i ≤ p.length ∧ Kept st S ∧ E 5 = .str utf8T ∧ E 8 = .str p ∧ E 83 = .int .i64 (p.length : Int) ∧ E 84 = .int .i64 (i : Int) := ⟨_, rfl⟩
  refine W_loop I ?_ (n := p.length) (by
    rw [hI]
    exact ⟨0, rfl, by omega, ⟨by simp, rfl, Nat.le_refl _, by simp⟩, rfl, rfl, rfl, rfl⟩)
  intro k E S hh
  rw [hI] at hh
  obtain ⟨i, rfl, hi, hk, h5, h8, h83, h84⟩ := hh
  by_cases hlt : i < p.length
  · simp (maxSteps := 1000000) (disch := omega) only [h5, h8, h83, h84, hlt, hu, add_n, loopQ_normal, W_seq, W_region, W_cond, W_block, W_skip, W_label, W_exit, W_goto, W_ret, WO_cons, WO_consG, WO_nil, wantedA_eq, wantB, evOp, ev_tmp, ev_const, ev_fn, WN_some, WN_none, updO_some, updO_none, upd_eq,
 ↓reduceIte, Nat.reduceEqDiff, List.nil_append, List.cons_append, List.append_nil, List.map_cons, List.map_nil, env0_zero, env0_succ, env0_nil, Option.map_some, Option.map_none, seqQ_normal, seqQ_ret, seqQ_exit, seqQ_goto, blockQ_normal, blockQ_ret, blockQ_exit, blockQ_goto, condW_bool, loopQ_ret, loopQ_exit, loopQ_goto, endQ_ret, endQ_normal, keep_mk, keep_st,
 lss_i, leq_i, gtr_i, geq_i, eql_i, neq_i, eql_8, neq_8, lss_8, leq_8, gtr_8, geq_8, eql_s, neq_s, eql_b, neq_b, not_b, by_bys, by_nils, load_cp1, beq_true, beq_false, Bool.not_eq_true', decide_eq_true_eq, decide_eq_false_iff_not, decide_true, decide_false,
 Int.toNat_natCast, Int.ofNat_lt, Int.ofNat_le, Int.natCast_inj, Bool.false_eq_true, Bool.true_eq_false, extPV, List.getElem?_cons_zero, List.getElem?_cons_succ, nilckPV, Int.reduceToNat, Int.reduceLE, true_and, and_true, reduceCtorEq, or_false, false_or, or_true, Option.some.injEq, exists_eq_left', Bool.not_true, Bool.not_false, ne_eq, Int.reduceEq, not_true_eq_false, not_false_eq_true, Int.reduceLT, UInt8.reduceLT, UInt8.reduceLE, UInt8.reduceToNat]
    refine ⟨p.length - (i + 1), by omega, ?_⟩
    rw [hI]
    exact ⟨i + 1, rfl, by omega, hk, h5, h8, h83, rfl⟩
  · simp (maxSteps := 1000000) (disch := omega) only [h5, h8, h83, h84, hlt, W_seq, W_region, W_cond, W_block, W_skip, W_label, W_exit, W_goto, W_ret, WO_cons, WO_consG, WO_nil, wantedA_eq, wantB, evOp, ev_tmp, ev_const, ev_fn, WN_some, WN_none, updO_some, updO_none, upd_eq,
 ↓reduceIte, Nat.reduceEqDiff, List.nil_append, List.cons_append, List.append_nil, List.map_cons, List.map_nil, env0_zero, env0_succ, env0_nil, Option.map_some, Option.map_none, seqQ_normal, seqQ_ret, seqQ_exit, seqQ_goto, blockQ_normal, blockQ_ret, blockQ_exit, blockQ_goto, condW_bool, loopQ_ret, loopQ_exit, loopQ_goto, endQ_ret, endQ_normal, keep_mk, keep_st,
 lss_i, leq_i, gtr_i, geq_i, eql_i, neq_i, eql_8, neq_8, lss_8, leq_8, gtr_8, geq_8, eql_s, neq_s, eql_b, neq_b, not_b, by_bys, by_nils, load_cp1, beq_true, beq_false, Bool.not_eq_true', decide_eq_true_eq, decide_eq_false_iff_not, decide_true, decide_false,
 Int.toNat_natCast, Int.ofNat_lt, Int.ofNat_le, Int.natCast_inj, Bool.false_eq_true, Bool.true_eq_false, extPV, List.getElem?_cons_zero, List.getElem?_cons_succ, nilckPV, Int.reduceToNat, Int.reduceLE, true_and, and_true, reduceCtorEq, or_false, false_or, or_true, Option.some.injEq, exists_eq_left', Bool.not_true, Bool.not_false, ne_eq, Int.reduceEq, not_true_eq_false, not_false_eq_true, Int.reduceLT, UInt8.reduceLT, UInt8.reduceLE, UInt8.reduceToNat]
    rw [hQ0, endQ_ret]
    exact retV2 rfl rfl rfl rfl hk ⟨fun _ => rfl, fun _ _ => rfl⟩

/-! ### Words of signs -/
def wordS (set how : Bs) (p : Bs) : Bs := [61, 63] ++ set ++ [63] ++ how ++ [63] ++ enc64 p ++ [63, 61]
theorem wordS_one {set how p : Bs} (h1 : set = [117, 116, 102, 45, 56] ∧ how = [66] ∨ set = [85, 84, 70, 45, 56] ∧ how = [98]) (hp : p.length ≤ 45) (hv : validOf p = true) : call prog (.fn 227 []) [.str (wordS set how p)] st = some (.tup [.str p, .bool true], st) := by
  have hch := enc64_chars p.length p (Nat.le_refl _)
  have hel := enc64_len p.length p (Nat.le_refl _)
  have e5 : ∀ c ∈ set, c ≠ 63 ∧ c ≠ 32 := by rcases h1 with ⟨rfl, _⟩ | ⟨rfl, _⟩ <;> decide
  have e6 : ∀ c ∈ how, c ≠ 63 ∧ c ≠ 32 := by rcases h1 with ⟨_, rfl⟩ | ⟨_, rfl⟩ <;> decide
  have hl5 : set.length = 5 := by rcases h1 with ⟨rfl, _⟩ | ⟨rfl, _⟩ <;> rfl
  have hl1 : how.length = 1 := by rcases h1 with ⟨_, rfl⟩ | ⟨_, rfl⟩ <;> rfl
  refine One_word (set := set) (how := how) (text := enc64 p) ?_ ?_ ?_ ?_ ?_ ?_ ?_ (dec64_enc64 p) hv (by omega)
  · simp [wordS, hel, hl5, hl1]; omega
  · exact ⟨set ++ [63] ++ how ++ [63] ++ enc64 p ++ [63, 61], by simp [wordS]⟩
  · exact ⟨[61, 63] ++ set ++ [63] ++ how ++ [63] ++ enc64 p, by simp [wordS]⟩
  · have e : wordS set how p = [61] ++ 63 :: (set ++ 63 :: (how ++ 63 :: (enc64 p ++ 63 :: [61]))) := by simp [wordS]
    rw [e, split_cutc _ _ (by decide), split_cutc _ _ fun c hc => (e5 c hc).1, split_cutc _ _ fun c hc => (e6 c hc).1, split_cutc _ _ fun c hc => (hch c hc).2.1, split_end _ _ (by decide)]
    simp
  · simp only [wordS, List.mem_append, List.mem_cons, List.not_mem_nil, or_false, not_or]
    exact ⟨⟨⟨⟨⟨⟨by decide, by decide⟩, fun h => (e5 _ h).2 rfl⟩, by decide⟩, fun h => (e6 _ h).2 rfl⟩, by decide⟩, fun h => (hch _ h).2.2.1 rfl⟩ |> fun h => ⟨h, by decide, by decide⟩
  · rcases h1 with ⟨rfl, _⟩ | ⟨rfl, _⟩ <;> rfl
  · rcases h1 with ⟨_, rfl⟩ | ⟨_, rfl⟩ <;> rfl
end Go.Ab

/-
  Words of a header: a text is written.
-/
namespace Go.Ab
set_option linter.unusedVariables false
set_option linter.unusedSimpArgs false
set_option maxRecDepth 20000
variable {st s : St} {e : Env}

theorem cut45 {l : Bs} (hv : Vd l) (hne : l ≠ []) : 1 ≤ cutOf l 45 ∧ cutOf l 45 ≤ 45 ∧ cutOf l 45 ≤ l.length ∧ (cutOf l 45 = l.length ∨ ¬ isCont (l.getD (cutOf l 45) 0)) := by
  have hpos := List.length_pos_iff.2 hne
  have hvv := valid_iff.2 hv
  rcases Nat.lt_or_ge 45 l.length with h | h
  · have hc : cutOf l 45 = back l 45 := by simp only [cutOf, hvv, if_true]; rw [Nat.min_eq_left (by omega)]
    have hok : ∃ r, ptsOf (l.length + 1) l 0 = .ok r := by
      unfold validOf at hvv
      cases h : ptsOf (l.length + 1) l 0 with
      | ok r => exact ⟨r, rfl⟩
      | error j => rw [h] at hvv; cases hvv
    obtain ⟨j, -, j2, j3, j4⟩ := near h (l.length + 1) 0 (by omega) (by omega) hok
    have h1 := back_ge j4 45 j2
    have h2 := back_le (l := l) 45
    have hb : ∀ m, m < l.length → 0 < back l m → ¬ isCont (l.getD (back l m) 0) := by
      intro m
      induction m with
      | zero => intro _ h; simp [back] at h
      | succ m ih =>
        intro hm h
        simp only [back] at h ⊢
        split
        · rename_i hq; rw [if_pos hq] at h; exact ih (by omega) h
        · rename_i hq; exact fun hh => hq ⟨hm, hh⟩
    rw [hc]
    exact ⟨by omega, h2, by omega, .inr (hb 45 h (by omega))⟩
  · have hc : cutOf l 45 = l.length := by
      simp only [cutOf, hvv, if_true]; rw [Nat.min_eq_right h]
      cases hl : l.length with
      | zero => omega
      | succ n => simp only [back]; rw [if_neg (by omega)]
    rw [hc]
    exact ⟨hpos, h, Nat.le_refl _, .inl rfl⟩

/-- A text's pieces. -/
def pcs : Nat → Bs → List Bs
  | 0, _ => []
  | k + 1, l => if l = [] then [] else l.take (cutOf l 45) :: pcs k (l.drop (cutOf l 45))
theorem pcs_ok : ∀ (k : Nat) (l : Bs), l.length ≤ k → Vd l → (∀ p ∈ pcs k l, Vd p ∧ 1 ≤ p.length ∧ p.length ≤ 45) ∧ (pcs k l).flatten = l ∧ (pcs k l).length ≤ l.length := by
  intro k
  induction k with
  | zero => intro l h _; have : l = [] := List.eq_nil_of_length_eq_zero (by omega); subst this; simp [pcs]
  | succ k ih =>
    intro l h hv
    rw [pcs]
    by_cases hne : l = []
    · rw [if_pos hne]; subst hne; simp
    · rw [if_neg hne]
      obtain ⟨c1, c2, c3, c4⟩ := cut45 hv hne
      obtain ⟨v1, v2⟩ := hv.cut _ c3 c4
      obtain ⟨i1, i2, i3⟩ := ih (l.drop (cutOf l 45)) (by simp; omega) v2
      refine ⟨fun p hp => ?_, by rw [List.flatten_cons, i2, List.take_append_drop], by simp only [List.length_cons, List.length_drop] at i3 ⊢; omega⟩
      rcases List.mem_cons.1 hp with rfl | hp
      · exact ⟨v1, by simp; omega, by simp; omega⟩
      · exact i1 p hp
theorem pcs_fuel : ∀ (k : Nat) (l : Bs), l.length ≤ k → Vd l → pcs (k + 1) l = pcs k l := by
  intro k
  induction k with
  | zero => intro l h _; have : l = [] := List.eq_nil_of_length_eq_zero (by omega); subst this; simp [pcs]
  | succ k ih =>
    intro l h hv
    have p1 : ∀ k, pcs (k + 1) l = if l = [] then [] else l.take (cutOf l 45) :: pcs k (l.drop (cutOf l 45)) := fun _ => rfl
    rw [p1 (k + 1), p1 k]
    by_cases hne : l = []
    · rw [if_pos hne, if_pos hne]
    · rw [if_neg hne, if_neg hne]
      obtain ⟨c1, c2, c3, c4⟩ := cut45 hv hne
      obtain ⟨v1, v2⟩ := hv.cut _ c3 c4
      rw [ih _ (by simp; omega) v2]
/-- .. whatever the fuel. -/
def pcsOf (l : Bs) : List Bs := pcs l.length l
theorem pcsOf_nil : pcsOf [] = [] := rfl
theorem pcs_more {l : Bs} (hv : Vd l) : ∀ k, l.length ≤ k → pcs k l = pcsOf l := by
  intro k h
  induction k with
  | zero => have : l.length = 0 := by omega
            rw [show pcsOf l = pcs 0 l by unfold pcsOf; rw [this]]
  | succ k ih =>
    rcases Nat.lt_or_ge k l.length with h1 | h1
    · have : l.length = k + 1 := by omega
      unfold pcsOf; rw [this]
    · rw [pcs_fuel k l h1 hv, ih h1]
theorem pcsOf_cons {l : Bs} (hv : Vd l) (hne : l ≠ []) : pcsOf l = l.take (cutOf l 45) :: pcsOf (l.drop (cutOf l 45)) := by
  have hpos := List.length_pos_iff.2 hne
  obtain ⟨c1, c2, c3, c4⟩ := cut45 hv hne
  obtain ⟨v1, v2⟩ := hv.cut _ c3 c4
  obtain ⟨n, hn⟩ : ∃ n, l.length = n + 1 := ⟨l.length - 1, by omega⟩
  have : pcsOf l = pcs (n + 1) l := by unfold pcsOf; rw [hn]
  rw [this, pcs, if_neg hne, pcs_more v2 n (by simp; omega)]

def wordU (p : Bs) : Bs := wordS [117, 116, 102, 45, 56] [66] p
def encW (s : Bs) : Bs := Lib.join ((pcsOf s).map wordU) [32]

theorem pieces_spec {v : PV} {l : Bs} (hx : v.by = some l) : call prog (.fn 237 []) [v] st = some (.fn 246 [.ptr st.boxes.length 0], { boxes := st.boxes ++ [[v]], toks := st.toks, loops := st.loops, low := min st.low st.boxes.length }) := by
  refine call_of_W prog_237 ?_
  unfold F_word_pieces; dsimp only
  have h1 := by_inB hx (n := st.boxes.length)
  have hc := Leaf_by hx
  simp (maxSteps := 1000000) (disch := omega) only [h1, hc.1, hc.2, List.all_cons, List.all_nil, Bool.and_true, and_self, allocPV, capOk, W_seq, W_region, W_cond, W_block, W_skip, W_label, W_exit, W_goto, W_ret, WO_cons, WO_consG, WO_nil, wantedA_eq, wantB, evOp, ev_tmp, ev_const, ev_fn, WN_some, WN_none, updO_some, updO_none, upd_eq,
 ↓reduceIte, Nat.reduceEqDiff, List.nil_append, List.cons_append, List.append_nil, List.map_cons, List.map_nil, env0_zero, env0_succ, env0_nil, Option.map_some, Option.map_none, seqQ_normal, seqQ_ret, seqQ_exit, seqQ_goto, blockQ_normal, blockQ_ret, blockQ_exit, blockQ_goto, condW_bool, loopQ_ret, loopQ_exit, loopQ_goto, endQ_ret, endQ_normal, keep_mk, keep_st,
 lss_i, leq_i, gtr_i, geq_i, eql_i, neq_i, eql_8, neq_8, lss_8, leq_8, gtr_8, geq_8, eql_s, neq_s, eql_b, neq_b, not_b, by_bys, by_nils, load_cp1, beq_true, beq_false, Bool.not_eq_true', decide_eq_true_eq, decide_eq_false_iff_not, decide_true, decide_false,
 Int.toNat_natCast, Int.ofNat_lt, Int.ofNat_le, Int.natCast_inj, Bool.false_eq_true, Bool.true_eq_false, extPV, List.getElem?_cons_zero, List.getElem?_cons_succ, nilckPV, Int.reduceToNat, Int.reduceLE, true_and, and_true, reduceCtorEq, or_false, false_or, or_true, Option.some.injEq, exists_eq_left', Bool.not_true, Bool.not_false, ne_eq, Int.reduceEq, not_true_eq_false, not_false_eq_true, Int.reduceLT, UInt8.reduceLT, UInt8.reduceLE, UInt8.reduceToNat]
  exact ⟨.fn 246 [.ptr st.boxes.length 0], rfl, by simp [leave, PV.inB, PV.inB.inBAll]⟩

set_option maxHeartbeats 2000000 in
/-- **The iterator.** -/
theorem pieces_iter {l : Bs} {v : PV} {b k : Nat} {P : Bs → PV → St → Prop} (hl : l.length ≤ 1000000)
    (hbox : ∀ r y s, P r y s → s.boxes[b]? = some [y] ∧ y.by = some r ∧ r.length ≤ 1000000 ∧ Vd r)
    (hY : ∀ r y s, P r y s → r ≠ [] → ∃ s' s2, call prog (.yld k) [y.takeB (cutOf r 45)] s = some (.bool true, s') ∧ loadPV s' false 1 (.ptr b 0) = some y ∧ storePV s' 1 (.ptr b 0) (y.dropB (cutOf r 45)) = some s2 ∧ P (r.drop (cutOf r 45)) (y.dropB (cutOf r 45)) s2)
    (h0 : P l v { st with low := st.boxes.length }) : ∃ s1, (∃ y, P [] y s1) ∧ call prog (.fn 246 [.ptr b 0]) [.yld k] st = some (leave st s1 (.tup [])) := by
  have key : W prog F_word_pieces_c1.body (env0 ([.yld k] ++ [.ptr b 0])) { st with low := st.boxes.length } (fun xx e1 s1 => (xx = .normal ∨ xx = .ret) ∧ ∃ y, P [] y s1) := by
    obtain ⟨QQ, hQQ⟩ : ∃ QQ : Ex → Env → St → Prop, QQ = fun xx e1 s1 => (xx = .normal ∨ xx = .ret) ∧ ∃ y, P [] y s1 := ⟨_, rfl⟩
    rw [← hQQ]
    unfold F_word_pieces_c1; dsimp only
    simp (maxSteps := 1000000) (disch := omega) only [W_seq, W_region, W_cond, W_block, W_skip, W_label, W_exit, W_goto, W_ret, WO_cons, WO_consG, WO_nil, wantedA_eq, wantB, evOp, ev_tmp, ev_const, ev_fn, WN_some, WN_none, updO_some, updO_none, upd_eq,
 ↓reduceIte, Nat.reduceEqDiff, List.nil_append, List.cons_append, List.append_nil, List.map_cons, List.map_nil, env0_zero, env0_succ, env0_nil, Option.map_some, Option.map_none, seqQ_normal, seqQ_ret, seqQ_exit, seqQ_goto, blockQ_normal, blockQ_ret, blockQ_exit, blockQ_goto, condW_bool, loopQ_ret, loopQ_exit, loopQ_goto, endQ_ret, endQ_normal, keep_mk, keep_st,
 lss_i, leq_i, gtr_i, geq_i, eql_i, neq_i, eql_8, neq_8, lss_8, leq_8, gtr_8, geq_8, eql_s, neq_s, eql_b, neq_b, not_b, by_bys, by_nils, load_cp1, beq_true, beq_false, Bool.not_eq_true', decide_eq_true_eq, decide_eq_false_iff_not, decide_true, decide_false,
 Int.toNat_natCast, Int.ofNat_lt, Int.ofNat_le, Int.natCast_inj, Bool.false_eq_true, Bool.true_eq_false, extPV, List.getElem?_cons_zero, List.getElem?_cons_succ, nilckPV, Int.reduceToNat, Int.reduceLE, true_and, and_true, reduceCtorEq, or_false, false_or, or_true, Option.some.injEq, exists_eq_left', Bool.not_true, Bool.not_false, ne_eq, Int.reduceEq, not_true_eq_false, not_false_eq_true, Int.reduceLT, UInt8.reduceLT, UInt8.reduceLE, UInt8.reduceToNat]
    obtain ⟨I, hI⟩ : ∃ I : Nat → Env → St → Prop, I = fun n E s => ∃ (r : Bs) (y : PV), n = r.length ∧ P r y s ∧ E 0 = .yld k ∧ E 1 = .ptr b 0 := ⟨_, rfl⟩
    refine W_loop I ?_ (n := l.length) (by rw [hI]; exact ⟨l, v, rfl, h0, rfl, rfl⟩)
    intro n E s h
    rw [hI] at h
    obtain ⟨r, y, rfl, hP, e0, e1⟩ := h
    obtain ⟨hb, hy, hrl, hrv⟩ := hbox _ _ _ hP
    have hld : loadPV s false 1 (.ptr b 0) = some y := by simp [loadPV, hb, readCells]
    by_cases hr : r = []
    · subst hr
      have hln : lenPV false y = some (.int .i64 0) := by rw [len_by hy]; rfl
      simp (maxSteps := 1000000) (disch := omega) only [e0, e1, hld, hln, W_seq, W_region, W_cond, W_block, W_skip, W_label, W_exit, W_goto, W_ret, WO_cons, WO_consG, WO_nil, wantedA_eq, wantB, evOp, ev_tmp, ev_const, ev_fn, WN_some, WN_none, updO_some, updO_none, upd_eq,
 ↓reduceIte, Nat.reduceEqDiff, List.nil_append, List.cons_append, List.append_nil, List.map_cons, List.map_nil, env0_zero, env0_succ, env0_nil, Option.map_some, Option.map_none, seqQ_normal, seqQ_ret, seqQ_exit, seqQ_goto, blockQ_normal, blockQ_ret, blockQ_exit, blockQ_goto, condW_bool, loopQ_ret, loopQ_exit, loopQ_goto, endQ_ret, endQ_normal, keep_mk, keep_st,
 lss_i, leq_i, gtr_i, geq_i, eql_i, neq_i, eql_8, neq_8, lss_8, leq_8, gtr_8, geq_8, eql_s, neq_s, eql_b, neq_b, not_b, by_bys, by_nils, load_cp1, beq_true, beq_false, Bool.not_eq_true', decide_eq_true_eq, decide_eq_false_iff_not, decide_true, decide_false,
 Int.toNat_natCast, Int.ofNat_lt, Int.ofNat_le, Int.natCast_inj, Bool.false_eq_true, Bool.true_eq_false, extPV, List.getElem?_cons_zero, List.getElem?_cons_succ, nilckPV, Int.reduceToNat, Int.reduceLE, true_and, and_true, reduceCtorEq, or_false, false_or, or_true, Option.some.injEq, exists_eq_left', Bool.not_true, Bool.not_false, ne_eq, Int.reduceEq, not_true_eq_false, not_false_eq_true, Int.reduceLT, UInt8.reduceLT, UInt8.reduceLE, UInt8.reduceToNat]
      rw [hQQ]; exact ⟨.inl rfl, y, hP⟩
    · have hpos := List.length_pos_iff.2 hr
      have hp' : (0 : Int) < (r.length : Int) := by omega
      obtain ⟨c1, c2, c3, c4⟩ := cut45 hrv hr
      have hcut := fun S : St => uCut_spec (st := S) (m := 45) hy (by omega)
      obtain ⟨s', s2, y1, y2, y3, y4⟩ := hY _ _ _ hP hr
      have hs1 : slcPV 1 y none (some (.int .i64 ((cutOf r 45 : Nat) : Int))) none = some (y.takeB (cutOf r 45)) := by
        rw [slc_hi hy (by omega) (by omega), Int.toNat_natCast]
      have hs2 : slcPV 1 y (some (.int .i64 ((cutOf r 45 : Nat) : Int))) none none = some (y.dropB (cutOf r 45)) := by
        rw [slc_lo hy (by omega) (by omega), Int.toNat_natCast]
      have h45 : ∀ S : St, call prog (.fn 61 []) [y, .int .i64 45] S = some (.int .i64 ((cutOf r 45 : Nat) : Int), S) := hcut
      simp (maxSteps := 1000000) (disch := omega) only [e0, e1, hld, len_by hy, hp', h45, hs1, hs2, y1, y2, y3, loopQ_normal, W_seq, W_region, W_cond, W_block, W_skip, W_label, W_exit, W_goto, W_ret, WO_cons, WO_consG, WO_nil, wantedA_eq, wantB, evOp, ev_tmp, ev_const, ev_fn, WN_some, WN_none, updO_some, updO_none, upd_eq,
 ↓reduceIte, Nat.reduceEqDiff, List.nil_append, List.cons_append, List.append_nil, List.map_cons, List.map_nil, env0_zero, env0_succ, env0_nil, Option.map_some, Option.map_none, seqQ_normal, seqQ_ret, seqQ_exit, seqQ_goto, blockQ_normal, blockQ_ret, blockQ_exit, blockQ_goto, condW_bool, loopQ_ret, loopQ_exit, loopQ_goto, endQ_ret, endQ_normal, keep_mk, keep_st,
 lss_i, leq_i, gtr_i, geq_i, eql_i, neq_i, eql_8, neq_8, lss_8, leq_8, gtr_8, geq_8, eql_s, neq_s, eql_b, neq_b, not_b, by_bys, by_nils, load_cp1, beq_true, beq_false, Bool.not_eq_true', decide_eq_true_eq, decide_eq_false_iff_not, decide_true, decide_false,
 Int.toNat_natCast, Int.ofNat_lt, Int.ofNat_le, Int.natCast_inj, Bool.false_eq_true, Bool.true_eq_false, extPV, List.getElem?_cons_zero, List.getElem?_cons_succ, nilckPV, Int.reduceToNat, Int.reduceLE, true_and, and_true, reduceCtorEq, or_false, false_or, or_true, Option.some.injEq, exists_eq_left', Bool.not_true, Bool.not_false, ne_eq, Int.reduceEq, not_true_eq_false, not_false_eq_true, Int.reduceLT, UInt8.reduceLT, UInt8.reduceLE, UInt8.reduceToNat]
      refine ⟨(r.drop (cutOf r 45)).length, by simp; omega, ?_⟩
      rw [hI]
      exact ⟨_, _, rfl, y4, e0, e1⟩
  obtain ⟨⟨xx, e1, s1⟩, h1, h2, h3⟩ := key
  refine ⟨s1, h3, ?_⟩
  rw [call_fn prog_246, h1]
  have hr : resOf e1 s1 F_word_pieces_c1.results = some (.tup []) := rfl
  rcases h2 with rfl | rfl <;> simp [finish, hr]
end Go.Ab

/-
  Words of a header: a text is written, walked.
-/
namespace Go.Ab
set_option linter.unusedVariables false
set_option linter.unusedSimpArgs false
set_option maxRecDepth 20000
variable {st s : St} {e : Env}

/-- A written text, and what is wrong. -/
def encV (s : Bs) : Bs × Int := if 4096 < s.length then ([], 2) else if validOf s = false then ([], 20) else if plnB s = true then (s, 0) else (encW s, 0)

def est (st : St) (d y : PV) (ts : List Bool) (lo : Nat) (rc : List LoopS) : St := ⟨st.boxes ++ [[d], [y]], st.toks ++ ts, st.loops ++ rc, lo⟩
variable {d d' y y' : PV} {ts : List Bool} {lo : Nat} {rc : List LoopS}
theorem est_ld : loadPV (est st d y ts lo rc) false 1 (.ptr st.boxes.length 0) = some d := by simp [loadPV, est, readCells]
theorem est_ld1 : loadPV (est st d y ts lo rc) false 1 (.ptr (st.boxes.length + 1) 0) = some y := by simp [loadPV, est, readCells]
theorem est_st (h1 : d'.cells = [d']) (h2 : leafOk d' = true) (h3 : ∀ n, d'.inB n = true) : storePV (est st d y ts lo rc) 1 (.ptr st.boxes.length 0) d' = some (est st d' y ts (if hasTok [d'] then min lo st.boxes.length else lo) rc) := by
  simp [storePV, est, h1, h2, h3, setCells]
theorem est_st1 (h1 : y'.cells = [y']) (h2 : leafOk y' = true) (h3 : ∀ n, y'.inB n = true) : storePV (est st d y ts lo rc) 1 (.ptr (st.boxes.length + 1) 0) y' = some (est st d y' ts (if hasTok [y'] then min lo (st.boxes.length + 1) else lo) rc) := by
  simp [storePV, est, h1, h2, h3, setCells]
theorem by_leaf {x : PV} {l : Bs} (h : x.by = some l) : x.cells = [x] ∧ leafOk x = true ∧ ∀ n, x.inB n = true := by
  rcases by_cases' h with ⟨rfl, rfl⟩ | ⟨t, rfl⟩
  · exact ⟨rfl, rfl, fun _ => rfl⟩
  · exact ⟨rfl, rfl, fun _ => rfl⟩
theorem joinW_len (xs : List Bs) : (Lib.join (xs.map wordU) [32]).length ≤ (xs.map fun p => p.length * 2 + 20).sum := by
  have hw : ∀ p : Bs, (wordU p).length + 1 ≤ p.length * 2 + 20 := fun p => by
    have := enc64_len p.length p (Nat.le_refl _)
    simp only [wordU, wordS, List.length_append, List.length_cons, List.length_nil, this]
    omega
  cases xs with
  | nil => simp [Lib.join_nil]
  | cons x r =>
    rw [List.map_cons, Lib.join_cons]
    have h1 : ∀ r : List Bs, (Lib.joinTail [32] (r.map wordU)).length ≤ (r.map fun p => p.length * 2 + 20).sum := by
      intro r
      induction r with
      | nil => simp [Lib.joinTail]
      | cons y r ih =>
        have := hw y
        simp only [Lib.joinTail, List.map_cons, List.flatten_cons, List.length_append, List.sum_cons, List.length_cons, List.length_nil] at ih ⊢
        omega
    have := h1 r
    have := hw x
    simp only [List.length_append, List.map_cons, List.sum_cons]
    omega
theorem sumW : ∀ (xs : List Bs), (xs.map fun p => p.length * 2 + 20).sum = 2 * xs.flatten.length + 20 * xs.length
  | [] => rfl
  | x :: xs => by
    have := sumW xs
    simp only [List.map_cons, List.sum_cons, List.flatten_cons, List.length_append, List.length_cons, this]; omega
theorem encW_len {s : Bs} (hv : Vd s) : (encW s).length ≤ 22 * s.length := by
  obtain ⟨_, h2, h3⟩ := pcs_ok s.length s (Nat.le_refl _) hv
  have := joinW_len (pcsOf s)
  rw [sumW] at this
  unfold encW pcsOf at *
  rw [h2] at this
  omega
theorem strsOf_map (l : List Bs) : strsOf (l.map PV.str) = some l := by
  induction l with
  | nil => rfl
  | cons x l ih => simp [strsOf, ih]

set_option maxHeartbeats 8000000 in
theorem wEncode_spec {s : Bs} (hl : s.length ≤ 1000000) : call prog (.fn 222 []) [.str s] st = some (.tup [.str (encV s).1, .int .i64 (encV s).2], st) := by
  refine call_of_W prog_222 ?_
  unfold F_word_Encode; dsimp only
  have hval : ∀ (S : St) (t : Tok), call prog (.fn 53 []) [.bys t s] S = some (.bool (validOf s), S) := fun S t => uValid_spec by_bys (by omega)
  have hpln := fun S : St => wPlain_spec (st := S) (s := s) hl
  by_cases h1 : 4096 < s.length
  · have h1' : (4096 : Int) < (s.length : Int) := by omega
    have hV : encV s = ([], 2) := by unfold encV; rw [if_pos h1]
    rw [hV]
    simp (maxSteps := 1000000) (disch := omega) only [len_s, h1', W_seq, W_region, W_cond, W_block, W_skip, W_label, W_exit, W_goto, W_ret, WO_cons, WO_consG, WO_nil, wantedA_eq, wantB, evOp, ev_tmp, ev_const, ev_fn, WN_some, WN_none, updO_some, updO_none, upd_eq,
 ↓reduceIte, Nat.reduceEqDiff, List.nil_append, List.cons_append, List.append_nil, List.map_cons, List.map_nil, env0_zero, env0_succ, env0_nil, Option.map_some, Option.map_none, seqQ_normal, seqQ_ret, seqQ_exit, seqQ_goto, blockQ_normal, blockQ_ret, blockQ_exit, blockQ_goto, condW_bool, loopQ_ret, loopQ_exit, loopQ_goto, endQ_ret, endQ_normal, keep_mk, keep_st,
 lss_i, leq_i, gtr_i, geq_i, eql_i, neq_i, eql_8, neq_8, lss_8, leq_8, gtr_8, geq_8, eql_s, neq_s, eql_b, neq_b, not_b, by_bys, by_nils, load_cp1, beq_true, beq_false, Bool.not_eq_true', decide_eq_true_eq, decide_eq_false_iff_not, decide_true, decide_false,
 Int.toNat_natCast, Int.ofNat_lt, Int.ofNat_le, Int.natCast_inj, Bool.false_eq_true, Bool.true_eq_false, extPV, List.getElem?_cons_zero, List.getElem?_cons_succ, nilckPV, Int.reduceToNat, Int.reduceLE, true_and, and_true, reduceCtorEq, or_false, false_or, or_true, Option.some.injEq, exists_eq_left', Bool.not_true, Bool.not_false, ne_eq, Int.reduceEq, not_true_eq_false, not_false_eq_true, Int.reduceLT, UInt8.reduceLT, UInt8.reduceLE, UInt8.reduceToNat]
    exact retTI rfl rfl Kept.start rfl rfl
  have h1' : ¬ (4096 : Int) < (s.length : Int) := by omega
  cases hv : validOf s with
  | false =>
    have hV : encV s = ([], 20) := by unfold encV; rw [if_neg h1, if_pos hv]
    rw [hV]
    rw [hv] at hval
    simp (maxSteps := 1000000) (disch := omega) only [len_s, h1', freshT, hval, W_seq, W_region, W_cond, W_block, W_skip, W_label, W_exit, W_goto, W_ret, WO_cons, WO_consG, WO_nil, wantedA_eq, wantB, evOp, ev_tmp, ev_const, ev_fn, WN_some, WN_none, updO_some, updO_none, upd_eq,
 ↓reduceIte, Nat.reduceEqDiff, List.nil_append, List.cons_append, List.append_nil, List.map_cons, List.map_nil, env0_zero, env0_succ, env0_nil, Option.map_some, Option.map_none, seqQ_normal, seqQ_ret, seqQ_exit, seqQ_goto, blockQ_normal, blockQ_ret, blockQ_exit, blockQ_goto, condW_bool, loopQ_ret, loopQ_exit, loopQ_goto, endQ_ret, endQ_normal, keep_mk, keep_st,
 lss_i, leq_i, gtr_i, geq_i, eql_i, neq_i, eql_8, neq_8, lss_8, leq_8, gtr_8, geq_8, eql_s, neq_s, eql_b, neq_b, not_b, by_bys, by_nils, load_cp1, beq_true, beq_false, Bool.not_eq_true', decide_eq_true_eq, decide_eq_false_iff_not, decide_true, decide_false,
 Int.toNat_natCast, Int.ofNat_lt, Int.ofNat_le, Int.natCast_inj, Bool.false_eq_true, Bool.true_eq_false, extPV, List.getElem?_cons_zero, List.getElem?_cons_succ, nilckPV, Int.reduceToNat, Int.reduceLE, true_and, and_true, reduceCtorEq, or_false, false_or, or_true, Option.some.injEq, exists_eq_left', Bool.not_true, Bool.not_false, ne_eq, Int.reduceEq, not_true_eq_false, not_false_eq_true, Int.reduceLT, UInt8.reduceLT, UInt8.reduceLE, UInt8.reduceToNat]
    exact retTI rfl rfl Kept.start.tok1 rfl rfl
  | true =>
    rw [hv] at hval
    have hvd := valid_iff.1 hv
    cases hp : plnB s with
    | true =>
      have hV : encV s = (s, 0) := by unfold encV; rw [if_neg h1, if_neg (by simp [hv]), if_pos hp]
      rw [hV]
      rw [hp] at hpln
      simp (maxSteps := 1000000) (disch := omega) only [len_s, h1', freshT, hval, hpln, W_seq, W_region, W_cond, W_block, W_skip, W_label, W_exit, W_goto, W_ret, WO_cons, WO_consG, WO_nil, wantedA_eq, wantB, evOp, ev_tmp, ev_const, ev_fn, WN_some, WN_none, updO_some, updO_none, upd_eq,
 ↓reduceIte, Nat.reduceEqDiff, List.nil_append, List.cons_append, List.append_nil, List.map_cons, List.map_nil, env0_zero, env0_succ, env0_nil, Option.map_some, Option.map_none, seqQ_normal, seqQ_ret, seqQ_exit, seqQ_goto, blockQ_normal, blockQ_ret, blockQ_exit, blockQ_goto, condW_bool, loopQ_ret, loopQ_exit, loopQ_goto, endQ_ret, endQ_normal, keep_mk, keep_st,
 lss_i, leq_i, gtr_i, geq_i, eql_i, neq_i, eql_8, neq_8, lss_8, leq_8, gtr_8, geq_8, eql_s, neq_s, eql_b, neq_b, not_b, by_bys, by_nils, load_cp1, beq_true, beq_false, Bool.not_eq_true', decide_eq_true_eq, decide_eq_false_iff_not, decide_true, decide_false,
 Int.toNat_natCast, Int.ofNat_lt, Int.ofNat_le, Int.natCast_inj, Bool.false_eq_true, Bool.true_eq_false, extPV, List.getElem?_cons_zero, List.getElem?_cons_succ, nilckPV, Int.reduceToNat, Int.reduceLE, true_and, and_true, reduceCtorEq, or_false, false_or, or_true, Option.some.injEq, exists_eq_left', Bool.not_true, Bool.not_false, ne_eq, Int.reduceEq, not_true_eq_false, not_false_eq_true, Int.reduceLT, UInt8.reduceLT, UInt8.reduceLE, UInt8.reduceToNat]
      exact retTI rfl rfl Kept.start.tok1 rfl rfl
    | false =>
      have hV : encV s = (encW s, 0) := by unfold encV; rw [if_neg h1, if_neg (by simp [hv]), if_neg (by simp [hp])]
      rw [hV]
      rw [hp] at hpln
      obtain ⟨t, ht⟩ : ∃ t, t = st.toks.length + 1 := ⟨_, rfl⟩
      have hpc := fun S : St => pieces_spec (st := S) (v := .bys (.own t) s) (l := s) rfl
      have htl : (st.toks ++ [true]).length = t := by rw [ht]; simp
      simp (maxSteps := 1000000) (disch := omega) only [len_s, h1', freshT, hval, hpln, allocPV, htl, hpc, List.length_append, List.length_cons, List.length_nil, Nat.zero_add, List.append_assoc, W_seq, W_region, W_cond, W_block, W_skip, W_label, W_exit, W_goto, W_ret, WO_cons, WO_consG, WO_nil, wantedA_eq, wantB, evOp, ev_tmp, ev_const, ev_fn, WN_some, WN_none, updO_some, updO_none, upd_eq,
 ↓reduceIte, Nat.reduceEqDiff, List.nil_append, List.cons_append, List.append_nil, List.map_cons, List.map_nil, env0_zero, env0_succ, env0_nil, Option.map_some, Option.map_none, seqQ_normal, seqQ_ret, seqQ_exit, seqQ_goto, blockQ_normal, blockQ_ret, blockQ_exit, blockQ_goto, condW_bool, loopQ_ret, loopQ_exit, loopQ_goto, endQ_ret, endQ_normal, keep_mk, keep_st,
 lss_i, leq_i, gtr_i, geq_i, eql_i, neq_i, eql_8, neq_8, lss_8, leq_8, gtr_8, geq_8, eql_s, neq_s, eql_b, neq_b, not_b, by_bys, by_nils, load_cp1, beq_true, beq_false, Bool.not_eq_true', decide_eq_true_eq, decide_eq_false_iff_not, decide_true, decide_false,
 Int.toNat_natCast, Int.ofNat_lt, Int.ofNat_le, Int.natCast_inj, Bool.false_eq_true, Bool.true_eq_false, extPV, List.getElem?_cons_zero, List.getElem?_cons_succ, nilckPV, Int.reduceToNat, Int.reduceLE, true_and, and_true, reduceCtorEq, or_false, false_or, or_true, Option.some.injEq, exists_eq_left', Bool.not_true, Bool.not_false, ne_eq, Int.reduceEq, not_true_eq_false, not_false_eq_true, Int.reduceLT, UInt8.reduceLT, UInt8.reduceLE, UInt8.reduceToNat]
      refine W_rangeFunc (fid := 246) (caps := [.ptr (st.boxes.length + 1) 0]) rfl prog_246 ?_
      generalize hrec : recOf _ _ _ _ = rec
      have hra := congrArg LoopS.assign hrec.symm
      have hrb := congrArg LoopS.body hrec.symm
      dsimp only [recOf] at hra hrb
      have r0 : rec.status = 0 := by rw [← hrec]; rfl
      have r1 : rec.pend = .normal := by rw [← hrec]; rfl
      have r2 : rec.params = [24] := by rw [← hrec]; rfl
      have r3 : rec.env 4 = .ptr st.boxes.length 0 := by rw [← hrec]; rfl
      obtain ⟨P, hP⟩ : ∃ P : Bs → PV → St → Prop, P = fun r y S => ∃ ts d lo xs, S = est st d y ts lo [rec] ∧ (pcsOf s).map wordU = xs ++ (pcsOf r).map wordU ∧ (d = .nils ∧ xs = [] ∨ ∃ i, d = rowV (.own i) xs ∧ st.toks.length ≤ i ∧ (st.toks ++ ts)[i]? = some true ∧ lo ≤ st.boxes.length) ∧ st.boxes.length ≤ lo ∧ y.by = some r ∧ r.length ≤ s.length ∧ Vd r := ⟨_, rfl⟩
      have hasg : ∀ (v : PV) (S : St), ex prog rec.assign (updAll rec.env rec.params [v]) S = some (.normal, upd (upd rec.env 24 v) 5 v, S) := fun v S => by
        refine ex_of_W ?_
        simp (maxSteps := 1000000) (disch := omega) only [hra, r2, updAll, W_seq, W_region, W_cond, W_block, W_skip, W_label, W_exit, W_goto, W_ret, WO_cons, WO_consG, WO_nil, wantedA_eq, wantB, evOp, ev_tmp, ev_const, ev_fn, WN_some, WN_none, updO_some, updO_none, upd_eq,
 ↓reduceIte, Nat.reduceEqDiff, List.nil_append, List.cons_append, List.append_nil, List.map_cons, List.map_nil, env0_zero, env0_succ, env0_nil, Option.map_some, Option.map_none, seqQ_normal, seqQ_ret, seqQ_exit, seqQ_goto, blockQ_normal, blockQ_ret, blockQ_exit, blockQ_goto, condW_bool, loopQ_ret, loopQ_exit, loopQ_goto, endQ_ret, endQ_normal, keep_mk, keep_st,
 lss_i, leq_i, gtr_i, geq_i, eql_i, neq_i, eql_8, neq_8, lss_8, leq_8, gtr_8, geq_8, eql_s, neq_s, eql_b, neq_b, not_b, by_bys, by_nils, load_cp1, beq_true, beq_false, Bool.not_eq_true', decide_eq_true_eq, decide_eq_false_iff_not, decide_true, decide_false,
 Int.toNat_natCast, Int.ofNat_lt, Int.ofNat_le, Int.natCast_inj, Bool.false_eq_true, Bool.true_eq_false, extPV, List.getElem?_cons_zero, List.getElem?_cons_succ, nilckPV, Int.reduceToNat, Int.reduceLE, true_and, and_true, reduceCtorEq, or_false, false_or, or_true, Option.some.injEq, exists_eq_left', Bool.not_true, Bool.not_false, ne_eq, Int.reduceEq, not_true_eq_false, not_false_eq_true, Int.reduceLT, UInt8.reduceLT, UInt8.reduceLE, UInt8.reduceToNat]
      obtain ⟨W, hW⟩ : ∃ W, W = (pcsOf s).map wordU := ⟨_, rfl⟩
      have hWl : W.length ≤ 5000 := by rw [hW, List.length_map]; have := (pcs_ok s.length s (Nat.le_refl _) hvd).2.2; unfold pcsOf; omega
      obtain ⟨s1, hs1, hcall⟩ := pieces_iter (st := ⟨st.boxes ++ [[.nils], [.bys (.own t) s]], st.toks ++ [true, true], st.loops ++ [rec], min st.boxes.length (st.boxes.length + 1)⟩) (l := s) (v := .bys (.own t) s) hl (b := st.boxes.length + 1) (k := st.loops.length) (P := P)
        (fun r y S h => by rw [hP] at h; obtain ⟨ts, d, lo, xs, rfl, _, _, _, h5, h6, h7⟩ := h; exact ⟨by simp [est], h5, by omega, h7⟩)
        (fun r y S h hr => by
          rw [hP] at h
          obtain ⟨ts, d, lo, xs, rfl, h1, h2, h3, h5, h6, h7⟩ := h
          obtain ⟨c1, c2, c3, c4⟩ := cut45 h7 hr
          have hcons := pcsOf_cons h7 hr
          obtain ⟨p, hpp⟩ : ∃ p, p = r.take (cutOf r 45) := ⟨_, rfl⟩
          have hpl : p.length ≤ 45 := by rw [hpp]; simp; omega
          rw [← hpp] at hcons
          rw [hcons, List.map_cons] at h1
          have hxl : xs.length + 1 ≤ 5001 := by
            have := congrArg List.length h1
            rw [← hW] at this
            simp at this; omega
          have htb := takeB_by (i := cutOf r 45) h5
          rw [← hpp] at htb
          have hdb := dropB_by (i := cutOf r 45) h5
          have key : ∃ b s', call prog (.yld st.loops.length) [y.takeB (cutOf r 45)] (est st d y ts lo [rec]) = some (.bool b, s') ∧ (b = true ∧ ∃ ts' i, s' = est st (rowV (.own i) (xs ++ [wordU p])) y ts' st.boxes.length [rec] ∧ st.toks.length ≤ i ∧ (st.toks ++ ts')[i]? = some true) := by
            refine yld_of_W (r := rec) (K := fun b s' => b = true ∧ ∃ ts' i, s' = est st (rowV (.own i) (xs ++ [wordU p])) y ts' st.boxes.length [rec] ∧ st.toks.length ≤ i ∧ (st.toks ++ ts')[i]? = some true) (args := [y.takeB (cutOf r 45)]) (by simp [est]) r0 (by rw [r2]; rfl) (hasg _ _) ?_
            obtain ⟨rec1, hrec1⟩ : ∃ r, r = ({ rec with status := 1 } : LoopS) := ⟨_, rfl⟩
            have hset : ({ est st d y ts lo [rec] with loops := (est st d y ts lo [rec]).loops.set st.loops.length { rec with status := 1 } } : St) = est st d y ts lo [rec1] := by
              rw [← hrec1]; simp [est]
            rw [hset, hrb]
            have henc := fun S : St => bEncode_spec (st := S) htb (by omega)
            have hel := enc64_len p.length p (Nat.le_refl _)
            have ad1 : binPV .add .no (.str [61, 63, 117, 116, 102, 45, 56, 63, 66, 63]) (.str (enc64 p)) = some (.str ([61, 63, 117, 116, 102, 45, 56, 63, 66, 63] ++ enc64 p)) := adds (by simp; omega)
            have ad2 : binPV .add .no (.str ([61, 63, 117, 116, 102, 45, 56, 63, 66, 63] ++ enc64 p)) (.str [63, 61]) = some (.str (wordU p)) := by
              rw [adds (by simp; omega)]; simp [wordU, wordS]
            generalize [61, 63, 117, 116, 102, 45, 56, 63, 66, 63] ++ enc64 p = X at ad1 ad2
            obtain ⟨i, ts', ha, hi1, hi2⟩ : ∃ i ts', appV 1 ⟨(est st d y ts lo [rec1]).boxes, (est st d y ts lo [rec1]).toks ++ [true], (est st d y ts lo [rec1]).loops, (est st d y ts lo [rec1]).low⟩ d (.sl 1 (.own (st.toks ++ ts).length) [.str (wordU p)]) = some (rowV (.own i) (xs ++ [wordU p]), est st d y ts' lo [rec1]) ∧ st.toks.length ≤ i ∧ (st.toks ++ ts')[i]? = some true := by
              rcases h2 with ⟨rfl, rfl⟩ | ⟨i, rfl, hi1, hi2, hi3⟩
              · refine ⟨st.toks.length + (ts.length + 1), ts ++ [true, true], ?_, by omega, by rw [get_app, get_app]; rfl⟩
                simp [appV, srcV, freshT, est, rowV, room]
              · have hlt : i < (st.toks ++ ts).length := (List.getElem?_eq_some_iff.1 hi2).1
                have hg : (st.toks ++ ts ++ [true])[i]? = some true := by rw [List.getElem?_append_left hlt]; exact hi2
                refine ⟨st.toks.length + (ts.length + 1), (ts ++ [true]).set (i - st.toks.length) false ++ [true], ?_, by omega, ?_⟩
                · have hs : (st.toks ++ (ts ++ [true])).set i false = st.toks ++ (ts ++ [true]).set (i - st.toks.length) false := by
                    rw [List.set_append_right _ _ hi1]
                  have hr : xs.length + 1 ≤ room := by unfold room; omega
                  have hg2 : (st.toks ++ (ts ++ [true]))[i]? = some true := by rw [← List.append_assoc]; exact hg
                  simp [appV, srcV, rowV, appTok, freshT, est, hg2, hs, hr, List.append_assoc]
                · have hsl : ((ts ++ [true]).set (i - st.toks.length) false).length = ts.length + 1 := by simp
                  rw [get_app, ← hsl]
                  exact get_app0
            have hlo : min lo st.boxes.length = st.boxes.length := by omega
            have hst : storePV (est st d y ts' lo [rec1]) 1 (.ptr st.boxes.length 0) (rowV (.own i) (xs ++ [wordU p])) = some (est st (rowV (.own i) (xs ++ [wordU p])) y ts' st.boxes.length [rec1]) := by
              rw [est_st tok_row.1 tok_row.2.1 tok_row.2.2]
              simp [hasTok, rowV, tokOf, hlo]
            have htl2 : (est st d y ts lo [rec1]).toks.length = (st.toks ++ ts).length := rfl
            simp (maxSteps := 1000000) (disch := omega) only [r3, henc, est_ld, ad1, ad2, lit_s, freshT, htl2, ha, hst, W_seq, W_region, W_cond, W_block, W_skip, W_label, W_exit, W_goto, W_ret, WO_cons, WO_consG, WO_nil, wantedA_eq, wantB, evOp, ev_tmp, ev_const, ev_fn, WN_some, WN_none, updO_some, updO_none, upd_eq,
 ↓reduceIte, Nat.reduceEqDiff, List.nil_append, List.cons_append, List.append_nil, List.map_cons, List.map_nil, env0_zero, env0_succ, env0_nil, Option.map_some, Option.map_none, seqQ_normal, seqQ_ret, seqQ_exit, seqQ_goto, blockQ_normal, blockQ_ret, blockQ_exit, blockQ_goto, condW_bool, loopQ_ret, loopQ_exit, loopQ_goto, endQ_ret, endQ_normal, keep_mk, keep_st,
 lss_i, leq_i, gtr_i, geq_i, eql_i, neq_i, eql_8, neq_8, lss_8, leq_8, gtr_8, geq_8, eql_s, neq_s, eql_b, neq_b, not_b, by_bys, by_nils, load_cp1, beq_true, beq_false, Bool.not_eq_true', decide_eq_true_eq, decide_eq_false_iff_not, decide_true, decide_false,
 Int.toNat_natCast, Int.ofNat_lt, Int.ofNat_le, Int.natCast_inj, Bool.false_eq_true, Bool.true_eq_false, extPV, List.getElem?_cons_zero, List.getElem?_cons_succ, nilckPV, Int.reduceToNat, Int.reduceLE, true_and, and_true, reduceCtorEq, or_false, false_or, or_true, Option.some.injEq, exists_eq_left', Bool.not_true, Bool.not_false, ne_eq, Int.reduceEq, not_true_eq_false, not_false_eq_true, Int.reduceLT, UInt8.reduceLT, UInt8.reduceLE, UInt8.reduceToNat]
            refine ⟨rec1, by simp [est], rfl, ts', i, ?_, hi1, hi2⟩
            simp only [est, hrec1]
            simp
            rw [← r0, ← r1]
          obtain ⟨b, s', y1, rfl, ts', i, rfl, hi1, hi2⟩ := key
          have hyl := by_leaf hdb
          refine ⟨_, est st (rowV (.own i) (xs ++ [wordU p])) (y.dropB (cutOf r 45)) ts' st.boxes.length [rec], y1, est_ld1, ?_, ?_⟩
          · rw [est_st1 hyl.1 hyl.2.1 hyl.2.2]
            split <;> simp
          · rw [hP]
            exact ⟨ts', _, st.boxes.length, xs ++ [wordU p], rfl, by rw [h1]; simp, .inr ⟨i, rfl, hi1, hi2, Nat.le_refl _⟩, Nat.le_refl _, hdb, by simp; omega, (h7.cut _ c3 c4).2⟩)
        (by
          rw [hP]
          exact ⟨[true, true], .nils, st.boxes.length + 2, [], by simp [est], by simp, .inl ⟨rfl, rfl⟩, by omega, rfl, Nat.le_refl _, hvd⟩)
      obtain ⟨y, hs1⟩ := hs1
      rw [hP] at hs1
      obtain ⟨ts, d, lo, xs, rfl, hx1, hx2, hlo, -, -, -⟩ := hs1
      rw [pcsOf_nil, List.map_nil, List.append_nil] at hx1
      rw [← hx1] at hx2
      have hmin : min st.boxes.length (st.boxes.length + 1) = st.boxes.length := by omega
      rw [hmin] at hcall ⊢
      have hleave : ∃ ts2, leave ⟨st.boxes ++ [[.nils], [.bys (.own t) s]], st.toks ++ [true, true], st.loops ++ [rec], st.boxes.length⟩ (est st d y ts lo [rec]) (.tup []) = (.tup [], est st d y ts2 st.boxes.length [rec]) := by
        by_cases h6 : st.boxes.length + 2 ≤ lo
        · refine ⟨ts.take 2, ?_⟩
          simp [leave, est, PV.inB, PV.inB.inBAll, keepRes, keepVals, h6]
          refine ⟨List.take_of_length_le (by simp), ?_⟩
          rw [List.take_append]
          simp
          exact List.take_of_length_le (by omega)
        · refine ⟨ts, ?_⟩
          have hm : min st.boxes.length lo = st.boxes.length := by omega
          simp [leave, est, PV.inB, PV.inB.inBAll, h6, hm]
          exact List.take_of_length_le (by simp)
      obtain ⟨ts2, hleave⟩ := hleave
      rw [hleave] at hcall
      refine ⟨_, _, rec, hcall, by simp [est], (by rw [r0]; decide), ?_⟩
      have hlp : ({ est st d y ts2 st.boxes.length [rec] with loops := (est st d y ts2 st.boxes.length [rec]).loops.take st.loops.length } : St) = est st d y ts2 st.boxes.length [] := by simp [est]
      rw [hlp, r1]
      have hwl := encW_len hvd
      have hroom : room = 68719476736 := rfl
      have hjoin : call prog (.fn 238 []) [d, .str [32]] (est st d y ts2 st.boxes.length []) = some (.str (encW s), est st d y ts2 st.boxes.length []) := by
        rw [call_prim prog_238]
        rcases hx2 with ⟨rfl, h0⟩ | ⟨i, rfl, _⟩
        · have : encW s = [] := by unfold encW; rw [h0]; rfl
          simp [pStrJoin, this]
        · have hj : Lib.join ((pcsOf s).map wordU) [32] = encW s := rfl
          rw [← hW] at hj
          rw [← hW]
          simp only [pStrJoin, rowV, List.append_nil, strsOf_map]
          rw [hj, if_pos ⟨by omega, by omega⟩]
          rfl
      simp (maxSteps := 1000000) (disch := omega) only [r3, est_ld, hjoin, W_seq, W_region, W_cond, W_block, W_skip, W_label, W_exit, W_goto, W_ret, WO_cons, WO_consG, WO_nil, wantedA_eq, wantB, evOp, ev_tmp, ev_const, ev_fn, WN_some, WN_none, updO_some, updO_none, upd_eq,
 ↓reduceIte, Nat.reduceEqDiff, List.nil_append, List.cons_append, List.append_nil, List.map_cons, List.map_nil, env0_zero, env0_succ, env0_nil, Option.map_some, Option.map_none, seqQ_normal, seqQ_ret, seqQ_exit, seqQ_goto, blockQ_normal, blockQ_ret, blockQ_exit, blockQ_goto, condW_bool, loopQ_ret, loopQ_exit, loopQ_goto, endQ_ret, endQ_normal, keep_mk, keep_st,
 lss_i, leq_i, gtr_i, geq_i, eql_i, neq_i, eql_8, neq_8, lss_8, leq_8, gtr_8, geq_8, eql_s, neq_s, eql_b, neq_b, not_b, by_bys, by_nils, load_cp1, beq_true, beq_false, Bool.not_eq_true', decide_eq_true_eq, decide_eq_false_iff_not, decide_true, decide_false,
 Int.toNat_natCast, Int.ofNat_lt, Int.ofNat_le, Int.natCast_inj, Bool.false_eq_true, Bool.true_eq_false, extPV, List.getElem?_cons_zero, List.getElem?_cons_succ, nilckPV, Int.reduceToNat, Int.reduceLE, true_and, and_true, reduceCtorEq, or_false, false_or, or_true, Option.some.injEq, exists_eq_left', Bool.not_true, Bool.not_false, ne_eq, Int.reduceEq, not_true_eq_false, not_false_eq_true, Int.reduceLT, UInt8.reduceLT, UInt8.reduceLE, UInt8.reduceToNat]
      exact retTI rfl rfl ⟨by simp [est], by simp [est], by simp [est], by simp [est]⟩ rfl rfl
end Go.Ab

/-
  The laws WordBack, WordSays, WordShort.
-/
namespace Go.Ab
set_option linter.unusedVariables false
set_option linter.unusedSimpArgs false
set_option maxRecDepth 20000
variable {st s : St} {e : Env}

theorem wordU_chars (p : Bs) : ∀ c ∈ wordU p, c ≠ 32 ∧ 32 ≤ c ∧ c ≤ 126 := by
  intro c hc
  have h := enc64_chars p.length p (Nat.le_refl _)
  simp only [wordU, wordS, List.mem_append] at hc
  have fin : ∀ l : Bs, (∀ c ∈ l, c ≠ 32 ∧ 32 ≤ c ∧ c ≤ 126) → c ∈ l → c ≠ 32 ∧ 32 ≤ c ∧ c ≤ 126 := fun l hl => hl c
  rcases hc with ((((((hc | hc) | hc) | hc) | hc) | hc) | hc)
  · exact fin _ (by decide) hc
  · exact fin _ (by decide) hc
  · exact fin _ (by decide) hc
  · exact fin _ (by decide) hc
  · exact fin _ (by decide) hc
  · exact (h c hc).2.2
  · exact fin _ (by decide) hc
theorem pcsOf_ne {s : Bs} (hv : Vd s) (hne : s ≠ []) : pcsOf s ≠ [] := by
  rw [pcsOf_cons hv hne]; simp
theorem plnB_nil : plnB [] = true := by kernel_rfl

end Go.Ab
