/-
  Fields of a name; how big a header is.
-/
import Derived.Test.YtpemgniafhdheaaA3
import Derived.Test.YtpemgniafhdheaaA2
namespace Go.Ab
set_option linter.unusedVariables false
set_option linter.unusedSimpArgs false
variable {st s : St} {e : Env}

abbrev Fld := List UInt8 × List UInt8
def fV (f : Fld) : PV := .agg [.str f.1, .str f.2]
def getOf (fs : List Fld) (n : List UInt8) : List UInt8 × Nat :=
  let m := fs.filter (fun f => decide (lowOf f.1 = lowOf n))
  ((m.head?.map (·.2)).getD [], m.length)
def getV (r : List UInt8 × Nat) : PV := .tup [.str r.1, .int .i64 (r.2 : Int)]

theorem getOf_snoc {fs : List Fld} {f : Fld} {n : List UInt8} : getOf (fs ++ [f]) n = if lowOf f.1 = lowOf n then ((if (getOf fs n).2 = 0 then f.2 else (getOf fs n).1), (getOf fs n).2 + 1) else getOf fs n := by
  unfold getOf
  simp only [List.filter_append, List.filter_cons, List.filter_nil]
  by_cases h : lowOf f.1 = lowOf n
  · simp only [h, decide_true, if_true]
    cases hm : fs.filter (fun f => decide (lowOf f.1 = lowOf n)) with
    | nil => simp
    | cons a r => simp
  · simp [h]
theorem getOf_le {fs : List Fld} {n : List UInt8} : (getOf fs n).2 ≤ fs.length := by
  unfold getOf; exact List.length_filter_le ..

theorem take_getD' {α : Type} {l : List α} {i : Nat} {d : α} (h : i < l.length) : l.take (i + 1) = l.take i ++ [l.getD i d] := by
  rw [List.take_succ_eq_append_getElem h]; simp [List.getD, h]

theorem nz0 : (((0 : Nat) : Int) = 0) = True := by simp

/-! ### A field in a box -/
theorem iaddr_f {x : PV} {fs : List Fld} {k : IntKind} {c : Int} (h : x.vs 2 = some (fs.map fV)) (h1 : 0 ≤ c) (h2 : c.toNat < fs.length) : iaddrPV 2 x (.int k c) = some (.cp [.str (fs.getD c.toNat ([], [])).1, .str (fs.getD c.toNat ([], [])).2]) := by
  rw [iaddr_vs h h1 (by simpa using h2)]
  simp [List.getD, h2, fV, PV.cells]
theorem load_f2 {a b : PV} : loadPV st true 2 (.cp [a, b]) = some (.agg [a, b]) := rfl
theorem fa_cp {n : Nat} {cs : List PV} : faddrPV n (.cp cs) = some (.cp (cs.drop n)) := rfl
theorem load_cp0 {a : PV} {r : List PV} : loadPV st false 1 (.cp ((a :: r).drop 0)) = some a := rfl
theorem load_cp1' {a b : PV} {r : List PV} : loadPV st false 1 (.cp ((a :: b :: r).drop 1)) = some b := rfl
theorem store_f {B : List (List PV)} {T : List Bool} {L : List LoopS} {lo : Nat} {a b : List UInt8} : storePV ⟨B ++ [[.str [], .str []]], T, L, lo⟩ 2 (.ptr B.length 0) (.agg [.str a, .str b]) = some ⟨B ++ [[.str a, .str b]], T, L, lo⟩ := by
  simp [storePV, PV.cells, PV.inB, PV.inB.inBAll, leafOk, setCells, hasTok, tokOf]
theorem load_b0 {B : List (List PV)} {T : List Bool} {L : List LoopS} {lo : Nat} {a b : List UInt8} : loadPV ⟨B ++ [[.str a, .str b]], T, L, lo⟩ false 1 (.ptr B.length 0) = some (.str a) := by
  simp [loadPV, readCells]
theorem load_b1 {B : List (List PV)} {T : List Bool} {L : List LoopS} {lo : Nat} {a b : List UInt8} : loadPV ⟨B ++ [[.str a, .str b]], T, L, lo⟩ false 1 (.ptr B.length 1) = some (.str b) := by
  simp [loadPV, readCells]

def okF (f : Fld) : Prop := f.1.length ≤ 200 ∧ f.2.length ≤ 5000
theorem Kept.alloc' {z : List PV} (h : Kept st s) : Kept st ⟨s.boxes ++ [z], s.toks, s.loops, s.low⟩ := h.alloc

theorem Get_spec {x : PV} {fs : List Fld} {n : List UInt8} (hx : x.vs 2 = some (fs.map fV)) (hn : n.length ≤ 1000000) (hf : ∀ f ∈ fs, okF f) (hl : fs.length ≤ 1000000) : call prog (.fn 147 []) [x, .str n] st = some (getV (getOf fs n), st) := by
  refine call_of_W prog_147 ?_
  unfold F_fields_Get; dsimp only
  have hlen := len_vs hx
  rw [List.length_map] at hlen
  simp (maxSteps := 1000000) (disch := omega) only [hlen, W_seq, W_region, W_cond, W_block, W_skip, W_label, W_exit, W_goto, W_ret, WO_cons, WO_consG, WO_nil, wantedA_eq, wantB, evOp, ev_tmp, ev_const, ev_fn, WN_some, WN_none, updO_some, updO_none, upd_eq,
 ↓reduceIte, Nat.reduceEqDiff, List.nil_append, List.cons_append, List.append_nil, List.map_cons, List.map_nil, env0_zero, env0_succ, env0_nil, Option.map_some, Option.map_none, seqQ_normal, seqQ_ret, seqQ_exit, seqQ_goto, blockQ_normal, blockQ_ret, blockQ_exit, blockQ_goto, condW_bool, loopQ_ret, loopQ_exit, loopQ_goto, endQ_ret, endQ_normal,
 lss_i, leq_i, gtr_i, geq_i, eql_i, neq_i, eql_8, neq_8, lss_8, leq_8, gtr_8, geq_8, eql_s, neq_s, eql_b, neq_b, not_b, by_bys, by_nils, load_cp1, beq_true, beq_false, Bool.not_eq_true', decide_eq_true_eq, decide_eq_false_iff_not, decide_true, decide_false,
 Int.toNat_natCast, Int.ofNat_lt, Int.ofNat_le, Int.natCast_inj, Bool.false_eq_true, Bool.true_eq_false, extPV, List.getElem?_cons_zero, List.getElem?_cons_succ, nilckPV, Int.reduceToNat, Int.reduceLE, true_and, and_true, reduceCtorEq, or_false, false_or, or_true, Option.some.injEq, exists_eq_left', Bool.not_true, Bool.not_false, ne_eq, Int.reduceEq, not_true_eq_false, not_false_eq_true, Int.reduceLT, UInt8.reduceLT, UInt8.reduceLE, UInt8.reduceToNat]
  obtain ⟨I, hI⟩ : ∃ I : Nat → Env → St → Prop, I = fun k e s' => ∃ (i : Nat), k = fs.length - i ∧ i ≤ fs.length ∧ Kept st s' ∧ e 1 = .str n ∧ e 6 = .str (getOf (fs.take i) n).1 ∧ e 7 = .int .i64 ((getOf (fs.take i) n).2 : Int) ∧ e 10 = x ∧ e 11 = .int .i64 (fs.length : Int) ∧ e 12 = .int .i64 (i : Int) := ⟨_, rfl⟩
  refine W_loop I ?_ (n := fs.length) (by
    rw [hI]
    exact ⟨0, rfl, by omega, Kept.start, rfl, rfl, rfl, rfl, rfl, rfl⟩)
  intro k e s' hh
  rw [hI] at hh
  obtain ⟨i, rfl, hi, hk, h1, h6, h7, h10, h11, h12⟩ := hh
  by_cases hlt : i < fs.length
  · obtain ⟨f, hfe⟩ : ∃ f, f = fs.getD i ([], []) := ⟨_, rfl⟩
    have hfm : f ∈ fs := by rw [hfe]; simp [List.getD, hlt]
    have hfo := hf f hfm
    have hg := getOf_snoc (fs := fs.take i) (f := f) (n := n)
    rw [hfe, ← take_getD' hlt, ← hfe] at hg
    have hle := getOf_le (fs := fs.take i) (n := n)
    have hle2 : (getOf (fs.take i) n).2 ≤ 1000000 := by simp at hle; omega
    have hnext : ∀ (E : Env) (S : St), Kept st S → E 1 = .str n → E 6 = .str (getOf (fs.take (i + 1)) n).1 → E 7 = .int .i64 ((getOf (fs.take (i + 1)) n).2 : Int) → E 10 = x → E 11 = .int .i64 (fs.length : Int) → E 12 = .int .i64 ((i + 1 : Nat) : Int) → I (fs.length - (i + 1)) E S := by
      intro E S k0 k1 k2 k3 k4 k5 k6
      rw [hI]; exact ⟨i + 1, rfl, by omega, k0, k1, k2, k3, k4, k5, k6⟩
    have hS : ∀ S : St, call prog (.fn 155 []) [.str f.1, .str n] S = some (.bool (decide (lowOf f.1 = lowOf n)), S) := fun S => Same_spec (by have := hfo.1; omega) hn
    by_cases hs : lowOf f.1 = lowOf n
    · rw [if_pos hs] at hg
      by_cases hz : (getOf (fs.take i) n).2 = 0
      · rw [if_pos hz] at hg
        simp (maxSteps := 1000000) (disch := omega) only [h1, h6, h7, h10, h11, h12, hlt, iaddr_f hx, ← hfe, load_f2, allocPV, store_f, faddrPV, Nat.add_zero, Nat.zero_add, load_b0, load_b1, hS, hs, hz, add_n, W_seq, W_region, W_cond, W_block, W_skip, W_label, W_exit, W_goto, W_ret, WO_cons, WO_consG, WO_nil, wantedA_eq, wantB, evOp, ev_tmp, ev_const, ev_fn, WN_some, WN_none, updO_some, updO_none, upd_eq,
 ↓reduceIte, Nat.reduceEqDiff, List.nil_append, List.cons_append, List.append_nil, List.map_cons, List.map_nil, env0_zero, env0_succ, env0_nil, Option.map_some, Option.map_none, seqQ_normal, seqQ_ret, seqQ_exit, seqQ_goto, blockQ_normal, blockQ_ret, blockQ_exit, blockQ_goto, condW_bool, loopQ_ret, loopQ_exit, loopQ_goto, endQ_ret, endQ_normal,
 lss_i, leq_i, gtr_i, geq_i, eql_i, neq_i, eql_8, neq_8, lss_8, leq_8, gtr_8, geq_8, eql_s, neq_s, eql_b, neq_b, not_b, by_bys, by_nils, load_cp1, beq_true, beq_false, Bool.not_eq_true', decide_eq_true_eq, decide_eq_false_iff_not, decide_true, decide_false,
 Int.toNat_natCast, Int.ofNat_lt, Int.ofNat_le, Int.natCast_inj, Bool.false_eq_true, Bool.true_eq_false, extPV, List.getElem?_cons_zero, List.getElem?_cons_succ, nilckPV, Int.reduceToNat, Int.reduceLE, true_and, and_true, reduceCtorEq, or_false, false_or, or_true, Option.some.injEq, exists_eq_left', Bool.not_true, Bool.not_false, ne_eq, Int.reduceEq, not_true_eq_false, not_false_eq_true, Int.reduceLT, UInt8.reduceLT, UInt8.reduceLE, UInt8.reduceToNat]
        rw [if_pos (by rfl)]
        exact loopQ_intro (m := fs.length - (i + 1)) (by omega) (hnext _ _ hk.alloc' h1 (by rw [hg]; rfl) (by rw [hg, hz]; rfl) h10 h11 rfl)
      · rw [if_neg hz] at hg
        have hz' : ¬ ((getOf (fs.take i) n).2 : Int) = 0 := by omega
        simp (maxSteps := 1000000) (disch := omega) only [h1, h6, h7, h10, h11, h12, hlt, iaddr_f hx, ← hfe, load_f2, allocPV, store_f, faddrPV, Nat.add_zero, Nat.zero_add, load_b0, load_b1, hS, hs, hz', add_n, W_seq, W_region, W_cond, W_block, W_skip, W_label, W_exit, W_goto, W_ret, WO_cons, WO_consG, WO_nil, wantedA_eq, wantB, evOp, ev_tmp, ev_const, ev_fn, WN_some, WN_none, updO_some, updO_none, upd_eq,
 ↓reduceIte, Nat.reduceEqDiff, List.nil_append, List.cons_append, List.append_nil, List.map_cons, List.map_nil, env0_zero, env0_succ, env0_nil, Option.map_some, Option.map_none, seqQ_normal, seqQ_ret, seqQ_exit, seqQ_goto, blockQ_normal, blockQ_ret, blockQ_exit, blockQ_goto, condW_bool, loopQ_ret, loopQ_exit, loopQ_goto, endQ_ret, endQ_normal,
 lss_i, leq_i, gtr_i, geq_i, eql_i, neq_i, eql_8, neq_8, lss_8, leq_8, gtr_8, geq_8, eql_s, neq_s, eql_b, neq_b, not_b, by_bys, by_nils, load_cp1, beq_true, beq_false, Bool.not_eq_true', decide_eq_true_eq, decide_eq_false_iff_not, decide_true, decide_false,
 Int.toNat_natCast, Int.ofNat_lt, Int.ofNat_le, Int.natCast_inj, Bool.false_eq_true, Bool.true_eq_false, extPV, List.getElem?_cons_zero, List.getElem?_cons_succ, nilckPV, Int.reduceToNat, Int.reduceLE, true_and, and_true, reduceCtorEq, or_false, false_or, or_true, Option.some.injEq, exists_eq_left', Bool.not_true, Bool.not_false, ne_eq, Int.reduceEq, not_true_eq_false, not_false_eq_true, Int.reduceLT, UInt8.reduceLT, UInt8.reduceLE, UInt8.reduceToNat]
        exact loopQ_intro (m := fs.length - (i + 1)) (by omega) (hnext _ _ hk.alloc' h1 (by rw [hg]; exact h6) (by rw [hg]; rfl) h10 h11 rfl)
    · rw [if_neg hs] at hg
      simp (maxSteps := 1000000) (disch := omega) only [h1, h6, h7, h10, h11, h12, hlt, iaddr_f hx, ← hfe, load_f2, allocPV, store_f, faddrPV, Nat.add_zero, Nat.zero_add, load_b0, load_b1, hS, hs, add_n, W_seq, W_region, W_cond, W_block, W_skip, W_label, W_exit, W_goto, W_ret, WO_cons, WO_consG, WO_nil, wantedA_eq, wantB, evOp, ev_tmp, ev_const, ev_fn, WN_some, WN_none, updO_some, updO_none, upd_eq,
 ↓reduceIte, Nat.reduceEqDiff, List.nil_append, List.cons_append, List.append_nil, List.map_cons, List.map_nil, env0_zero, env0_succ, env0_nil, Option.map_some, Option.map_none, seqQ_normal, seqQ_ret, seqQ_exit, seqQ_goto, blockQ_normal, blockQ_ret, blockQ_exit, blockQ_goto, condW_bool, loopQ_ret, loopQ_exit, loopQ_goto, endQ_ret, endQ_normal,
 lss_i, leq_i, gtr_i, geq_i, eql_i, neq_i, eql_8, neq_8, lss_8, leq_8, gtr_8, geq_8, eql_s, neq_s, eql_b, neq_b, not_b, by_bys, by_nils, load_cp1, beq_true, beq_false, Bool.not_eq_true', decide_eq_true_eq, decide_eq_false_iff_not, decide_true, decide_false,
 Int.toNat_natCast, Int.ofNat_lt, Int.ofNat_le, Int.natCast_inj, Bool.false_eq_true, Bool.true_eq_false, extPV, List.getElem?_cons_zero, List.getElem?_cons_succ, nilckPV, Int.reduceToNat, Int.reduceLE, true_and, and_true, reduceCtorEq, or_false, false_or, or_true, Option.some.injEq, exists_eq_left', Bool.not_true, Bool.not_false, ne_eq, Int.reduceEq, not_true_eq_false, not_false_eq_true, Int.reduceLT, UInt8.reduceLT, UInt8.reduceLE, UInt8.reduceToNat]
      exact loopQ_intro (m := fs.length - (i + 1)) (by omega) (hnext _ _ hk.alloc' h1 (by rw [hg]; exact h6) (by rw [hg]; exact h7) h10 h11 rfl)
  · obtain rfl : i = fs.length := by omega
    rw [List.take_length] at h6 h7
    simp (maxSteps := 1000000) (disch := omega) only [h1, h6, h7, h10, h11, h12, hlt, W_seq, W_region, W_cond, W_block, W_skip, W_label, W_exit, W_goto, W_ret, WO_cons, WO_consG, WO_nil, wantedA_eq, wantB, evOp, ev_tmp, ev_const, ev_fn, WN_some, WN_none, updO_some, updO_none, upd_eq,
 ↓reduceIte, Nat.reduceEqDiff, List.nil_append, List.cons_append, List.append_nil, List.map_cons, List.map_nil, env0_zero, env0_succ, env0_nil, Option.map_some, Option.map_none, seqQ_normal, seqQ_ret, seqQ_exit, seqQ_goto, blockQ_normal, blockQ_ret, blockQ_exit, blockQ_goto, condW_bool, loopQ_ret, loopQ_exit, loopQ_goto, endQ_ret, endQ_normal,
 lss_i, leq_i, gtr_i, geq_i, eql_i, neq_i, eql_8, neq_8, lss_8, leq_8, gtr_8, geq_8, eql_s, neq_s, eql_b, neq_b, not_b, by_bys, by_nils, load_cp1, beq_true, beq_false, Bool.not_eq_true', decide_eq_true_eq, decide_eq_false_iff_not, decide_true, decide_false,
 Int.toNat_natCast, Int.ofNat_lt, Int.ofNat_le, Int.natCast_inj, Bool.false_eq_true, Bool.true_eq_false, extPV, List.getElem?_cons_zero, List.getElem?_cons_succ, nilckPV, Int.reduceToNat, Int.reduceLE, true_and, and_true, reduceCtorEq, or_false, false_or, or_true, Option.some.injEq, exists_eq_left', Bool.not_true, Bool.not_false, ne_eq, Int.reduceEq, not_true_eq_false, not_false_eq_true, Int.reduceLT, UInt8.reduceLT, UInt8.reduceLE, UInt8.reduceToNat]
    exact ⟨getV (getOf fs n), rfl, hk.leave rfl (fun _ _ => rfl)⟩

theorem Great_spec {x : PV} {fs : List Fld} (hx : x.vs 2 = some (fs.map fV)) (hm : ∀ f ∈ fs, f.1.length ≤ 9223372036854775807 ∧ f.2.length ≤ 9223372036854775807) (hl : fs.length ≤ 9223372036854775807) : ∃ g, call prog (.fn 143 []) [x] st = some (.bool g, st) ∧ (g = false → fs.length ≤ 200 ∧ ∀ f ∈ fs, okF f) := by
  have hlen := len_vs hx
  rw [List.length_map] at hlen
  by_cases h2 : 200 < fs.length
  · refine ⟨true, call_of_W prog_143 ?_, fun h => (by cases h)⟩
    unfold F_posthornlaw06_Great; dsimp only
    have h2' : (200 : Int) < (fs.length : Int) := by omega
    simp (maxSteps := 1000000) (disch := omega) only [hlen, h2', W_seq, W_region, W_cond, W_block, W_skip, W_label, W_exit, W_goto, W_ret, WO_cons, WO_consG, WO_nil, wantedA_eq, wantB, evOp, ev_tmp, ev_const, ev_fn, WN_some, WN_none, updO_some, updO_none, upd_eq,
 ↓reduceIte, Nat.reduceEqDiff, List.nil_append, List.cons_append, List.append_nil, List.map_cons, List.map_nil, env0_zero, env0_succ, env0_nil, Option.map_some, Option.map_none, seqQ_normal, seqQ_ret, seqQ_exit, seqQ_goto, blockQ_normal, blockQ_ret, blockQ_exit, blockQ_goto, condW_bool, loopQ_ret, loopQ_exit, loopQ_goto, endQ_ret, endQ_normal,
 lss_i, leq_i, gtr_i, geq_i, eql_i, neq_i, eql_8, neq_8, lss_8, leq_8, gtr_8, geq_8, eql_s, neq_s, eql_b, neq_b, not_b, by_bys, by_nils, load_cp1, beq_true, beq_false, Bool.not_eq_true', decide_eq_true_eq, decide_eq_false_iff_not, decide_true, decide_false,
 Int.toNat_natCast, Int.ofNat_lt, Int.ofNat_le, Int.natCast_inj, Bool.false_eq_true, Bool.true_eq_false, extPV, List.getElem?_cons_zero, List.getElem?_cons_succ, nilckPV, Int.reduceToNat, Int.reduceLE, true_and, and_true, reduceCtorEq, or_false, false_or, or_true, Option.some.injEq, exists_eq_left', Bool.not_true, Bool.not_false, ne_eq, Int.reduceEq, not_true_eq_false, not_false_eq_true, Int.reduceLT, UInt8.reduceLT, UInt8.reduceLE, UInt8.reduceToNat]
    exact end1 rfl Kp_bool
  by_cases hall : ∀ i, i < fs.length → okF (fs.getD i ([], [])) ∧ (20 < i → (fs.getD i ([], [])).2.length ≤ 100)
  · refine ⟨false, call_of_W prog_143 ?_, fun _ => ⟨by omega, fun f hf => ?_⟩⟩
    · unfold F_posthornlaw06_Great; dsimp only
      have h2' : ¬ (200 : Int) < (fs.length : Int) := by omega
      simp (maxSteps := 1000000) (disch := omega) only [hlen, h2', W_seq, W_region, W_cond, W_block, W_skip, W_label, W_exit, W_goto, W_ret, WO_cons, WO_consG, WO_nil, wantedA_eq, wantB, evOp, ev_tmp, ev_const, ev_fn, WN_some, WN_none, updO_some, updO_none, upd_eq,
 ↓reduceIte, Nat.reduceEqDiff, List.nil_append, List.cons_append, List.append_nil, List.map_cons, List.map_nil, env0_zero, env0_succ, env0_nil, Option.map_some, Option.map_none, seqQ_normal, seqQ_ret, seqQ_exit, seqQ_goto, blockQ_normal, blockQ_ret, blockQ_exit, blockQ_goto, condW_bool, loopQ_ret, loopQ_exit, loopQ_goto, endQ_ret, endQ_normal,
 lss_i, leq_i, gtr_i, geq_i, eql_i, neq_i, eql_8, neq_8, lss_8, leq_8, gtr_8, geq_8, eql_s, neq_s, eql_b, neq_b, not_b, by_bys, by_nils, load_cp1, beq_true, beq_false, Bool.not_eq_true', decide_eq_true_eq, decide_eq_false_iff_not, decide_true, decide_false,
 Int.toNat_natCast, Int.ofNat_lt, Int.ofNat_le, Int.natCast_inj, Bool.false_eq_true, Bool.true_eq_false, extPV, List.getElem?_cons_zero, List.getElem?_cons_succ, nilckPV, Int.reduceToNat, Int.reduceLE, true_and, and_true, reduceCtorEq, or_false, false_or, or_true, Option.some.injEq, exists_eq_left', Bool.not_true, Bool.not_false, ne_eq, Int.reduceEq, not_true_eq_false, not_false_eq_true, Int.reduceLT, UInt8.reduceLT, UInt8.reduceLE, UInt8.reduceToNat]
      obtain ⟨I, hI⟩ : ∃ I : Nat → Env → St → Prop, I = fun k e s' => ∃ (i : Nat), k = fs.length - i ∧ i ≤ fs.length ∧ Kept st s' ∧ e 0 = x ∧ e 3 = .int .i64 (i : Int) := ⟨_, rfl⟩
      refine W_loop I ?_ (n := fs.length) (by
        rw [hI]
        exact ⟨0, rfl, by omega, Kept.start, rfl, rfl⟩)
      intro k e s' hh
      rw [hI] at hh
      obtain ⟨i, rfl, hi, hk, h0, h3⟩ := hh
      by_cases hlt : i < fs.length
      · obtain ⟨⟨q1, q2⟩, q3⟩ := hall i hlt
        obtain ⟨f, hfe⟩ : ∃ f, f = fs.getD i ([], []) := ⟨_, rfl⟩
        rw [← hfe] at q1 q2 q3
        have e1 : ¬ (200 : Int) < (f.1.length : Int) := by omega
        have e2 : ¬ (5000 : Int) < (f.2.length : Int) := by omega
        have hnext : ∀ (E : Env), E 0 = x → E 3 = .int .i64 ((i + 1 : Nat) : Int) → I (fs.length - (i + 1)) E s' := by
          intro E k1 k2
          rw [hI]; exact ⟨i + 1, rfl, by omega, hk, k1, k2⟩
        by_cases h20 : 20 < i
        · have e3 : (20 : Int) < (i : Int) := by omega
          have e4 : ¬ (100 : Int) < (f.2.length : Int) := by have := q3 h20; omega
          simp (maxSteps := 1000000) (disch := omega) only [h0, h3, hlen, hlt, iaddr_f hx, ← hfe, fa_cp, load_cp0, load_cp1', len_s, e1, e2, e3, e4, add_n, W_seq, W_region, W_cond, W_block, W_skip, W_label, W_exit, W_goto, W_ret, WO_cons, WO_consG, WO_nil, wantedA_eq, wantB, evOp, ev_tmp, ev_const, ev_fn, WN_some, WN_none, updO_some, updO_none, upd_eq,
 ↓reduceIte, Nat.reduceEqDiff, List.nil_append, List.cons_append, List.append_nil, List.map_cons, List.map_nil, env0_zero, env0_succ, env0_nil, Option.map_some, Option.map_none, seqQ_normal, seqQ_ret, seqQ_exit, seqQ_goto, blockQ_normal, blockQ_ret, blockQ_exit, blockQ_goto, condW_bool, loopQ_ret, loopQ_exit, loopQ_goto, endQ_ret, endQ_normal,
 lss_i, leq_i, gtr_i, geq_i, eql_i, neq_i, eql_8, neq_8, lss_8, leq_8, gtr_8, geq_8, eql_s, neq_s, eql_b, neq_b, not_b, by_bys, by_nils, load_cp1, beq_true, beq_false, Bool.not_eq_true', decide_eq_true_eq, decide_eq_false_iff_not, decide_true, decide_false,
 Int.toNat_natCast, Int.ofNat_lt, Int.ofNat_le, Int.natCast_inj, Bool.false_eq_true, Bool.true_eq_false, extPV, List.getElem?_cons_zero, List.getElem?_cons_succ, nilckPV, Int.reduceToNat, Int.reduceLE, true_and, and_true, reduceCtorEq, or_false, false_or, or_true, Option.some.injEq, exists_eq_left', Bool.not_true, Bool.not_false, ne_eq, Int.reduceEq, not_true_eq_false, not_false_eq_true, Int.reduceLT, UInt8.reduceLT, UInt8.reduceLE, UInt8.reduceToNat]
          exact loopQ_intro (m := fs.length - (i + 1)) (by omega) (hnext _ h0 rfl)
        · have e3 : ¬ (20 : Int) < (i : Int) := by omega
          simp (maxSteps := 1000000) (disch := omega) only [h0, h3, hlen, hlt, iaddr_f hx, ← hfe, fa_cp, load_cp0, load_cp1', len_s, e1, e2, e3, add_n, W_seq, W_region, W_cond, W_block, W_skip, W_label, W_exit, W_goto, W_ret, WO_cons, WO_consG, WO_nil, wantedA_eq, wantB, evOp, ev_tmp, ev_const, ev_fn, WN_some, WN_none, updO_some, updO_none, upd_eq,
 ↓reduceIte, Nat.reduceEqDiff, List.nil_append, List.cons_append, List.append_nil, List.map_cons, List.map_nil, env0_zero, env0_succ, env0_nil, Option.map_some, Option.map_none, seqQ_normal, seqQ_ret, seqQ_exit, seqQ_goto, blockQ_normal, blockQ_ret, blockQ_exit, blockQ_goto, condW_bool, loopQ_ret, loopQ_exit, loopQ_goto, endQ_ret, endQ_normal,
 lss_i, leq_i, gtr_i, geq_i, eql_i, neq_i, eql_8, neq_8, lss_8, leq_8, gtr_8, geq_8, eql_s, neq_s, eql_b, neq_b, not_b, by_bys, by_nils, load_cp1, beq_true, beq_false, Bool.not_eq_true', decide_eq_true_eq, decide_eq_false_iff_not, decide_true, decide_false,
 Int.toNat_natCast, Int.ofNat_lt, Int.ofNat_le, Int.natCast_inj, Bool.false_eq_true, Bool.true_eq_false, extPV, List.getElem?_cons_zero, List.getElem?_cons_succ, nilckPV, Int.reduceToNat, Int.reduceLE, true_and, and_true, reduceCtorEq, or_false, false_or, or_true, Option.some.injEq, exists_eq_left', Bool.not_true, Bool.not_false, ne_eq, Int.reduceEq, not_true_eq_false, not_false_eq_true, Int.reduceLT, UInt8.reduceLT, UInt8.reduceLE, UInt8.reduceToNat]
          exact loopQ_intro (m := fs.length - (i + 1)) (by omega) (hnext _ h0 rfl)
      · obtain rfl : i = fs.length := by omega
        simp (maxSteps := 1000000) (disch := omega) only [h0, h3, hlen, hlt, W_seq, W_region, W_cond, W_block, W_skip, W_label, W_exit, W_goto, W_ret, WO_cons, WO_consG, WO_nil, wantedA_eq, wantB, evOp, ev_tmp, ev_const, ev_fn, WN_some, WN_none, updO_some, updO_none, upd_eq,
 ↓reduceIte, Nat.reduceEqDiff, List.nil_append, List.cons_append, List.append_nil, List.map_cons, List.map_nil, env0_zero, env0_succ, env0_nil, Option.map_some, Option.map_none, seqQ_normal, seqQ_ret, seqQ_exit, seqQ_goto, blockQ_normal, blockQ_ret, blockQ_exit, blockQ_goto, condW_bool, loopQ_ret, loopQ_exit, loopQ_goto, endQ_ret, endQ_normal,
 lss_i, leq_i, gtr_i, geq_i, eql_i, neq_i, eql_8, neq_8, lss_8, leq_8, gtr_8, geq_8, eql_s, neq_s, eql_b, neq_b, not_b, by_bys, by_nils, load_cp1, beq_true, beq_false, Bool.not_eq_true', decide_eq_true_eq, decide_eq_false_iff_not, decide_true, decide_false,
 Int.toNat_natCast, Int.ofNat_lt, Int.ofNat_le, Int.natCast_inj, Bool.false_eq_true, Bool.true_eq_false, extPV, List.getElem?_cons_zero, List.getElem?_cons_succ, nilckPV, Int.reduceToNat, Int.reduceLE, true_and, and_true, reduceCtorEq, or_false, false_or, or_true, Option.some.injEq, exists_eq_left', Bool.not_true, Bool.not_false, ne_eq, Int.reduceEq, not_true_eq_false, not_false_eq_true, Int.reduceLT, UInt8.reduceLT, UInt8.reduceLE, UInt8.reduceToNat]
        exact ⟨.bool false, rfl, hk.leave rfl (fun _ _ => rfl)⟩
    · obtain ⟨i, hi, rfl⟩ := List.mem_iff_getElem.1 hf
      have := (hall i hi).1
      simpa [List.getD, hi] using this
  · refine ⟨true, call_of_W prog_143 ?_, fun h => (by cases h)⟩
    -- the first that is too big
    have hex : ∃ j, j < fs.length ∧ ¬ (okF (fs.getD j ([], [])) ∧ (20 < j → (fs.getD j ([], [])).2.length ≤ 100)) := by
      rcases Classical.not_forall.1 hall with ⟨j, hj⟩
      rcases Classical.not_imp.1 hj with ⟨h1, h2⟩
      exact ⟨j, h1, h2⟩
    obtain ⟨j, hj, hbad⟩ := hex
    unfold F_posthornlaw06_Great; dsimp only
    have h2' : ¬ (200 : Int) < (fs.length : Int) := by omega
    simp (maxSteps := 1000000) (disch := omega) only [hlen, h2', W_seq, W_region, W_cond, W_block, W_skip, W_label, W_exit, W_goto, W_ret, WO_cons, WO_consG, WO_nil, wantedA_eq, wantB, evOp, ev_tmp, ev_const, ev_fn, WN_some, WN_none, updO_some, updO_none, upd_eq,
 ↓reduceIte, Nat.reduceEqDiff, List.nil_append, List.cons_append, List.append_nil, List.map_cons, List.map_nil, env0_zero, env0_succ, env0_nil, Option.map_some, Option.map_none, seqQ_normal, seqQ_ret, seqQ_exit, seqQ_goto, blockQ_normal, blockQ_ret, blockQ_exit, blockQ_goto, condW_bool, loopQ_ret, loopQ_exit, loopQ_goto, endQ_ret, endQ_normal,
 lss_i, leq_i, gtr_i, geq_i, eql_i, neq_i, eql_8, neq_8, lss_8, leq_8, gtr_8, geq_8, eql_s, neq_s, eql_b, neq_b, not_b, by_bys, by_nils, load_cp1, beq_true, beq_false, Bool.not_eq_true', decide_eq_true_eq, decide_eq_false_iff_not, decide_true, decide_false,
 Int.toNat_natCast, Int.ofNat_lt, Int.ofNat_le, Int.natCast_inj, Bool.false_eq_true, Bool.true_eq_false, extPV, List.getElem?_cons_zero, List.getElem?_cons_succ, nilckPV, Int.reduceToNat, Int.reduceLE, true_and, and_true, reduceCtorEq, or_false, false_or, or_true, Option.some.injEq, exists_eq_left', Bool.not_true, Bool.not_false, ne_eq, Int.reduceEq, not_true_eq_false, not_false_eq_true, Int.reduceLT, UInt8.reduceLT, UInt8.reduceLE, UInt8.reduceToNat]
    obtain ⟨I, hI⟩ : ∃ I : Nat → Env → St → Prop, I = fun k e s' => ∃ (i : Nat), k = fs.length - i ∧ i ≤ j ∧ Kept st s' ∧ e 0 = x ∧ e 3 = .int .i64 (i : Int) := ⟨_, rfl⟩
    refine W_loop I ?_ (n := fs.length) (by
      rw [hI]
      exact ⟨0, rfl, by omega, Kept.start, rfl, rfl⟩)
    intro k e s' hh
    rw [hI] at hh
    obtain ⟨i, rfl, hi, hk, h0, h3⟩ := hh
    have hlt : i < fs.length := by omega
    obtain ⟨f, hfe⟩ : ∃ f, f = fs.getD i ([], []) := ⟨_, rfl⟩
    have hnext : (okF f ∧ (20 < i → f.2.length ≤ 100)) → ∀ (E : Env), E 0 = x → E 3 = .int .i64 ((i + 1 : Nat) : Int) → I (fs.length - (i + 1)) E s' := by
      intro hok E k1 k2
      have : i ≠ j := by rintro rfl; rw [← hfe] at hbad; exact hbad hok
      rw [hI]; exact ⟨i + 1, rfl, by omega, hk, k1, k2⟩
    have fin : ∀ (E : Env), E 2 = .bool true → ∃ rv, resOf E s' [.tmp 2] = some rv ∧ leave st s' rv = (.bool true, st) := fun E h => ⟨.bool true, by simp [resOf, rvAll, rv1, h, notTup, packRes], hk.leave rfl (fun _ _ => rfl)⟩
    by_cases q1 : 200 < f.1.length
    · have e1 : (200 : Int) < (f.1.length : Int) := by omega
      simp (maxSteps := 1000000) (disch := omega) only [h0, h3, hlen, hlt, iaddr_f hx, ← hfe, fa_cp, load_cp0, load_cp1', len_s, e1, add_n, W_seq, W_region, W_cond, W_block, W_skip, W_label, W_exit, W_goto, W_ret, WO_cons, WO_consG, WO_nil, wantedA_eq, wantB, evOp, ev_tmp, ev_const, ev_fn, WN_some, WN_none, updO_some, updO_none, upd_eq,
 ↓reduceIte, Nat.reduceEqDiff, List.nil_append, List.cons_append, List.append_nil, List.map_cons, List.map_nil, env0_zero, env0_succ, env0_nil, Option.map_some, Option.map_none, seqQ_normal, seqQ_ret, seqQ_exit, seqQ_goto, blockQ_normal, blockQ_ret, blockQ_exit, blockQ_goto, condW_bool, loopQ_ret, loopQ_exit, loopQ_goto, endQ_ret, endQ_normal,
 lss_i, leq_i, gtr_i, geq_i, eql_i, neq_i, eql_8, neq_8, lss_8, leq_8, gtr_8, geq_8, eql_s, neq_s, eql_b, neq_b, not_b, by_bys, by_nils, load_cp1, beq_true, beq_false, Bool.not_eq_true', decide_eq_true_eq, decide_eq_false_iff_not, decide_true, decide_false,
 Int.toNat_natCast, Int.ofNat_lt, Int.ofNat_le, Int.natCast_inj, Bool.false_eq_true, Bool.true_eq_false, extPV, List.getElem?_cons_zero, List.getElem?_cons_succ, nilckPV, Int.reduceToNat, Int.reduceLE, true_and, and_true, reduceCtorEq, or_false, false_or, or_true, Option.some.injEq, exists_eq_left', Bool.not_true, Bool.not_false, ne_eq, Int.reduceEq, not_true_eq_false, not_false_eq_true, Int.reduceLT, UInt8.reduceLT, UInt8.reduceLE, UInt8.reduceToNat]
      exact fin _ rfl
    have e1 : ¬ (200 : Int) < (f.1.length : Int) := by omega
    by_cases q2 : 5000 < f.2.length
    · have e2 : (5000 : Int) < (f.2.length : Int) := by omega
      simp (maxSteps := 1000000) (disch := omega) only [h0, h3, hlen, hlt, iaddr_f hx, ← hfe, fa_cp, load_cp0, load_cp1', len_s, e1, e2, add_n, W_seq, W_region, W_cond, W_block, W_skip, W_label, W_exit, W_goto, W_ret, WO_cons, WO_consG, WO_nil, wantedA_eq, wantB, evOp, ev_tmp, ev_const, ev_fn, WN_some, WN_none, updO_some, updO_none, upd_eq,
 ↓reduceIte, Nat.reduceEqDiff, List.nil_append, List.cons_append, List.append_nil, List.map_cons, List.map_nil, env0_zero, env0_succ, env0_nil, Option.map_some, Option.map_none, seqQ_normal, seqQ_ret, seqQ_exit, seqQ_goto, blockQ_normal, blockQ_ret, blockQ_exit, blockQ_goto, condW_bool, loopQ_ret, loopQ_exit, loopQ_goto, endQ_ret, endQ_normal,
 lss_i, leq_i, gtr_i, geq_i, eql_i, neq_i, eql_8, neq_8, lss_8, leq_8, gtr_8, geq_8, eql_s, neq_s, eql_b, neq_b, not_b, by_bys, by_nils, load_cp1, beq_true, beq_false, Bool.not_eq_true', decide_eq_true_eq, decide_eq_false_iff_not, decide_true, decide_false,
 Int.toNat_natCast, Int.ofNat_lt, Int.ofNat_le, Int.natCast_inj, Bool.false_eq_true, Bool.true_eq_false, extPV, List.getElem?_cons_zero, List.getElem?_cons_succ, nilckPV, Int.reduceToNat, Int.reduceLE, true_and, and_true, reduceCtorEq, or_false, false_or, or_true, Option.some.injEq, exists_eq_left', Bool.not_true, Bool.not_false, ne_eq, Int.reduceEq, not_true_eq_false, not_false_eq_true, Int.reduceLT, UInt8.reduceLT, UInt8.reduceLE, UInt8.reduceToNat]
      exact fin _ rfl
    have e2 : ¬ (5000 : Int) < (f.2.length : Int) := by omega
    by_cases h20 : 20 < i
    · have e3 : (20 : Int) < (i : Int) := by omega
      by_cases q4 : 100 < f.2.length
      · have e4 : (100 : Int) < (f.2.length : Int) := by omega
        simp (maxSteps := 1000000) (disch := omega) only [h0, h3, hlen, hlt, iaddr_f hx, ← hfe, fa_cp, load_cp0, load_cp1', len_s, e1, e2, e3, e4, add_n, W_seq, W_region, W_cond, W_block, W_skip, W_label, W_exit, W_goto, W_ret, WO_cons, WO_consG, WO_nil, wantedA_eq, wantB, evOp, ev_tmp, ev_const, ev_fn, WN_some, WN_none, updO_some, updO_none, upd_eq,
 ↓reduceIte, Nat.reduceEqDiff, List.nil_append, List.cons_append, List.append_nil, List.map_cons, List.map_nil, env0_zero, env0_succ, env0_nil, Option.map_some, Option.map_none, seqQ_normal, seqQ_ret, seqQ_exit, seqQ_goto, blockQ_normal, blockQ_ret, blockQ_exit, blockQ_goto, condW_bool, loopQ_ret, loopQ_exit, loopQ_goto, endQ_ret, endQ_normal,
 lss_i, leq_i, gtr_i, geq_i, eql_i, neq_i, eql_8, neq_8, lss_8, leq_8, gtr_8, geq_8, eql_s, neq_s, eql_b, neq_b, not_b, by_bys, by_nils, load_cp1, beq_true, beq_false, Bool.not_eq_true', decide_eq_true_eq, decide_eq_false_iff_not, decide_true, decide_false,
 Int.toNat_natCast, Int.ofNat_lt, Int.ofNat_le, Int.natCast_inj, Bool.false_eq_true, Bool.true_eq_false, extPV, List.getElem?_cons_zero, List.getElem?_cons_succ, nilckPV, Int.reduceToNat, Int.reduceLE, true_and, and_true, reduceCtorEq, or_false, false_or, or_true, Option.some.injEq, exists_eq_left', Bool.not_true, Bool.not_false, ne_eq, Int.reduceEq, not_true_eq_false, not_false_eq_true, Int.reduceLT, UInt8.reduceLT, UInt8.reduceLE, UInt8.reduceToNat]
        exact fin _ rfl
      · have e4 : ¬ (100 : Int) < (f.2.length : Int) := by omega
        simp (maxSteps := 1000000) (disch := omega) only [h0, h3, hlen, hlt, iaddr_f hx, ← hfe, fa_cp, load_cp0, load_cp1', len_s, e1, e2, e3, e4, add_n, W_seq, W_region, W_cond, W_block, W_skip, W_label, W_exit, W_goto, W_ret, WO_cons, WO_consG, WO_nil, wantedA_eq, wantB, evOp, ev_tmp, ev_const, ev_fn, WN_some, WN_none, updO_some, updO_none, upd_eq,
 ↓reduceIte, Nat.reduceEqDiff, List.nil_append, List.cons_append, List.append_nil, List.map_cons, List.map_nil, env0_zero, env0_succ, env0_nil, Option.map_some, Option.map_none, seqQ_normal, seqQ_ret, seqQ_exit, seqQ_goto, blockQ_normal, blockQ_ret, blockQ_exit, blockQ_goto, condW_bool, loopQ_ret, loopQ_exit, loopQ_goto, endQ_ret, endQ_normal,
 lss_i, leq_i, gtr_i, geq_i, eql_i, neq_i, eql_8, neq_8, lss_8, leq_8, gtr_8, geq_8, eql_s, neq_s, eql_b, neq_b, not_b, by_bys, by_nils, load_cp1, beq_true, beq_false, Bool.not_eq_true', decide_eq_true_eq, decide_eq_false_iff_not, decide_true, decide_false,
 Int.toNat_natCast, Int.ofNat_lt, Int.ofNat_le, Int.natCast_inj, Bool.false_eq_true, Bool.true_eq_false, extPV, List.getElem?_cons_zero, List.getElem?_cons_succ, nilckPV, Int.reduceToNat, Int.reduceLE, true_and, and_true, reduceCtorEq, or_false, false_or, or_true, Option.some.injEq, exists_eq_left', Bool.not_true, Bool.not_false, ne_eq, Int.reduceEq, not_true_eq_false, not_false_eq_true, Int.reduceLT, UInt8.reduceLT, UInt8.reduceLE, UInt8.reduceToNat]
        exact loopQ_intro (m := fs.length - (i + 1)) (by omega) (hnext ⟨⟨by omega, by omega⟩, fun _ => by omega⟩ _ h0 rfl)
    · have e3 : ¬ (20 : Int) < (i : Int) := by omega
      simp (maxSteps := 1000000) (disch := omega) only [h0, h3, hlen, hlt, iaddr_f hx, ← hfe, fa_cp, load_cp0, load_cp1', len_s, e1, e2, e3, add_n, W_seq, W_region, W_cond, W_block, W_skip, W_label, W_exit, W_goto, W_ret, WO_cons, WO_consG, WO_nil, wantedA_eq, wantB, evOp, ev_tmp, ev_const, ev_fn, WN_some, WN_none, updO_some, updO_none, upd_eq,
 ↓reduceIte, Nat.reduceEqDiff, List.nil_append, List.cons_append, List.append_nil, List.map_cons, List.map_nil, env0_zero, env0_succ, env0_nil, Option.map_some, Option.map_none, seqQ_normal, seqQ_ret, seqQ_exit, seqQ_goto, blockQ_normal, blockQ_ret, blockQ_exit, blockQ_goto, condW_bool, loopQ_ret, loopQ_exit, loopQ_goto, endQ_ret, endQ_normal,
 lss_i, leq_i, gtr_i, geq_i, eql_i, neq_i, eql_8, neq_8, lss_8, leq_8, gtr_8, geq_8, eql_s, neq_s, eql_b, neq_b, not_b, by_bys, by_nils, load_cp1, beq_true, beq_false, Bool.not_eq_true', decide_eq_true_eq, decide_eq_false_iff_not, decide_true, decide_false,
 Int.toNat_natCast, Int.ofNat_lt, Int.ofNat_le, Int.natCast_inj, Bool.false_eq_true, Bool.true_eq_false, extPV, List.getElem?_cons_zero, List.getElem?_cons_succ, nilckPV, Int.reduceToNat, Int.reduceLE, true_and, and_true, reduceCtorEq, or_false, false_or, or_true, Option.some.injEq, exists_eq_left', Bool.not_true, Bool.not_false, ne_eq, Int.reduceEq, not_true_eq_false, not_false_eq_true, Int.reduceLT, UInt8.reduceLT, UInt8.reduceLE, UInt8.reduceToNat]
      exact loopQ_intro (m := fs.length - (i + 1)) (by omega) (hnext ⟨⟨by omega, by omega⟩, fun h => absurd h h20⟩ _ h0 rfl)
end Go.Ab

/-
  The law FieldsNames.
-/
namespace Go.Ab
set_option linter.unusedVariables false
set_option linter.unusedSimpArgs false
variable {st s : St} {e : Env}

/-- A struct of so many texts. -/
def strsT (P : Program) (t : TypeId) (n : Nat) : Bool := match fieldsT P t with
  | some fs => fs.toList.map (fun f => isStrT P f.type) == List.replicate n true
  | none => false
theorem HasTy.fld {P : Program} {t : TypeId} {q : PV} (h : HasTy P t q) (hs0 : strsT P t 2 = true) : ∃ f : Fld, q = fV f ∧ f.1.length ≤ maxLen ∧ f.2.length ≤ maxLen := by
  unfold strsT fieldsT at hs0
  obtain ⟨fs, ht⟩ : ∃ fs, P.underlying t = some (.struct fs) := by
    cases ht : P.underlying t with
    | none => simp [ht] at hs0
    | some d => cases d <;> first | exact ⟨_, rfl⟩ | (simp [ht] at hs0; done)
  simp only [ht, beq_iff_eq] at hs0
  obtain ⟨fl⟩ := fs
  have hlen : fl.length = 2 := by simpa using congrArg List.length hs0
  match fl, hlen, hs0 with
  | [f0, f1], _, hs0 =>
    simp only [List.map_cons, List.map_nil, List.replicate_succ, List.replicate_zero, List.cons.injEq, and_true] at hs0
    have hs := And.intro (isStrT_eq hs0.1) (isStrT_eq hs0.2)
    cases h with
    | agg xs ht' hl hx =>
      rw [ht] at ht'; cases ht'
      match xs, hl with
      | [x0, x1], _ =>
        obtain ⟨a, rfl, ha⟩ := HasTy.str' (hx 0 f0 x0 rfl rfl) hs.1
        obtain ⟨b, rfl, hb⟩ := HasTy.str' (hx 1 f1 x1 rfl rfl) hs.2
        exact ⟨(a, b), rfl, ha, hb⟩
    | bool _ ht' => rw [ht] at ht'; cases ht'
    | int _ ht' => rw [ht] at ht'; cases ht'
    | u8 _ ht' => rw [ht] at ht'; cases ht'
    | str _ ht' => rw [ht] at ht'; cases ht'
    | nils ht' => rw [ht] at ht'; cases ht'
    | bys _ ht' => rw [ht] at ht'; cases ht'
    | sl _ ht' => rw [ht] at ht'; cases ht'

theorem HasTy.flds {P : Program} {t e : TypeId} {q : PV} (h : HasTy P t q) (ht : P.underlying t = some (.slice e)) (hc : P.cellsOf e = 2) (hs : strsT P e 2 = true) :
    ∃ l : List Fld, q.vs 2 = some (l.map fV) ∧ (∀ f ∈ l, f.1.length ≤ maxLen ∧ f.2.length ≤ maxLen) ∧ l.length ≤ maxLen := by
  cases h with
  | nils ht' => exact ⟨[], rfl, fun f h => (by cases h), by simp⟩
  | bys _ ht' he' => rw [ht] at ht'; cases ht'; simp [strsT, fieldsT, he'] at hs
  | sl xs ht' he' hl hx =>
    rw [ht] at ht'; cases ht'
    have : ∀ xs : List PV, (∀ x ∈ xs, HasTy P e x) → ∃ l : List Fld, xs = l.map fV ∧ ∀ f ∈ l, f.1.length ≤ maxLen ∧ f.2.length ≤ maxLen := by
      intro xs
      induction xs with
      | nil => intro _; exact ⟨[], rfl, fun f h => (by cases h)⟩
      | cons x r ih =>
        intro hx
        obtain ⟨f, rfl, hf⟩ := HasTy.fld (hx x (by simp)) hs
        obtain ⟨l, rfl, hl⟩ := ih (fun y hy => hx y (by simp [hy]))
        refine ⟨f :: l, rfl, fun g hg => ?_⟩
        rcases List.mem_cons.1 hg with rfl | hg
        · exact hf
        · exact hl g hg
    obtain ⟨l, rfl, hl2⟩ := this xs hx
    exact ⟨l, by simp [PV.vs, hc], hl2, by simpa using hl⟩
  | bool _ ht' => rw [ht] at ht'; cases ht'
  | int _ ht' => rw [ht] at ht'; cases ht'
  | u8 _ ht' => rw [ht] at ht'; cases ht'
  | str _ ht' => rw [ht] at ht'; cases ht'
  | agg _ ht' => rw [ht] at ht'; cases ht'

theorem al06_0 {a b : List UInt8} : call prog (.fn 144 []) [] ⟨[[.str a, .str b]], [], [], 0⟩ = some (.bool true, ⟨[[.str a, .str b]], [], [], 0⟩) := call_of alive06_0
theorem al06_1 {a b : List UInt8} : call prog (.fn 144 []) [] ⟨[[.str a, .str b]], [true], [], 0⟩ = some (.bool true, ⟨[[.str a, .str b]], [true], [], 0⟩) := call_of alive06_1
theorem al06_3 {a b : List UInt8} : call prog (.fn 144 []) [] ⟨[[.str a, .str b]], [true, true, true], [], 0⟩ = some (.bool true, ⟨[[.str a, .str b]], [true, true, true], [], 0⟩) := call_of alive06_3
theorem al06_4 {a b : List UInt8} : call prog (.fn 144 []) [] ⟨[[.str a, .str b]], [true, false, true, true], [], 0⟩ = some (.bool true, ⟨[[.str a, .str b]], [true, false, true, true], [], 0⟩) := call_of alive06_4

theorem inB_f {n : Nat} {a b : List UInt8} : (PV.agg [.str a, .str b]).inB n = true := rfl
theorem cells_ag {cs : List PV} : (PV.agg cs).cells = cs := rfl
theorem leaf_f {a b : List UInt8} : [PV.str a, PV.str b].all leafOk = true := rfl
theorem load_f {T : List Bool} {L : List LoopS} {lo : Nat} {a b : List UInt8} : loadPV ⟨[[.str a, .str b]], T, L, lo⟩ true 2 (.ptr 0 0) = some (.agg [.str a, .str b]) := by
  simp [loadPV, readCells]
theorem load_fa {T : List Bool} {L : List LoopS} {lo : Nat} {a b : List UInt8} : loadPV ⟨[[.str a, .str b]], T, L, lo⟩ false 1 (.ptr 0 0) = some (.str a) := rfl
theorem load_fb {T : List Bool} {L : List LoopS} {lo : Nat} {a b : List UInt8} : loadPV ⟨[[.str a, .str b]], T, L, lo⟩ false 1 (.ptr 0 1) = some (.str b) := rfl
theorem litf {a b : List UInt8} : litFill 2 (List.replicate 1 (.agg [.str [], .str []])) [(0, .agg [.str a, .str b])] = some [.agg [.str a, .str b]] := by
  simp [litFill, strip, stripAll, stripLeaf, PV.cells]

/-- Letters that are alike but for their size. -/
theorem low_or {c d : UInt8} (h : c ||| 32 = d ||| 32) (h1 : 97 ≤ c ||| 32) (h2 : c ||| 32 ≤ 122) : lowC c = lowC d := by
  have key : ∀ n : Fin 256, (97 : UInt8) ≤ UInt8.ofNat n.val ||| 32 → UInt8.ofNat n.val ||| 32 ≤ 122 → lowC (UInt8.ofNat n.val) = UInt8.ofNat n.val ||| 32 := by decide +kernel
  have hc := key ⟨c.toNat, c.toNat_lt⟩
  have hd := key ⟨d.toNat, d.toNat_lt⟩
  simp only [UInt8.ofNat_toNat] at hc hd
  rw [hc h1 h2, hd (by rw [← h]; exact h1) (by rw [← h]; exact h2), h]

theorem low_eq : ∀ {s t : List UInt8}, s.length = t.length → (∀ i, i < s.length → lowC (s.getD i 0) = lowC (t.getD i 0)) → lowOf s = lowOf t := by
  intro s t hl h
  apply List.ext_getElem
  · simp [lowOf, hl]
  · intro i h1 h2
    simp only [lowOf, List.length_map] at h1 h2
    have := h i h1
    simpa [lowOf, List.getD, h1, h2] using this

theorem srcV_vs {esz : Nat} {x : PV} {xs : List PV} (h : x.vs esz = some xs) : srcV esz x = some xs := by
  rcases vs_cases h with ⟨rfl, rfl⟩ | ⟨t, rfl⟩ <;> simp [srcV]
theorem appV_n0 {esz : Nat} {x : PV} (h : x.vs esz = some []) : appV esz st .nils x = some (.nils, st) := by simp [appV, srcV_vs h]
theorem appV_n1 {esz : Nat} {x : PV} {xs : List PV} (h : x.vs esz = some xs) (hn : xs ≠ []) (hl : xs.length ≤ room) : appV esz st .nils x = some (.sl esz (.own st.toks.length) xs, st.tok1) := by simp [appV, srcV_vs h, hn, hl, freshT, St.tok1]
theorem appV_t1 {B : List (List PV)} {L : List LoopS} {lo : Nat} {t : Tok} {u : PV} : appV 2 ⟨B, [true, true], L, lo⟩ .nils (.sl 2 t [u]) = some (.sl 2 (.own 2) [u], ⟨B, [true, true, true], L, lo⟩) := by simp [appV, srcV, freshT, room]
theorem appV_t2 {B : List (List PV)} {L : List LoopS} {lo : Nat} {t : Tok} {u : PV} {xs : List PV} (hl : xs.length + 1 ≤ room) : appV 2 ⟨B, [true, true, true], L, lo⟩ (.sl 2 (.own 1) xs) (.sl 2 t [u]) = some (.sl 2 (.own 3) (xs ++ [u]), ⟨B, [true, false, true, true], L, lo⟩) := by simp [appV, srcV, freshT, appTok, hl]

set_option maxHeartbeats 2000000 in
theorem law_FieldsNames {x : PV} {fs : List Fld} {a b t : List UInt8} (hx : x.vs 2 = some (fs.map fV)) (hm : ∀ f ∈ fs, f.1.length ≤ maxLen ∧ f.2.length ≤ maxLen) (hl : fs.length ≤ maxLen) (ha : a.length ≤ maxLen) (hb : b.length ≤ maxLen) (ht : t.length ≤ maxLen) :
    ∃ s', call prog (.fn 156 []) [x, fV (a, b), .str t] ⟨[], [], [], 0⟩ = some (.bool true, s') := by
  have hML : maxLen ≤ 9223372036854775807 := by decide
  refine law_of_W prog_156 rfl ?_
  unfold F_posthornlaw06_FieldsNames fV; dsimp only
  obtain ⟨g, hg, hgb⟩ := Great_spec (st := ⟨[[.str a, .str b]], [], [], 0⟩) hx (fun f hf => ⟨by have := (hm f hf).1; omega, by have := (hm f hf).2; omega⟩) (by omega)
  cases g with
  | true =>
    simp (maxSteps := 1000000) (disch := omega) only [inB_f, cells_ag, leaf_f, and_self, allocPV, List.length_nil, hg, al06_0, W_seq, W_region, W_cond, W_block, W_skip, W_label, W_exit, W_goto, W_ret, WO_cons, WO_consG, WO_nil, wantedA_eq, wantB, evOp, ev_tmp, ev_const, ev_fn, WN_some, WN_none, updO_some, updO_none, upd_eq,
 ↓reduceIte, Nat.reduceEqDiff, List.nil_append, List.cons_append, List.append_nil, List.map_cons, List.map_nil, env0_zero, env0_succ, env0_nil, Option.map_some, Option.map_none, seqQ_normal, seqQ_ret, seqQ_exit, seqQ_goto, blockQ_normal, blockQ_ret, blockQ_exit, blockQ_goto, condW_bool, loopQ_ret, loopQ_exit, loopQ_goto, endQ_ret, endQ_normal,
 lss_i, leq_i, gtr_i, geq_i, eql_i, neq_i, eql_8, neq_8, lss_8, leq_8, gtr_8, geq_8, eql_s, neq_s, eql_b, neq_b, not_b, by_bys, by_nils, load_cp1, beq_true, beq_false, Bool.not_eq_true', decide_eq_true_eq, decide_eq_false_iff_not, decide_true, decide_false,
 Int.toNat_natCast, Int.ofNat_lt, Int.ofNat_le, Int.natCast_inj, Bool.false_eq_true, Bool.true_eq_false, extPV, List.getElem?_cons_zero, List.getElem?_cons_succ, nilckPV, Int.reduceToNat, Int.reduceLE, true_and, and_true, reduceCtorEq, or_false, false_or, or_true, Option.some.injEq, exists_eq_left', Bool.not_true, Bool.not_false, ne_eq, Int.reduceEq, not_true_eq_false, not_false_eq_true, Int.reduceLT, UInt8.reduceLT, UInt8.reduceLE, UInt8.reduceToNat]
  | false =>
  obtain ⟨hl2, hf⟩ := hgb rfl
  obtain ⟨g2, hg2, hgb2⟩ := Great_spec (st := ⟨[[.str a, .str b]], [true], [], 0⟩) (x := .sl 2 (.own 0) [.agg [.str a, .str b]]) (fs := [(a, b)]) rfl (fun f hf => by
    simp only [List.mem_singleton] at hf; subst hf; exact ⟨by show a.length ≤ _; omega, by show b.length ≤ _; omega⟩) (by simp)
  cases g2 with
  | true =>
    simp (maxSteps := 1000000) (disch := omega) only [inB_f, cells_ag, leaf_f, and_self, allocPV, List.length_nil, hg, load_f, litf, freshT_eq, St.tok1, List.nil_append, hg2, al06_1, W_seq, W_region, W_cond, W_block, W_skip, W_label, W_exit, W_goto, W_ret, WO_cons, WO_consG, WO_nil, wantedA_eq, wantB, evOp, ev_tmp, ev_const, ev_fn, WN_some, WN_none, updO_some, updO_none, upd_eq,
 ↓reduceIte, Nat.reduceEqDiff, List.nil_append, List.cons_append, List.append_nil, List.map_cons, List.map_nil, env0_zero, env0_succ, env0_nil, Option.map_some, Option.map_none, seqQ_normal, seqQ_ret, seqQ_exit, seqQ_goto, blockQ_normal, blockQ_ret, blockQ_exit, blockQ_goto, condW_bool, loopQ_ret, loopQ_exit, loopQ_goto, endQ_ret, endQ_normal,
 lss_i, leq_i, gtr_i, geq_i, eql_i, neq_i, eql_8, neq_8, lss_8, leq_8, gtr_8, geq_8, eql_s, neq_s, eql_b, neq_b, not_b, by_bys, by_nils, load_cp1, beq_true, beq_false, Bool.not_eq_true', decide_eq_true_eq, decide_eq_false_iff_not, decide_true, decide_false,
 Int.toNat_natCast, Int.ofNat_lt, Int.ofNat_le, Int.natCast_inj, Bool.false_eq_true, Bool.true_eq_false, extPV, List.getElem?_cons_zero, List.getElem?_cons_succ, nilckPV, Int.reduceToNat, Int.reduceLE, true_and, and_true, reduceCtorEq, or_false, false_or, or_true, Option.some.injEq, exists_eq_left', Bool.not_true, Bool.not_false, ne_eq, Int.reduceEq, not_true_eq_false, not_false_eq_true, Int.reduceLT, UInt8.reduceLT, UInt8.reduceLE, UInt8.reduceToNat]
  | false =>
  obtain ⟨-, hf2⟩ := hgb2 rfl
  obtain ⟨ha2, hb2⟩ := hf2 (a, b) (by simp)
  simp only at ha2 hb2
  by_cases hn : t.length = a.length
  · have hn' : ((t.length : Int) = (a.length : Int)) := by omega
    simp (maxSteps := 1000000) (disch := omega) only [inB_f, cells_ag, leaf_f, and_self, allocPV, List.length_nil, hg, load_f, litf, freshT_eq, St.tok1, List.nil_append, hg2, al06_1, faddrPV, Nat.zero_add, Nat.add_zero, load_fa, len_s, eq_true hn', W_seq, W_region, W_cond, W_block, W_skip, W_label, W_exit, W_goto, W_ret, WO_cons, WO_consG, WO_nil, wantedA_eq, wantB, evOp, ev_tmp, ev_const, ev_fn, WN_some, WN_none, updO_some, updO_none, upd_eq,
 ↓reduceIte, Nat.reduceEqDiff, List.nil_append, List.cons_append, List.append_nil, List.map_cons, List.map_nil, env0_zero, env0_succ, env0_nil, Option.map_some, Option.map_none, seqQ_normal, seqQ_ret, seqQ_exit, seqQ_goto, blockQ_normal, blockQ_ret, blockQ_exit, blockQ_goto, condW_bool, loopQ_ret, loopQ_exit, loopQ_goto, endQ_ret, endQ_normal,
 lss_i, leq_i, gtr_i, geq_i, eql_i, neq_i, eql_8, neq_8, lss_8, leq_8, gtr_8, geq_8, eql_s, neq_s, eql_b, neq_b, not_b, by_bys, by_nils, load_cp1, beq_true, beq_false, Bool.not_eq_true', decide_eq_true_eq, decide_eq_false_iff_not, decide_true, decide_false,
 Int.toNat_natCast, Int.ofNat_lt, Int.ofNat_le, Int.natCast_inj, Bool.false_eq_true, Bool.true_eq_false, extPV, List.getElem?_cons_zero, List.getElem?_cons_succ, nilckPV, Int.reduceToNat, Int.reduceLE, true_and, and_true, reduceCtorEq, or_false, false_or, or_true, Option.some.injEq, exists_eq_left', Bool.not_true, Bool.not_false, ne_eq, Int.reduceEq, not_true_eq_false, not_false_eq_true, Int.reduceLT, UInt8.reduceLT, UInt8.reduceLE, UInt8.reduceToNat]
    obtain ⟨I, hI⟩ : ∃ I : Nat → Env → St → Prop, I = fun k e s' => ∃ (i : Nat), k = t.length - i ∧ i ≤ t.length ∧ s' = ⟨[[.str a, .str b]], [true], [], 0⟩ ∧ (∀ j, j < i → lowC (a.getD j 0) = lowC (t.getD j 0)) ∧ e 0 = x ∧ e 2 = .str t ∧ e 4 = .ptr 0 0 ∧ e 7 = .int .i64 (i : Int) := ⟨_, rfl⟩
    refine W_loop I ?_ (n := t.length) (by
      rw [hI]
      exact ⟨0, rfl, by omega, rfl, fun j h => by omega, rfl, rfl, rfl, rfl⟩)
    intro k e s' hh
    rw [hI] at hh
    obtain ⟨i, rfl, hi, rfl, hall, h0, h2, h4, h7⟩ := hh
    by_cases hlt : i < t.length
    · have hlt2 : i < a.length := by omega
      obtain ⟨c, hc⟩ : ∃ c, c = a.getD i 0 := ⟨_, rfl⟩
      obtain ⟨d, hd⟩ : ∃ d, d = t.getD i 0 := ⟨_, rfl⟩
      by_cases q1 : c ||| 32 = d ||| 32
      · by_cases q2 : (d ||| 32) < 97
        · simp (maxSteps := 1000000) (disch := omega) only [h0, h2, h4, h7, len_s, hlt, hlt2, faddrPV, Nat.zero_add, Nat.add_zero, load_fa, idx_s, ← hc, ← hd, or_8, q1, eq_self, eq_true q2, al06_1, W_seq, W_region, W_cond, W_block, W_skip, W_label, W_exit, W_goto, W_ret, WO_cons, WO_consG, WO_nil, wantedA_eq, wantB, evOp, ev_tmp, ev_const, ev_fn, WN_some, WN_none, updO_some, updO_none, upd_eq,
 ↓reduceIte, Nat.reduceEqDiff, List.nil_append, List.cons_append, List.append_nil, List.map_cons, List.map_nil, env0_zero, env0_succ, env0_nil, Option.map_some, Option.map_none, seqQ_normal, seqQ_ret, seqQ_exit, seqQ_goto, blockQ_normal, blockQ_ret, blockQ_exit, blockQ_goto, condW_bool, loopQ_ret, loopQ_exit, loopQ_goto, endQ_ret, endQ_normal,
 lss_i, leq_i, gtr_i, geq_i, eql_i, neq_i, eql_8, neq_8, lss_8, leq_8, gtr_8, geq_8, eql_s, neq_s, eql_b, neq_b, not_b, by_bys, by_nils, load_cp1, beq_true, beq_false, Bool.not_eq_true', decide_eq_true_eq, decide_eq_false_iff_not, decide_true, decide_false,
 Int.toNat_natCast, Int.ofNat_lt, Int.ofNat_le, Int.natCast_inj, Bool.false_eq_true, Bool.true_eq_false, extPV, List.getElem?_cons_zero, List.getElem?_cons_succ, nilckPV, Int.reduceToNat, Int.reduceLE, true_and, and_true, reduceCtorEq, or_false, false_or, or_true, Option.some.injEq, exists_eq_left', Bool.not_true, Bool.not_false, ne_eq, Int.reduceEq, not_true_eq_false, not_false_eq_true, Int.reduceLT, UInt8.reduceLT, UInt8.reduceLE, UInt8.reduceToNat]
        · by_cases q3 : 122 < (d ||| 32)
          · simp (maxSteps := 1000000) (disch := omega) only [h0, h2, h4, h7, len_s, hlt, hlt2, faddrPV, Nat.zero_add, Nat.add_zero, load_fa, idx_s, ← hc, ← hd, or_8, q1, eq_self, q2, eq_true q3, al06_1, W_seq, W_region, W_cond, W_block, W_skip, W_label, W_exit, W_goto, W_ret, WO_cons, WO_consG, WO_nil, wantedA_eq, wantB, evOp, ev_tmp, ev_const, ev_fn, WN_some, WN_none, updO_some, updO_none, upd_eq,
 ↓reduceIte, Nat.reduceEqDiff, List.nil_append, List.cons_append, List.append_nil, List.map_cons, List.map_nil, env0_zero, env0_succ, env0_nil, Option.map_some, Option.map_none, seqQ_normal, seqQ_ret, seqQ_exit, seqQ_goto, blockQ_normal, blockQ_ret, blockQ_exit, blockQ_goto, condW_bool, loopQ_ret, loopQ_exit, loopQ_goto, endQ_ret, endQ_normal,
 lss_i, leq_i, gtr_i, geq_i, eql_i, neq_i, eql_8, neq_8, lss_8, leq_8, gtr_8, geq_8, eql_s, neq_s, eql_b, neq_b, not_b, by_bys, by_nils, load_cp1, beq_true, beq_false, Bool.not_eq_true', decide_eq_true_eq, decide_eq_false_iff_not, decide_true, decide_false,
 Int.toNat_natCast, Int.ofNat_lt, Int.ofNat_le, Int.natCast_inj, Bool.false_eq_true, Bool.true_eq_false, extPV, List.getElem?_cons_zero, List.getElem?_cons_succ, nilckPV, Int.reduceToNat, Int.reduceLE, true_and, and_true, reduceCtorEq, or_false, false_or, or_true, Option.some.injEq, exists_eq_left', Bool.not_true, Bool.not_false, ne_eq, Int.reduceEq, not_true_eq_false, not_false_eq_true, Int.reduceLT, UInt8.reduceLT, UInt8.reduceLE, UInt8.reduceToNat]
          · simp (maxSteps := 1000000) (disch := omega) only [h0, h2, h4, h7, len_s, hlt, hlt2, faddrPV, Nat.zero_add, Nat.add_zero, load_fa, idx_s, ← hc, ← hd, or_8, q1, eq_self, q2, q3, add_n, W_seq, W_region, W_cond, W_block, W_skip, W_label, W_exit, W_goto, W_ret, WO_cons, WO_consG, WO_nil, wantedA_eq, wantB, evOp, ev_tmp, ev_const, ev_fn, WN_some, WN_none, updO_some, updO_none, upd_eq,
 ↓reduceIte, Nat.reduceEqDiff, List.nil_append, List.cons_append, List.append_nil, List.map_cons, List.map_nil, env0_zero, env0_succ, env0_nil, Option.map_some, Option.map_none, seqQ_normal, seqQ_ret, seqQ_exit, seqQ_goto, blockQ_normal, blockQ_ret, blockQ_exit, blockQ_goto, condW_bool, loopQ_ret, loopQ_exit, loopQ_goto, endQ_ret, endQ_normal,
 lss_i, leq_i, gtr_i, geq_i, eql_i, neq_i, eql_8, neq_8, lss_8, leq_8, gtr_8, geq_8, eql_s, neq_s, eql_b, neq_b, not_b, by_bys, by_nils, load_cp1, beq_true, beq_false, Bool.not_eq_true', decide_eq_true_eq, decide_eq_false_iff_not, decide_true, decide_false,
 Int.toNat_natCast, Int.ofNat_lt, Int.ofNat_le, Int.natCast_inj, Bool.false_eq_true, Bool.true_eq_false, extPV, List.getElem?_cons_zero, List.getElem?_cons_succ, nilckPV, Int.reduceToNat, Int.reduceLE, true_and, and_true, reduceCtorEq, or_false, false_or, or_true, Option.some.injEq, exists_eq_left', Bool.not_true, Bool.not_false, ne_eq, Int.reduceEq, not_true_eq_false, not_false_eq_true, Int.reduceLT, UInt8.reduceLT, UInt8.reduceLE, UInt8.reduceToNat]
            refine loopQ_intro (m := t.length - (i + 1)) (by omega) ?_
            rw [hI]
            refine ⟨i + 1, rfl, by omega, rfl, fun j hj => ?_, h0, h2, h4, rfl⟩
            by_cases hji : j = i
            · subst hji
              rw [← hc, ← hd]
              exact low_or q1 (by rw [q1]; simpa using q2) (by rw [q1]; simpa using q3)
            · exact hall j (by omega)
      · simp (maxSteps := 1000000) (disch := omega) only [h0, h2, h4, h7, len_s, hlt, hlt2, faddrPV, Nat.zero_add, Nat.add_zero, load_fa, idx_s, ← hc, ← hd, or_8, q1, al06_1, W_seq, W_region, W_cond, W_block, W_skip, W_label, W_exit, W_goto, W_ret, WO_cons, WO_consG, WO_nil, wantedA_eq, wantB, evOp, ev_tmp, ev_const, ev_fn, WN_some, WN_none, updO_some, updO_none, upd_eq,
 ↓reduceIte, Nat.reduceEqDiff, List.nil_append, List.cons_append, List.append_nil, List.map_cons, List.map_nil, env0_zero, env0_succ, env0_nil, Option.map_some, Option.map_none, seqQ_normal, seqQ_ret, seqQ_exit, seqQ_goto, blockQ_normal, blockQ_ret, blockQ_exit, blockQ_goto, condW_bool, loopQ_ret, loopQ_exit, loopQ_goto, endQ_ret, endQ_normal,
 lss_i, leq_i, gtr_i, geq_i, eql_i, neq_i, eql_8, neq_8, lss_8, leq_8, gtr_8, geq_8, eql_s, neq_s, eql_b, neq_b, not_b, by_bys, by_nils, load_cp1, beq_true, beq_false, Bool.not_eq_true', decide_eq_true_eq, decide_eq_false_iff_not, decide_true, decide_false,
 Int.toNat_natCast, Int.ofNat_lt, Int.ofNat_le, Int.natCast_inj, Bool.false_eq_true, Bool.true_eq_false, extPV, List.getElem?_cons_zero, List.getElem?_cons_succ, nilckPV, Int.reduceToNat, Int.reduceLE, true_and, and_true, reduceCtorEq, or_false, false_or, or_true, Option.some.injEq, exists_eq_left', Bool.not_true, Bool.not_false, ne_eq, Int.reduceEq, not_true_eq_false, not_false_eq_true, Int.reduceLT, UInt8.reduceLT, UInt8.reduceLE, UInt8.reduceToNat]
    · obtain rfl : i = t.length := by omega
      have hlo : lowOf a = lowOf t := low_eq hn.symm (fun i hi => hall i (by omega))
      have hS : ∀ S : St, call prog (.fn 155 []) [.str a, .str t] S = some (.bool true, S) := fun S => by
        rw [Same_spec (by omega) (by omega), hlo]; simp
      have hG := fun S : St => Get_spec (st := S) (n := t) hx (by omega) hf (by omega)
      have hall2 : ∀ f ∈ fs ++ [(a, b)], okF f := fun f h => by
        rcases List.mem_append.1 h with h | h
        · exact hf f h
        · simp only [List.mem_singleton] at h; subst h; exact ⟨ha2, hb2⟩
      have hr := getOf_snoc (fs := fs) (f := (a, b)) (n := t)
      rw [if_pos hlo] at hr
      have hle := getOf_le (fs := fs) (n := t)
      obtain ⟨v, n, hvn⟩ : ∃ v n, getOf fs t = (v, n) := ⟨_, _, rfl⟩
      rw [hvn] at hr hle
      simp only [hvn, getV] at hG
      simp only at hr hle
      have hG2 : ∀ (al : PV), al.vs 2 = some ((fs ++ [(a, b)]).map fV) → ∀ S : St, call prog (.fn 147 []) [al, .str t] S = some (getV (getOf (fs ++ [(a, b)]) t), S) := fun al h S => Get_spec h (by omega) hall2 (by simp; omega)
      rw [hr] at hG2
      simp only [getV] at hG2
      by_cases hfe : fs = []
      · subst hfe
        have hGa := hG2 (.sl 2 (.own 2) [.agg [.str a, .str b]]) rfl
        have a1 : ∀ T, appV 2 ⟨[[.str a, .str b]], T, [], 0⟩ .nils x = some (.nils, ⟨[[.str a, .str b]], T, [], 0⟩) := fun T => appV_n0 hx
        have hz : n = 0 := by simpa using hle
        have hd : decide ((n : Int) = 0) = true := by simp [hz]
        have hp : ¬ (0 : Int) < (n : Int) := by omega
        simp only [if_pos hz] at hGa
        simp (maxSteps := 1000000) (disch := omega) only [h0, h2, h4, h7, len_s, hlt, a1, load_f, litf, freshT_eq, St.tok1, List.length_cons, List.length_nil, appV_t1, hG, hGa, al06_3, faddrPV, Nat.zero_add, Nat.add_zero, load_fa, load_fb, hS, add_n, eq_self, hd, hp, W_seq, W_region, W_cond, W_block, W_skip, W_label, W_exit, W_goto, W_ret, WO_cons, WO_consG, WO_nil, wantedA_eq, wantB, evOp, ev_tmp, ev_const, ev_fn, WN_some, WN_none, updO_some, updO_none, upd_eq,
 ↓reduceIte, Nat.reduceEqDiff, List.nil_append, List.cons_append, List.append_nil, List.map_cons, List.map_nil, env0_zero, env0_succ, env0_nil, Option.map_some, Option.map_none, seqQ_normal, seqQ_ret, seqQ_exit, seqQ_goto, blockQ_normal, blockQ_ret, blockQ_exit, blockQ_goto, condW_bool, loopQ_ret, loopQ_exit, loopQ_goto, endQ_ret, endQ_normal,
 lss_i, leq_i, gtr_i, geq_i, eql_i, neq_i, eql_8, neq_8, lss_8, leq_8, gtr_8, geq_8, eql_s, neq_s, eql_b, neq_b, not_b, by_bys, by_nils, load_cp1, beq_true, beq_false, Bool.not_eq_true', decide_eq_true_eq, decide_eq_false_iff_not, decide_true, decide_false,
 Int.toNat_natCast, Int.ofNat_lt, Int.ofNat_le, Int.natCast_inj, Bool.false_eq_true, Bool.true_eq_false, extPV, List.getElem?_cons_zero, List.getElem?_cons_succ, nilckPV, Int.reduceToNat, Int.reduceLE, true_and, and_true, reduceCtorEq, or_false, false_or, or_true, Option.some.injEq, exists_eq_left', Bool.not_true, Bool.not_false, ne_eq, Int.reduceEq, not_true_eq_false, not_false_eq_true, Int.reduceLT, UInt8.reduceLT, UInt8.reduceLE, UInt8.reduceToNat]
      · have hne : fs.map fV ≠ [] := by simpa using hfe
        have a1 : appV 2 ⟨[[.str a, .str b]], [true], [], 0⟩ .nils x = some (.sl 2 (.own 1) (fs.map fV), ⟨[[.str a, .str b]], [true, true], [], 0⟩) := appV_n1 hx hne (by simp [room]; omega)
        have a2 : appV 2 ⟨[[.str a, .str b]], [true, true, true], [], 0⟩ (.sl 2 (.own 1) (fs.map fV)) (.sl 2 (.own 2) [.agg [.str a, .str b]]) = some (.sl 2 (.own 3) (fs.map fV ++ [.agg [.str a, .str b]]), ⟨[[.str a, .str b]], [true, false, true, true], [], 0⟩) := appV_t2 (by simp [room]; omega)
        have hGa := hG2 (.sl 2 (.own 3) (fs.map fV ++ [.agg [.str a, .str b]])) (by simp [PV.vs, fV])
        by_cases hz : n = 0
        · have hd : decide ((n : Int) = 0) = true := by simp [hz]
          have hp : ¬ (0 : Int) < (n : Int) := by omega
          simp only [if_pos hz] at hGa
          simp (maxSteps := 1000000) (disch := omega) only [h0, h2, h4, h7, len_s, hlt, a1, load_f, litf, freshT_eq, St.tok1, List.length_cons, List.length_nil, a2, hG, hGa, al06_4, faddrPV, Nat.zero_add, Nat.add_zero, load_fa, load_fb, hS, add_n, eq_self, hd, hp, W_seq, W_region, W_cond, W_block, W_skip, W_label, W_exit, W_goto, W_ret, WO_cons, WO_consG, WO_nil, wantedA_eq, wantB, evOp, ev_tmp, ev_const, ev_fn, WN_some, WN_none, updO_some, updO_none, upd_eq,
 ↓reduceIte, Nat.reduceEqDiff, List.nil_append, List.cons_append, List.append_nil, List.map_cons, List.map_nil, env0_zero, env0_succ, env0_nil, Option.map_some, Option.map_none, seqQ_normal, seqQ_ret, seqQ_exit, seqQ_goto, blockQ_normal, blockQ_ret, blockQ_exit, blockQ_goto, condW_bool, loopQ_ret, loopQ_exit, loopQ_goto, endQ_ret, endQ_normal,
 lss_i, leq_i, gtr_i, geq_i, eql_i, neq_i, eql_8, neq_8, lss_8, leq_8, gtr_8, geq_8, eql_s, neq_s, eql_b, neq_b, not_b, by_bys, by_nils, load_cp1, beq_true, beq_false, Bool.not_eq_true', decide_eq_true_eq, decide_eq_false_iff_not, decide_true, decide_false,
 Int.toNat_natCast, Int.ofNat_lt, Int.ofNat_le, Int.natCast_inj, Bool.false_eq_true, Bool.true_eq_false, extPV, List.getElem?_cons_zero, List.getElem?_cons_succ, nilckPV, Int.reduceToNat, Int.reduceLE, true_and, and_true, reduceCtorEq, or_false, false_or, or_true, Option.some.injEq, exists_eq_left', Bool.not_true, Bool.not_false, ne_eq, Int.reduceEq, not_true_eq_false, not_false_eq_true, Int.reduceLT, UInt8.reduceLT, UInt8.reduceLE, UInt8.reduceToNat]
        · simp only [hz, if_false] at hGa
          have hp : (0 : Int) < (n : Int) := by omega
          simp (maxSteps := 1000000) (disch := omega) only [h0, h2, h4, h7, len_s, hlt, a1, load_f, litf, freshT_eq, St.tok1, List.length_cons, List.length_nil, a2, hG, hGa, al06_4, faddrPV, Nat.zero_add, Nat.add_zero, load_fa, load_fb, hS, add_n, eq_self, hp, W_seq, W_region, W_cond, W_block, W_skip, W_label, W_exit, W_goto, W_ret, WO_cons, WO_consG, WO_nil, wantedA_eq, wantB, evOp, ev_tmp, ev_const, ev_fn, WN_some, WN_none, updO_some, updO_none, upd_eq,
 ↓reduceIte, Nat.reduceEqDiff, List.nil_append, List.cons_append, List.append_nil, List.map_cons, List.map_nil, env0_zero, env0_succ, env0_nil, Option.map_some, Option.map_none, seqQ_normal, seqQ_ret, seqQ_exit, seqQ_goto, blockQ_normal, blockQ_ret, blockQ_exit, blockQ_goto, condW_bool, loopQ_ret, loopQ_exit, loopQ_goto, endQ_ret, endQ_normal,
 lss_i, leq_i, gtr_i, geq_i, eql_i, neq_i, eql_8, neq_8, lss_8, leq_8, gtr_8, geq_8, eql_s, neq_s, eql_b, neq_b, not_b, by_bys, by_nils, load_cp1, beq_true, beq_false, Bool.not_eq_true', decide_eq_true_eq, decide_eq_false_iff_not, decide_true, decide_false,
 Int.toNat_natCast, Int.ofNat_lt, Int.ofNat_le, Int.natCast_inj, Bool.false_eq_true, Bool.true_eq_false, extPV, List.getElem?_cons_zero, List.getElem?_cons_succ, nilckPV, Int.reduceToNat, Int.reduceLE, true_and, and_true, reduceCtorEq, or_false, false_or, or_true, Option.some.injEq, exists_eq_left', Bool.not_true, Bool.not_false, ne_eq, Int.reduceEq, not_true_eq_false, not_false_eq_true, Int.reduceLT, UInt8.reduceLT, UInt8.reduceLE, UInt8.reduceToNat]
  · have hn' : ¬ (t.length : Int) = (a.length : Int) := by omega
    simp (maxSteps := 1000000) (disch := omega) only [inB_f, cells_ag, leaf_f, and_self, allocPV, List.length_nil, hg, load_f, litf, freshT_eq, St.tok1, List.nil_append, hg2, al06_1, faddrPV, Nat.zero_add, Nat.add_zero, load_fa, len_s, hn', W_seq, W_region, W_cond, W_block, W_skip, W_label, W_exit, W_goto, W_ret, WO_cons, WO_consG, WO_nil, wantedA_eq, wantB, evOp, ev_tmp, ev_const, ev_fn, WN_some, WN_none, updO_some, updO_none, upd_eq,
 ↓reduceIte, Nat.reduceEqDiff, List.nil_append, List.cons_append, List.append_nil, List.map_cons, List.map_nil, env0_zero, env0_succ, env0_nil, Option.map_some, Option.map_none, seqQ_normal, seqQ_ret, seqQ_exit, seqQ_goto, blockQ_normal, blockQ_ret, blockQ_exit, blockQ_goto, condW_bool, loopQ_ret, loopQ_exit, loopQ_goto, endQ_ret, endQ_normal,
 lss_i, leq_i, gtr_i, geq_i, eql_i, neq_i, eql_8, neq_8, lss_8, leq_8, gtr_8, geq_8, eql_s, neq_s, eql_b, neq_b, not_b, by_bys, by_nils, load_cp1, beq_true, beq_false, Bool.not_eq_true', decide_eq_true_eq, decide_eq_false_iff_not, decide_true, decide_false,
 Int.toNat_natCast, Int.ofNat_lt, Int.ofNat_le, Int.natCast_inj, Bool.false_eq_true, Bool.true_eq_false, extPV, List.getElem?_cons_zero, List.getElem?_cons_succ, nilckPV, Int.reduceToNat, Int.reduceLE, true_and, and_true, reduceCtorEq, or_false, false_or, or_true, Option.some.injEq, exists_eq_left', Bool.not_true, Bool.not_false, ne_eq, Int.reduceEq, not_true_eq_false, not_false_eq_true, Int.reduceLT, UInt8.reduceLT, UInt8.reduceLE, UInt8.reduceToNat]
end Go.Ab

/-
  Names and values of fields; texts without blanks at their ends.
-/
namespace Go.Ab
set_option linter.unusedVariables false
set_option linter.unusedSimpArgs false
variable {st s : St} {e : Env}

theorem all_getD {p : UInt8 → Bool} {l : List UInt8} (h : ∀ j, j < l.length → p (l.getD j 0) = true) : l.all p = true := by
  rw [List.all_eq_true]
  intro c hc
  obtain ⟨i, hi, rfl⟩ := List.mem_iff_getElem.1 hc
  have := h i hi
  simpa [List.getD, hi] using this
theorem all_bad {p : UInt8 → Bool} {l : List UInt8} {j : Nat} (hj : j < l.length) (h : p (l.getD j 0) = false) : l.all p = false := by
  rw [List.all_eq_false]
  refine ⟨l.getD j 0, ?_, by rw [h]; simp⟩
  simp [List.getD, hj]

def nameC (c : UInt8) : Bool := !decide (c < 33) && !decide (126 < c) && !decide (c = 58)
def nameB (l : List UInt8) : Bool := decide (1 ≤ l.length) && decide (l.length ≤ 64) && l.all nameC

theorem isName_spec {l : List UInt8} : call prog (.fn 157 []) [.str l] st = some (.bool (nameB l), st) := by
  refine call_of_W prog_157 ?_
  unfold F_fields_isName; dsimp only
  by_cases h1 : l.length < 1
  · have e1 : (l.length : Int) < 1 := by omega
    simp (maxSteps := 1000000) (disch := omega) only [len_s, e1, W_seq, W_region, W_cond, W_block, W_skip, W_label, W_exit, W_goto, W_ret, WO_cons, WO_consG, WO_nil, wantedA_eq, wantB, evOp, ev_tmp, ev_const, ev_fn, WN_some, WN_none, updO_some, updO_none, upd_eq,
 ↓reduceIte, Nat.reduceEqDiff, List.nil_append, List.cons_append, List.append_nil, List.map_cons, List.map_nil, env0_zero, env0_succ, env0_nil, Option.map_some, Option.map_none, seqQ_normal, seqQ_ret, seqQ_exit, seqQ_goto, blockQ_normal, blockQ_ret, blockQ_exit, blockQ_goto, condW_bool, loopQ_ret, loopQ_exit, loopQ_goto, endQ_ret, endQ_normal,
 lss_i, leq_i, gtr_i, geq_i, eql_i, neq_i, eql_8, neq_8, lss_8, leq_8, gtr_8, geq_8, eql_s, neq_s, eql_b, neq_b, not_b, by_bys, by_nils, load_cp1, beq_true, beq_false, Bool.not_eq_true', decide_eq_true_eq, decide_eq_false_iff_not, decide_true, decide_false,
 Int.toNat_natCast, Int.ofNat_lt, Int.ofNat_le, Int.natCast_inj, Bool.false_eq_true, Bool.true_eq_false, extPV, List.getElem?_cons_zero, List.getElem?_cons_succ, nilckPV, Int.reduceToNat, Int.reduceLE, true_and, and_true, reduceCtorEq, or_false, false_or, or_true, Option.some.injEq, exists_eq_left', Bool.not_true, Bool.not_false, ne_eq, Int.reduceEq, not_true_eq_false, not_false_eq_true, Int.reduceLT, UInt8.reduceLT, UInt8.reduceLE, UInt8.reduceToNat]
    rw [show nameB l = false by simp [nameB]; omega]
    exact end1 rfl Kp_bool
  have e1 : ¬ (l.length : Int) < 1 := by omega
  by_cases h2 : 64 < l.length
  · have e2 : (64 : Int) < (l.length : Int) := by omega
    simp (maxSteps := 1000000) (disch := omega) only [len_s, e1, e2, W_seq, W_region, W_cond, W_block, W_skip, W_label, W_exit, W_goto, W_ret, WO_cons, WO_consG, WO_nil, wantedA_eq, wantB, evOp, ev_tmp, ev_const, ev_fn, WN_some, WN_none, updO_some, updO_none, upd_eq,
 ↓reduceIte, Nat.reduceEqDiff, List.nil_append, List.cons_append, List.append_nil, List.map_cons, List.map_nil, env0_zero, env0_succ, env0_nil, Option.map_some, Option.map_none, seqQ_normal, seqQ_ret, seqQ_exit, seqQ_goto, blockQ_normal, blockQ_ret, blockQ_exit, blockQ_goto, condW_bool, loopQ_ret, loopQ_exit, loopQ_goto, endQ_ret, endQ_normal,
 lss_i, leq_i, gtr_i, geq_i, eql_i, neq_i, eql_8, neq_8, lss_8, leq_8, gtr_8, geq_8, eql_s, neq_s, eql_b, neq_b, not_b, by_bys, by_nils, load_cp1, beq_true, beq_false, Bool.not_eq_true', decide_eq_true_eq, decide_eq_false_iff_not, decide_true, decide_false,
 Int.toNat_natCast, Int.ofNat_lt, Int.ofNat_le, Int.natCast_inj, Bool.false_eq_true, Bool.true_eq_false, extPV, List.getElem?_cons_zero, List.getElem?_cons_succ, nilckPV, Int.reduceToNat, Int.reduceLE, true_and, and_true, reduceCtorEq, or_false, false_or, or_true, Option.some.injEq, exists_eq_left', Bool.not_true, Bool.not_false, ne_eq, Int.reduceEq, not_true_eq_false, not_false_eq_true, Int.reduceLT, UInt8.reduceLT, UInt8.reduceLE, UInt8.reduceToNat]
    rw [show nameB l = false by simp [nameB]; omega]
    exact end1 rfl Kp_bool
  have e2 : ¬ (64 : Int) < (l.length : Int) := by omega
  simp (maxSteps := 1000000) (disch := omega) only [len_s, e1, e2, W_seq, W_region, W_cond, W_block, W_skip, W_label, W_exit, W_goto, W_ret, WO_cons, WO_consG, WO_nil, wantedA_eq, wantB, evOp, ev_tmp, ev_const, ev_fn, WN_some, WN_none, updO_some, updO_none, upd_eq,
 ↓reduceIte, Nat.reduceEqDiff, List.nil_append, List.cons_append, List.append_nil, List.map_cons, List.map_nil, env0_zero, env0_succ, env0_nil, Option.map_some, Option.map_none, seqQ_normal, seqQ_ret, seqQ_exit, seqQ_goto, blockQ_normal, blockQ_ret, blockQ_exit, blockQ_goto, condW_bool, loopQ_ret, loopQ_exit, loopQ_goto, endQ_ret, endQ_normal,
 lss_i, leq_i, gtr_i, geq_i, eql_i, neq_i, eql_8, neq_8, lss_8, leq_8, gtr_8, geq_8, eql_s, neq_s, eql_b, neq_b, not_b, by_bys, by_nils, load_cp1, beq_true, beq_false, Bool.not_eq_true', decide_eq_true_eq, decide_eq_false_iff_not, decide_true, decide_false,
 Int.toNat_natCast, Int.ofNat_lt, Int.ofNat_le, Int.natCast_inj, Bool.false_eq_true, Bool.true_eq_false, extPV, List.getElem?_cons_zero, List.getElem?_cons_succ, nilckPV, Int.reduceToNat, Int.reduceLE, true_and, and_true, reduceCtorEq, or_false, false_or, or_true, Option.some.injEq, exists_eq_left', Bool.not_true, Bool.not_false, ne_eq, Int.reduceEq, not_true_eq_false, not_false_eq_true, Int.reduceLT, UInt8.reduceLT, UInt8.reduceLE, UInt8.reduceToNat]
  obtain ⟨I, hI⟩ : ∃ I : Nat → Env → St → Prop, I = fun k e s' => ∃ (i : Nat), k = l.length - i ∧ i ≤ l.length ∧ Kept st s' ∧ (∀ j, j < i → nameC (l.getD j 0) = true) ∧ e 0 = .str l ∧ e 13 = .int .i64 (l.length : Int) ∧ e 14 = .int .i64 (i : Int) := ⟨_, rfl⟩
  refine W_loop I ?_ (n := l.length) (by
    rw [hI]
    exact ⟨0, rfl, by omega, Kept.start, fun j h => by omega, rfl, rfl, rfl⟩)
  intro k e s' hh
  rw [hI] at hh
  obtain ⟨i, rfl, hi, hk, hall, h0, h13, h14⟩ := hh
  by_cases hlt : i < l.length
  · obtain ⟨c, hc⟩ : ∃ c, c = l.getD i 0 := ⟨_, rfl⟩
    have bad : nameC c = false → ∀ E : Env, E 2 = .bool false → ∃ rv, resOf E s' [.tmp 2] = some rv ∧ leave st s' rv = (.bool (nameB l), st) := fun h E k2 =>
      ⟨.bool false, by simp [resOf, rvAll, rv1, k2, notTup, packRes], by
        rw [show nameB l = false by simp only [nameB, all_bad (p := nameC) hlt (by rw [← hc]; exact h), Bool.and_false]]
        exact hk.leave rfl (fun _ _ => rfl)⟩
    by_cases q1 : c < 33
    · simp (maxSteps := 1000000) (disch := omega) only [h0, h13, h14, hlt, idx_s, ← hc, eq_true q1, W_seq, W_region, W_cond, W_block, W_skip, W_label, W_exit, W_goto, W_ret, WO_cons, WO_consG, WO_nil, wantedA_eq, wantB, evOp, ev_tmp, ev_const, ev_fn, WN_some, WN_none, updO_some, updO_none, upd_eq,
 ↓reduceIte, Nat.reduceEqDiff, List.nil_append, List.cons_append, List.append_nil, List.map_cons, List.map_nil, env0_zero, env0_succ, env0_nil, Option.map_some, Option.map_none, seqQ_normal, seqQ_ret, seqQ_exit, seqQ_goto, blockQ_normal, blockQ_ret, blockQ_exit, blockQ_goto, condW_bool, loopQ_ret, loopQ_exit, loopQ_goto, endQ_ret, endQ_normal,
 lss_i, leq_i, gtr_i, geq_i, eql_i, neq_i, eql_8, neq_8, lss_8, leq_8, gtr_8, geq_8, eql_s, neq_s, eql_b, neq_b, not_b, by_bys, by_nils, load_cp1, beq_true, beq_false, Bool.not_eq_true', decide_eq_true_eq, decide_eq_false_iff_not, decide_true, decide_false,
 Int.toNat_natCast, Int.ofNat_lt, Int.ofNat_le, Int.natCast_inj, Bool.false_eq_true, Bool.true_eq_false, extPV, List.getElem?_cons_zero, List.getElem?_cons_succ, nilckPV, Int.reduceToNat, Int.reduceLE, true_and, and_true, reduceCtorEq, or_false, false_or, or_true, Option.some.injEq, exists_eq_left', Bool.not_true, Bool.not_false, ne_eq, Int.reduceEq, not_true_eq_false, not_false_eq_true, Int.reduceLT, UInt8.reduceLT, UInt8.reduceLE, UInt8.reduceToNat]
      exact bad (by simp [nameC, q1]) _ rfl
    by_cases q2 : 126 < c
    · simp (maxSteps := 1000000) (disch := omega) only [h0, h13, h14, hlt, idx_s, ← hc, q1, eq_true q2, W_seq, W_region, W_cond, W_block, W_skip, W_label, W_exit, W_goto, W_ret, WO_cons, WO_consG, WO_nil, wantedA_eq, wantB, evOp, ev_tmp, ev_const, ev_fn, WN_some, WN_none, updO_some, updO_none, upd_eq,
 ↓reduceIte, Nat.reduceEqDiff, List.nil_append, List.cons_append, List.append_nil, List.map_cons, List.map_nil, env0_zero, env0_succ, env0_nil, Option.map_some, Option.map_none, seqQ_normal, seqQ_ret, seqQ_exit, seqQ_goto, blockQ_normal, blockQ_ret, blockQ_exit, blockQ_goto, condW_bool, loopQ_ret, loopQ_exit, loopQ_goto, endQ_ret, endQ_normal,
 lss_i, leq_i, gtr_i, geq_i, eql_i, neq_i, eql_8, neq_8, lss_8, leq_8, gtr_8, geq_8, eql_s, neq_s, eql_b, neq_b, not_b, by_bys, by_nils, load_cp1, beq_true, beq_false, Bool.not_eq_true', decide_eq_true_eq, decide_eq_false_iff_not, decide_true, decide_false,
 Int.toNat_natCast, Int.ofNat_lt, Int.ofNat_le, Int.natCast_inj, Bool.false_eq_true, Bool.true_eq_false, extPV, List.getElem?_cons_zero, List.getElem?_cons_succ, nilckPV, Int.reduceToNat, Int.reduceLE, true_and, and_true, reduceCtorEq, or_false, false_or, or_true, Option.some.injEq, exists_eq_left', Bool.not_true, Bool.not_false, ne_eq, Int.reduceEq, not_true_eq_false, not_false_eq_true, Int.reduceLT, UInt8.reduceLT, UInt8.reduceLE, UInt8.reduceToNat]
      exact bad (by simp [nameC, q2]) _ rfl
    by_cases q3 : c = 58
    · simp (maxSteps := 1000000) (disch := omega) only [h0, h13, h14, hlt, idx_s, ← hc, q1, q2, eq_true q3, W_seq, W_region, W_cond, W_block, W_skip, W_label, W_exit, W_goto, W_ret, WO_cons, WO_consG, WO_nil, wantedA_eq, wantB, evOp, ev_tmp, ev_const, ev_fn, WN_some, WN_none, updO_some, updO_none, upd_eq,
 ↓reduceIte, Nat.reduceEqDiff, List.nil_append, List.cons_append, List.append_nil, List.map_cons, List.map_nil, env0_zero, env0_succ, env0_nil, Option.map_some, Option.map_none, seqQ_normal, seqQ_ret, seqQ_exit, seqQ_goto, blockQ_normal, blockQ_ret, blockQ_exit, blockQ_goto, condW_bool, loopQ_ret, loopQ_exit, loopQ_goto, endQ_ret, endQ_normal,
 lss_i, leq_i, gtr_i, geq_i, eql_i, neq_i, eql_8, neq_8, lss_8, leq_8, gtr_8, geq_8, eql_s, neq_s, eql_b, neq_b, not_b, by_bys, by_nils, load_cp1, beq_true, beq_false, Bool.not_eq_true', decide_eq_true_eq, decide_eq_false_iff_not, decide_true, decide_false,
 Int.toNat_natCast, Int.ofNat_lt, Int.ofNat_le, Int.natCast_inj, Bool.false_eq_true, Bool.true_eq_false, extPV, List.getElem?_cons_zero, List.getElem?_cons_succ, nilckPV, Int.reduceToNat, Int.reduceLE, true_and, and_true, reduceCtorEq, or_false, false_or, or_true, Option.some.injEq, exists_eq_left', Bool.not_true, Bool.not_false, ne_eq, Int.reduceEq, not_true_eq_false, not_false_eq_true, Int.reduceLT, UInt8.reduceLT, UInt8.reduceLE, UInt8.reduceToNat]
      exact bad (by simp [nameC, q3]) _ rfl
    · simp (maxSteps := 1000000) (disch := omega) only [h0, h13, h14, hlt, idx_s, ← hc, q1, q2, q3, add_n, W_seq, W_region, W_cond, W_block, W_skip, W_label, W_exit, W_goto, W_ret, WO_cons, WO_consG, WO_nil, wantedA_eq, wantB, evOp, ev_tmp, ev_const, ev_fn, WN_some, WN_none, updO_some, updO_none, upd_eq,
 ↓reduceIte, Nat.reduceEqDiff, List.nil_append, List.cons_append, List.append_nil, List.map_cons, List.map_nil, env0_zero, env0_succ, env0_nil, Option.map_some, Option.map_none, seqQ_normal, seqQ_ret, seqQ_exit, seqQ_goto, blockQ_normal, blockQ_ret, blockQ_exit, blockQ_goto, condW_bool, loopQ_ret, loopQ_exit, loopQ_goto, endQ_ret, endQ_normal,
 lss_i, leq_i, gtr_i, geq_i, eql_i, neq_i, eql_8, neq_8, lss_8, leq_8, gtr_8, geq_8, eql_s, neq_s, eql_b, neq_b, not_b, by_bys, by_nils, load_cp1, beq_true, beq_false, Bool.not_eq_true', decide_eq_true_eq, decide_eq_false_iff_not, decide_true, decide_false,
 Int.toNat_natCast, Int.ofNat_lt, Int.ofNat_le, Int.natCast_inj, Bool.false_eq_true, Bool.true_eq_false, extPV, List.getElem?_cons_zero, List.getElem?_cons_succ, nilckPV, Int.reduceToNat, Int.reduceLE, true_and, and_true, reduceCtorEq, or_false, false_or, or_true, Option.some.injEq, exists_eq_left', Bool.not_true, Bool.not_false, ne_eq, Int.reduceEq, not_true_eq_false, not_false_eq_true, Int.reduceLT, UInt8.reduceLT, UInt8.reduceLE, UInt8.reduceToNat]
      refine loopQ_intro (m := l.length - (i + 1)) (by omega) ?_
      rw [hI]
      refine ⟨i + 1, rfl, by omega, hk, fun j hj => ?_, h0, h13, rfl⟩
      by_cases hji : j = i
      · subst hji; rw [← hc]; simp [nameC, q1, q2, q3]
      · exact hall j (by omega)
  · obtain rfl : i = l.length := by omega
    simp (maxSteps := 1000000) (disch := omega) only [h0, h13, h14, hlt, W_seq, W_region, W_cond, W_block, W_skip, W_label, W_exit, W_goto, W_ret, WO_cons, WO_consG, WO_nil, wantedA_eq, wantB, evOp, ev_tmp, ev_const, ev_fn, WN_some, WN_none, updO_some, updO_none, upd_eq,
 ↓reduceIte, Nat.reduceEqDiff, List.nil_append, List.cons_append, List.append_nil, List.map_cons, List.map_nil, env0_zero, env0_succ, env0_nil, Option.map_some, Option.map_none, seqQ_normal, seqQ_ret, seqQ_exit, seqQ_goto, blockQ_normal, blockQ_ret, blockQ_exit, blockQ_goto, condW_bool, loopQ_ret, loopQ_exit, loopQ_goto, endQ_ret, endQ_normal,
 lss_i, leq_i, gtr_i, geq_i, eql_i, neq_i, eql_8, neq_8, lss_8, leq_8, gtr_8, geq_8, eql_s, neq_s, eql_b, neq_b, not_b, by_bys, by_nils, load_cp1, beq_true, beq_false, Bool.not_eq_true', decide_eq_true_eq, decide_eq_false_iff_not, decide_true, decide_false,
 Int.toNat_natCast, Int.ofNat_lt, Int.ofNat_le, Int.natCast_inj, Bool.false_eq_true, Bool.true_eq_false, extPV, List.getElem?_cons_zero, List.getElem?_cons_succ, nilckPV, Int.reduceToNat, Int.reduceLE, true_and, and_true, reduceCtorEq, or_false, false_or, or_true, Option.some.injEq, exists_eq_left', Bool.not_true, Bool.not_false, ne_eq, Int.reduceEq, not_true_eq_false, not_false_eq_true, Int.reduceLT, UInt8.reduceLT, UInt8.reduceLE, UInt8.reduceToNat]
    refine ⟨.bool true, rfl, ?_⟩
    rw [show nameB l = true by simp only [nameB, all_getD (p := nameC) hall, Bool.and_true, Bool.and_eq_true, decide_eq_true_eq]; omega]
    exact hk.leave rfl (fun _ _ => rfl)

theorem le32 {c : UInt8} : c ≤ 32 ↔ c < 33 := by
  rw [UInt8.le_iff_toNat_le, UInt8.lt_iff_toNat_lt]; simp; omega
theorem ge127 {c : UInt8} : 127 ≤ c ↔ 126 < c := by
  rw [UInt8.le_iff_toNat_le, UInt8.lt_iff_toNat_lt]; simp; omega

theorem rName_spec {l : List UInt8} (hl : l.length ≤ 1000000) : call prog (.fn 160 []) [.str l] st = some (.bool (nameB l), st) := by
  refine call_of_W prog_160 ?_
  unfold F_posthornref06_Name; dsimp only
  simp (maxSteps := 1000000) (disch := omega) only [len_s, W_seq, W_region, W_cond, W_block, W_skip, W_label, W_exit, W_goto, W_ret, WO_cons, WO_consG, WO_nil, wantedA_eq, wantB, evOp, ev_tmp, ev_const, ev_fn, WN_some, WN_none, updO_some, updO_none, upd_eq,
 ↓reduceIte, Nat.reduceEqDiff, List.nil_append, List.cons_append, List.append_nil, List.map_cons, List.map_nil, env0_zero, env0_succ, env0_nil, Option.map_some, Option.map_none, seqQ_normal, seqQ_ret, seqQ_exit, seqQ_goto, blockQ_normal, blockQ_ret, blockQ_exit, blockQ_goto, condW_bool, loopQ_ret, loopQ_exit, loopQ_goto, endQ_ret, endQ_normal,
 lss_i, leq_i, gtr_i, geq_i, eql_i, neq_i, eql_8, neq_8, lss_8, leq_8, gtr_8, geq_8, eql_s, neq_s, eql_b, neq_b, not_b, by_bys, by_nils, load_cp1, beq_true, beq_false, Bool.not_eq_true', decide_eq_true_eq, decide_eq_false_iff_not, decide_true, decide_false,
 Int.toNat_natCast, Int.ofNat_lt, Int.ofNat_le, Int.natCast_inj, Bool.false_eq_true, Bool.true_eq_false, extPV, List.getElem?_cons_zero, List.getElem?_cons_succ, nilckPV, Int.reduceToNat, Int.reduceLE, true_and, and_true, reduceCtorEq, or_false, false_or, or_true, Option.some.injEq, exists_eq_left', Bool.not_true, Bool.not_false, ne_eq, Int.reduceEq, not_true_eq_false, not_false_eq_true, Int.reduceLT, UInt8.reduceLT, UInt8.reduceLE, UInt8.reduceToNat]
  obtain ⟨I, hI⟩ : ∃ I : Nat → Env → St → Prop, I = fun k e s' => ∃ (i : Nat), k = l.length - i ∧ i ≤ l.length ∧ Kept st s' ∧ (∀ j, j < i → nameC (l.getD j 0) = true) ∧ e 0 = .str l ∧ e 3 = .int .i64 (i : Int) := ⟨_, rfl⟩
  refine W_loop I ?_ (n := l.length) (by
    rw [hI]
    exact ⟨0, rfl, by omega, Kept.start, fun j h => by omega, rfl, rfl⟩)
  intro k e s' hh
  rw [hI] at hh
  obtain ⟨i, rfl, hi, hk, hall, h0, h3⟩ := hh
  by_cases hlt : i < l.length
  · obtain ⟨c, hc⟩ : ∃ c, c = l.getD i 0 := ⟨_, rfl⟩
    have bad : nameC c = false → ∀ E : Env, E 2 = .bool false → ∃ rv, resOf E s' [.tmp 2] = some rv ∧ leave st s' rv = (.bool (nameB l), st) := fun h E k2 =>
      ⟨.bool false, by simp [resOf, rvAll, rv1, k2, notTup, packRes], by
        rw [show nameB l = false by simp only [nameB, all_bad (p := nameC) hlt (by rw [← hc]; exact h), Bool.and_false]]
        exact hk.leave rfl (fun _ _ => rfl)⟩
    by_cases q1 : c ≤ 32
    · simp (maxSteps := 1000000) (disch := omega) only [h0, h3, len_s, hlt, idx_s, ← hc, eq_true q1, W_seq, W_region, W_cond, W_block, W_skip, W_label, W_exit, W_goto, W_ret, WO_cons, WO_consG, WO_nil, wantedA_eq, wantB, evOp, ev_tmp, ev_const, ev_fn, WN_some, WN_none, updO_some, updO_none, upd_eq,
 ↓reduceIte, Nat.reduceEqDiff, List.nil_append, List.cons_append, List.append_nil, List.map_cons, List.map_nil, env0_zero, env0_succ, env0_nil, Option.map_some, Option.map_none, seqQ_normal, seqQ_ret, seqQ_exit, seqQ_goto, blockQ_normal, blockQ_ret, blockQ_exit, blockQ_goto, condW_bool, loopQ_ret, loopQ_exit, loopQ_goto, endQ_ret, endQ_normal,
 lss_i, leq_i, gtr_i, geq_i, eql_i, neq_i, eql_8, neq_8, lss_8, leq_8, gtr_8, geq_8, eql_s, neq_s, eql_b, neq_b, not_b, by_bys, by_nils, load_cp1, beq_true, beq_false, Bool.not_eq_true', decide_eq_true_eq, decide_eq_false_iff_not, decide_true, decide_false,
 Int.toNat_natCast, Int.ofNat_lt, Int.ofNat_le, Int.natCast_inj, Bool.false_eq_true, Bool.true_eq_false, extPV, List.getElem?_cons_zero, List.getElem?_cons_succ, nilckPV, Int.reduceToNat, Int.reduceLE, true_and, and_true, reduceCtorEq, or_false, false_or, or_true, Option.some.injEq, exists_eq_left', Bool.not_true, Bool.not_false, ne_eq, Int.reduceEq, not_true_eq_false, not_false_eq_true, Int.reduceLT, UInt8.reduceLT, UInt8.reduceLE, UInt8.reduceToNat]
      exact bad (by simp [nameC, le32.1 q1]) _ rfl
    by_cases q2 : 127 ≤ c
    · simp (maxSteps := 1000000) (disch := omega) only [h0, h3, len_s, hlt, idx_s, ← hc, q1, eq_true q2, W_seq, W_region, W_cond, W_block, W_skip, W_label, W_exit, W_goto, W_ret, WO_cons, WO_consG, WO_nil, wantedA_eq, wantB, evOp, ev_tmp, ev_const, ev_fn, WN_some, WN_none, updO_some, updO_none, upd_eq,
 ↓reduceIte, Nat.reduceEqDiff, List.nil_append, List.cons_append, List.append_nil, List.map_cons, List.map_nil, env0_zero, env0_succ, env0_nil, Option.map_some, Option.map_none, seqQ_normal, seqQ_ret, seqQ_exit, seqQ_goto, blockQ_normal, blockQ_ret, blockQ_exit, blockQ_goto, condW_bool, loopQ_ret, loopQ_exit, loopQ_goto, endQ_ret, endQ_normal,
 lss_i, leq_i, gtr_i, geq_i, eql_i, neq_i, eql_8, neq_8, lss_8, leq_8, gtr_8, geq_8, eql_s, neq_s, eql_b, neq_b, not_b, by_bys, by_nils, load_cp1, beq_true, beq_false, Bool.not_eq_true', decide_eq_true_eq, decide_eq_false_iff_not, decide_true, decide_false,
 Int.toNat_natCast, Int.ofNat_lt, Int.ofNat_le, Int.natCast_inj, Bool.false_eq_true, Bool.true_eq_false, extPV, List.getElem?_cons_zero, List.getElem?_cons_succ, nilckPV, Int.reduceToNat, Int.reduceLE, true_and, and_true, reduceCtorEq, or_false, false_or, or_true, Option.some.injEq, exists_eq_left', Bool.not_true, Bool.not_false, ne_eq, Int.reduceEq, not_true_eq_false, not_false_eq_true, Int.reduceLT, UInt8.reduceLT, UInt8.reduceLE, UInt8.reduceToNat]
      exact bad (by simp [nameC, ge127.1 q2]) _ rfl
    by_cases q3 : c = 58
    · simp (maxSteps := 1000000) (disch := omega) only [h0, h3, len_s, hlt, idx_s, ← hc, q1, q2, eq_true q3, W_seq, W_region, W_cond, W_block, W_skip, W_label, W_exit, W_goto, W_ret, WO_cons, WO_consG, WO_nil, wantedA_eq, wantB, evOp, ev_tmp, ev_const, ev_fn, WN_some, WN_none, updO_some, updO_none, upd_eq,
 ↓reduceIte, Nat.reduceEqDiff, List.nil_append, List.cons_append, List.append_nil, List.map_cons, List.map_nil, env0_zero, env0_succ, env0_nil, Option.map_some, Option.map_none, seqQ_normal, seqQ_ret, seqQ_exit, seqQ_goto, blockQ_normal, blockQ_ret, blockQ_exit, blockQ_goto, condW_bool, loopQ_ret, loopQ_exit, loopQ_goto, endQ_ret, endQ_normal,
 lss_i, leq_i, gtr_i, geq_i, eql_i, neq_i, eql_8, neq_8, lss_8, leq_8, gtr_8, geq_8, eql_s, neq_s, eql_b, neq_b, not_b, by_bys, by_nils, load_cp1, beq_true, beq_false, Bool.not_eq_true', decide_eq_true_eq, decide_eq_false_iff_not, decide_true, decide_false,
 Int.toNat_natCast, Int.ofNat_lt, Int.ofNat_le, Int.natCast_inj, Bool.false_eq_true, Bool.true_eq_false, extPV, List.getElem?_cons_zero, List.getElem?_cons_succ, nilckPV, Int.reduceToNat, Int.reduceLE, true_and, and_true, reduceCtorEq, or_false, false_or, or_true, Option.some.injEq, exists_eq_left', Bool.not_true, Bool.not_false, ne_eq, Int.reduceEq, not_true_eq_false, not_false_eq_true, Int.reduceLT, UInt8.reduceLT, UInt8.reduceLE, UInt8.reduceToNat]
      exact bad (by simp [nameC, q3]) _ rfl
    · simp (maxSteps := 1000000) (disch := omega) only [h0, h3, len_s, hlt, idx_s, ← hc, q1, q2, q3, add_n, W_seq, W_region, W_cond, W_block, W_skip, W_label, W_exit, W_goto, W_ret, WO_cons, WO_consG, WO_nil, wantedA_eq, wantB, evOp, ev_tmp, ev_const, ev_fn, WN_some, WN_none, updO_some, updO_none, upd_eq,
 ↓reduceIte, Nat.reduceEqDiff, List.nil_append, List.cons_append, List.append_nil, List.map_cons, List.map_nil, env0_zero, env0_succ, env0_nil, Option.map_some, Option.map_none, seqQ_normal, seqQ_ret, seqQ_exit, seqQ_goto, blockQ_normal, blockQ_ret, blockQ_exit, blockQ_goto, condW_bool, loopQ_ret, loopQ_exit, loopQ_goto, endQ_ret, endQ_normal,
 lss_i, leq_i, gtr_i, geq_i, eql_i, neq_i, eql_8, neq_8, lss_8, leq_8, gtr_8, geq_8, eql_s, neq_s, eql_b, neq_b, not_b, by_bys, by_nils, load_cp1, beq_true, beq_false, Bool.not_eq_true', decide_eq_true_eq, decide_eq_false_iff_not, decide_true, decide_false,
 Int.toNat_natCast, Int.ofNat_lt, Int.ofNat_le, Int.natCast_inj, Bool.false_eq_true, Bool.true_eq_false, extPV, List.getElem?_cons_zero, List.getElem?_cons_succ, nilckPV, Int.reduceToNat, Int.reduceLE, true_and, and_true, reduceCtorEq, or_false, false_or, or_true, Option.some.injEq, exists_eq_left', Bool.not_true, Bool.not_false, ne_eq, Int.reduceEq, not_true_eq_false, not_false_eq_true, Int.reduceLT, UInt8.reduceLT, UInt8.reduceLE, UInt8.reduceToNat]
      refine loopQ_intro (m := l.length - (i + 1)) (by omega) ?_
      rw [hI]
      refine ⟨i + 1, rfl, by omega, hk, fun j hj => ?_, h0, rfl⟩
      by_cases hji : j = i
      · subst hji; rw [← hc]
        rw [le32] at q1; rw [ge127] at q2
        simp [nameC, q1, q2, q3]
      · exact hall j (by omega)
  · obtain rfl : i = l.length := by omega
    by_cases g1 : 1 ≤ l.length
    · have e1 : (1 : Int) ≤ (l.length : Int) := by omega
      by_cases g2 : l.length ≤ 64
      · have e2 : (l.length : Int) ≤ 64 := by omega
        simp (maxSteps := 1000000) (disch := omega) only [h0, h3, len_s, hlt, e1, e2, W_seq, W_region, W_cond, W_block, W_skip, W_label, W_exit, W_goto, W_ret, WO_cons, WO_consG, WO_nil, wantedA_eq, wantB, evOp, ev_tmp, ev_const, ev_fn, WN_some, WN_none, updO_some, updO_none, upd_eq,
 ↓reduceIte, Nat.reduceEqDiff, List.nil_append, List.cons_append, List.append_nil, List.map_cons, List.map_nil, env0_zero, env0_succ, env0_nil, Option.map_some, Option.map_none, seqQ_normal, seqQ_ret, seqQ_exit, seqQ_goto, blockQ_normal, blockQ_ret, blockQ_exit, blockQ_goto, condW_bool, loopQ_ret, loopQ_exit, loopQ_goto, endQ_ret, endQ_normal,
 lss_i, leq_i, gtr_i, geq_i, eql_i, neq_i, eql_8, neq_8, lss_8, leq_8, gtr_8, geq_8, eql_s, neq_s, eql_b, neq_b, not_b, by_bys, by_nils, load_cp1, beq_true, beq_false, Bool.not_eq_true', decide_eq_true_eq, decide_eq_false_iff_not, decide_true, decide_false,
 Int.toNat_natCast, Int.ofNat_lt, Int.ofNat_le, Int.natCast_inj, Bool.false_eq_true, Bool.true_eq_false, extPV, List.getElem?_cons_zero, List.getElem?_cons_succ, nilckPV, Int.reduceToNat, Int.reduceLE, true_and, and_true, reduceCtorEq, or_false, false_or, or_true, Option.some.injEq, exists_eq_left', Bool.not_true, Bool.not_false, ne_eq, Int.reduceEq, not_true_eq_false, not_false_eq_true, Int.reduceLT, UInt8.reduceLT, UInt8.reduceLE, UInt8.reduceToNat]
        refine ⟨.bool true, rfl, ?_⟩
        rw [show nameB l = true by simp only [nameB, all_getD (p := nameC) hall, Bool.and_true, Bool.and_eq_true, decide_eq_true_eq]; omega]
        exact hk.leave rfl (fun _ _ => rfl)
      · have e2 : ¬ (l.length : Int) ≤ 64 := by omega
        simp (maxSteps := 1000000) (disch := omega) only [h0, h3, len_s, hlt, e1, e2, W_seq, W_region, W_cond, W_block, W_skip, W_label, W_exit, W_goto, W_ret, WO_cons, WO_consG, WO_nil, wantedA_eq, wantB, evOp, ev_tmp, ev_const, ev_fn, WN_some, WN_none, updO_some, updO_none, upd_eq,
 ↓reduceIte, Nat.reduceEqDiff, List.nil_append, List.cons_append, List.append_nil, List.map_cons, List.map_nil, env0_zero, env0_succ, env0_nil, Option.map_some, Option.map_none, seqQ_normal, seqQ_ret, seqQ_exit, seqQ_goto, blockQ_normal, blockQ_ret, blockQ_exit, blockQ_goto, condW_bool, loopQ_ret, loopQ_exit, loopQ_goto, endQ_ret, endQ_normal,
 lss_i, leq_i, gtr_i, geq_i, eql_i, neq_i, eql_8, neq_8, lss_8, leq_8, gtr_8, geq_8, eql_s, neq_s, eql_b, neq_b, not_b, by_bys, by_nils, load_cp1, beq_true, beq_false, Bool.not_eq_true', decide_eq_true_eq, decide_eq_false_iff_not, decide_true, decide_false,
 Int.toNat_natCast, Int.ofNat_lt, Int.ofNat_le, Int.natCast_inj, Bool.false_eq_true, Bool.true_eq_false, extPV, List.getElem?_cons_zero, List.getElem?_cons_succ, nilckPV, Int.reduceToNat, Int.reduceLE, true_and, and_true, reduceCtorEq, or_false, false_or, or_true, Option.some.injEq, exists_eq_left', Bool.not_true, Bool.not_false, ne_eq, Int.reduceEq, not_true_eq_false, not_false_eq_true, Int.reduceLT, UInt8.reduceLT, UInt8.reduceLE, UInt8.reduceToNat]
        refine ⟨.bool false, rfl, ?_⟩
        rw [show nameB l = false by simp [nameB, g2]]
        exact hk.leave rfl (fun _ _ => rfl)
    · have e1 : ¬ (1 : Int) ≤ (l.length : Int) := by omega
      simp (maxSteps := 1000000) (disch := omega) only [h0, h3, len_s, hlt, e1, W_seq, W_region, W_cond, W_block, W_skip, W_label, W_exit, W_goto, W_ret, WO_cons, WO_consG, WO_nil, wantedA_eq, wantB, evOp, ev_tmp, ev_const, ev_fn, WN_some, WN_none, updO_some, updO_none, upd_eq,
 ↓reduceIte, Nat.reduceEqDiff, List.nil_append, List.cons_append, List.append_nil, List.map_cons, List.map_nil, env0_zero, env0_succ, env0_nil, Option.map_some, Option.map_none, seqQ_normal, seqQ_ret, seqQ_exit, seqQ_goto, blockQ_normal, blockQ_ret, blockQ_exit, blockQ_goto, condW_bool, loopQ_ret, loopQ_exit, loopQ_goto, endQ_ret, endQ_normal,
 lss_i, leq_i, gtr_i, geq_i, eql_i, neq_i, eql_8, neq_8, lss_8, leq_8, gtr_8, geq_8, eql_s, neq_s, eql_b, neq_b, not_b, by_bys, by_nils, load_cp1, beq_true, beq_false, Bool.not_eq_true', decide_eq_true_eq, decide_eq_false_iff_not, decide_true, decide_false,
 Int.toNat_natCast, Int.ofNat_lt, Int.ofNat_le, Int.natCast_inj, Bool.false_eq_true, Bool.true_eq_false, extPV, List.getElem?_cons_zero, List.getElem?_cons_succ, nilckPV, Int.reduceToNat, Int.reduceLE, true_and, and_true, reduceCtorEq, or_false, false_or, or_true, Option.some.injEq, exists_eq_left', Bool.not_true, Bool.not_false, ne_eq, Int.reduceEq, not_true_eq_false, not_false_eq_true, Int.reduceLT, UInt8.reduceLT, UInt8.reduceLE, UInt8.reduceToNat]
      refine ⟨.bool false, rfl, ?_⟩
      rw [show nameB l = false by simp [nameB]; omega]
      exact hk.leave rfl (fun _ _ => rfl)

/-! ### Blanks at the ends -/
def blankC (c : UInt8) : Bool := decide (c = 32) || decide (c = 9)
def ltrim : List UInt8 → List UInt8
  | [] => []
  | c :: r => if blankC c then ltrim r else c :: r
def rtrim (l : List UInt8) : List UInt8 := (ltrim l.reverse).reverse
def trimOf (l : List UInt8) : List UInt8 := rtrim (ltrim l)

theorem ltrim_len : ∀ {l : List UInt8}, (ltrim l).length ≤ l.length := by
  intro l
  induction l with
  | nil => simp [ltrim]
  | cons c r ih => simp only [ltrim]; split <;> simp; omega
theorem rtrim_snoc {l : List UInt8} {c : UInt8} : rtrim (l ++ [c]) = if blankC c then rtrim l else l ++ [c] := by
  unfold rtrim
  simp only [List.reverse_append, List.reverse_cons, List.reverse_nil, List.nil_append, List.singleton_append, ltrim]
  split <;> simp
theorem rtrim_len {l : List UInt8} : (rtrim l).length ≤ l.length := by
  unfold rtrim; have := ltrim_len (l := l.reverse); simpa using this
theorem trimOf_len {l : List UInt8} : (trimOf l).length ≤ l.length := by
  have := rtrim_len (l := ltrim l); have := ltrim_len (l := l); unfold trimOf; omega

theorem rblank_spec {c : UInt8} : call prog (.fn 173 []) [.b8 c] st = some (.bool (blankC c), st) := by
  refine call_of_W prog_173 ?_
  unfold F_posthornref06_blank; dsimp only
  by_cases h : c = 32
  · simp (maxSteps := 1000000) (disch := omega) only [eq_true h, W_seq, W_region, W_cond, W_block, W_skip, W_label, W_exit, W_goto, W_ret, WO_cons, WO_consG, WO_nil, wantedA_eq, wantB, evOp, ev_tmp, ev_const, ev_fn, WN_some, WN_none, updO_some, updO_none, upd_eq,
 ↓reduceIte, Nat.reduceEqDiff, List.nil_append, List.cons_append, List.append_nil, List.map_cons, List.map_nil, env0_zero, env0_succ, env0_nil, Option.map_some, Option.map_none, seqQ_normal, seqQ_ret, seqQ_exit, seqQ_goto, blockQ_normal, blockQ_ret, blockQ_exit, blockQ_goto, condW_bool, loopQ_ret, loopQ_exit, loopQ_goto, endQ_ret, endQ_normal,
 lss_i, leq_i, gtr_i, geq_i, eql_i, neq_i, eql_8, neq_8, lss_8, leq_8, gtr_8, geq_8, eql_s, neq_s, eql_b, neq_b, not_b, by_bys, by_nils, load_cp1, beq_true, beq_false, Bool.not_eq_true', decide_eq_true_eq, decide_eq_false_iff_not, decide_true, decide_false,
 Int.toNat_natCast, Int.ofNat_lt, Int.ofNat_le, Int.natCast_inj, Bool.false_eq_true, Bool.true_eq_false, extPV, List.getElem?_cons_zero, List.getElem?_cons_succ, nilckPV, Int.reduceToNat, Int.reduceLE, true_and, and_true, reduceCtorEq, or_false, false_or, or_true, Option.some.injEq, exists_eq_left', Bool.not_true, Bool.not_false, ne_eq, Int.reduceEq, not_true_eq_false, not_false_eq_true, Int.reduceLT, UInt8.reduceLT, UInt8.reduceLE, UInt8.reduceToNat]
    rw [show blankC c = true by simp [blankC, h]]
    exact end1 rfl Kp_bool
  · simp (maxSteps := 1000000) (disch := omega) only [h, W_seq, W_region, W_cond, W_block, W_skip, W_label, W_exit, W_goto, W_ret, WO_cons, WO_consG, WO_nil, wantedA_eq, wantB, evOp, ev_tmp, ev_const, ev_fn, WN_some, WN_none, updO_some, updO_none, upd_eq,
 ↓reduceIte, Nat.reduceEqDiff, List.nil_append, List.cons_append, List.append_nil, List.map_cons, List.map_nil, env0_zero, env0_succ, env0_nil, Option.map_some, Option.map_none, seqQ_normal, seqQ_ret, seqQ_exit, seqQ_goto, blockQ_normal, blockQ_ret, blockQ_exit, blockQ_goto, condW_bool, loopQ_ret, loopQ_exit, loopQ_goto, endQ_ret, endQ_normal,
 lss_i, leq_i, gtr_i, geq_i, eql_i, neq_i, eql_8, neq_8, lss_8, leq_8, gtr_8, geq_8, eql_s, neq_s, eql_b, neq_b, not_b, by_bys, by_nils, load_cp1, beq_true, beq_false, Bool.not_eq_true', decide_eq_true_eq, decide_eq_false_iff_not, decide_true, decide_false,
 Int.toNat_natCast, Int.ofNat_lt, Int.ofNat_le, Int.natCast_inj, Bool.false_eq_true, Bool.true_eq_false, extPV, List.getElem?_cons_zero, List.getElem?_cons_succ, nilckPV, Int.reduceToNat, Int.reduceLE, true_and, and_true, reduceCtorEq, or_false, false_or, or_true, Option.some.injEq, exists_eq_left', Bool.not_true, Bool.not_false, ne_eq, Int.reduceEq, not_true_eq_false, not_false_eq_true, Int.reduceLT, UInt8.reduceLT, UInt8.reduceLE, UInt8.reduceToNat]
    rw [show blankC c = decide (c = 9) by simp [blankC, h]]
    exact end1 rfl Kp_bool
end Go.Ab

/-
  Texts without blanks at their ends; values of fields.
-/
namespace Go.Ab
set_option linter.unusedVariables false
set_option linter.unusedSimpArgs false
variable {st s : St} {e : Env}

theorem head_split {m : List UInt8} {c : UInt8} (h : 0 < m.length) (hc : c = m.getD 0 0) : m = c :: m.drop 1 := by
  have := drop_getD (l := m) (i := 0) h
  rw [hc]; simpa using this
theorem last_split {m : List UInt8} {c : UInt8} (h : 0 < m.length) (hc : c = m.getD (m.length - 1) 0) : m = m.take (m.length - 1) ++ [c] := by
  have := take_getD (l := m) (i := m.length - 1) (by omega)
  rw [show m.length - 1 + 1 = m.length by omega, List.take_length] at this
  rw [hc]; exact this

theorem ltrim_blank {m : List UInt8} {c : UInt8} (h : 0 < m.length) (hc : c = m.getD 0 0) (hb : blankC c = true) : ltrim (m.drop 1) = ltrim m := by
  have e := head_split h hc
  obtain ⟨r, hr⟩ : ∃ r, r = m.drop 1 := ⟨_, rfl⟩
  rw [← hr] at e ⊢
  rw [e]; simp [ltrim, hb]
theorem ltrim_stop {m : List UInt8} {c : UInt8} (h : 0 < m.length) (hc : c = m.getD 0 0) (hb : blankC c = false) : ltrim m = m := by
  have e := head_split h hc
  obtain ⟨r, hr⟩ : ∃ r, r = m.drop 1 := ⟨_, rfl⟩
  rw [← hr] at e
  rw [e]; simp [ltrim, hb]
theorem rtrim_blank {m : List UInt8} {c : UInt8} (h : 0 < m.length) (hc : c = m.getD (m.length - 1) 0) (hb : blankC c = true) : rtrim (m.take (m.length - 1)) = rtrim m := by
  have e := last_split h hc
  obtain ⟨r, hr⟩ : ∃ r, r = m.take (m.length - 1) := ⟨_, rfl⟩
  rw [← hr] at e ⊢
  rw [e, rtrim_snoc, if_pos hb]
theorem rtrim_stop {m : List UInt8} {c : UInt8} (h : 0 < m.length) (hc : c = m.getD (m.length - 1) 0) (hb : blankC c = false) : rtrim m = m := by
  have e := last_split h hc
  obtain ⟨r, hr⟩ : ∃ r, r = m.take (m.length - 1) := ⟨_, rfl⟩
  rw [← hr] at e
  rw [e, rtrim_snoc, if_neg (by simp [hb])]

theorem trim_spec {l : List UInt8} (hl : l.length ≤ 100000000) : call prog (.fn 168 []) [.str l] st = some (.str (trimOf l), st) := by
  refine call_of_W prog_168 ?_
  unfold F_fields_trim; dsimp only
  obtain ⟨J, hJ⟩ : ∃ J : List UInt8 → Env → St → Prop, J = fun m E S => Kept st S ∧ E 0 = .str m := ⟨_, rfl⟩
  refine W_cut (J l) ?_ ?_
  · simp (maxSteps := 1000000) (disch := omega) only [hJ, env0, W_seq, W_region, W_cond, W_block, W_skip, W_label, W_exit, W_goto, W_ret, WO_cons, WO_consG, WO_nil, wantedA_eq, wantB, evOp, ev_tmp, ev_const, ev_fn, WN_some, WN_none, updO_some, updO_none, upd_eq,
 ↓reduceIte, Nat.reduceEqDiff, List.nil_append, List.cons_append, List.append_nil, List.map_cons, List.map_nil, env0_zero, env0_succ, env0_nil, Option.map_some, Option.map_none, seqQ_normal, seqQ_ret, seqQ_exit, seqQ_goto, blockQ_normal, blockQ_ret, blockQ_exit, blockQ_goto, condW_bool, loopQ_ret, loopQ_exit, loopQ_goto, endQ_ret, endQ_normal,
 lss_i, leq_i, gtr_i, geq_i, eql_i, neq_i, eql_8, neq_8, lss_8, leq_8, gtr_8, geq_8, eql_s, neq_s, eql_b, neq_b, not_b, by_bys, by_nils, load_cp1, beq_true, beq_false, Bool.not_eq_true', decide_eq_true_eq, decide_eq_false_iff_not, decide_true, decide_false,
 Int.toNat_natCast, Int.ofNat_lt, Int.ofNat_le, Int.natCast_inj, Bool.false_eq_true, Bool.true_eq_false, extPV, List.getElem?_cons_zero, List.getElem?_cons_succ, nilckPV, Int.reduceToNat, Int.reduceLE, true_and, and_true, reduceCtorEq, or_false, false_or, or_true, Option.some.injEq, exists_eq_left', Bool.not_true, Bool.not_false, ne_eq, Int.reduceEq, not_true_eq_false, not_false_eq_true, Int.reduceLT, UInt8.reduceLT, UInt8.reduceLE, UInt8.reduceToNat]
    exact ⟨Kept.start, rfl⟩
  intro e S hj
  refine W_cut (J (ltrim l)) ?_ ?_
  · rw [hJ] at hj
    obtain ⟨hk, h0⟩ := hj
    rw [W_block]
    obtain ⟨I, hI⟩ : ∃ I : Nat → Env → St → Prop, I = fun k e s' => ∃ (m : List UInt8), k = m.length ∧ m.length ≤ l.length ∧ ltrim m = ltrim l ∧ Kept st s' ∧ e 0 = .str m := ⟨_, rfl⟩
    refine W_loop I ?_ (n := l.length) (by
      rw [hI]
      exact ⟨l, rfl, by omega, rfl, hk, h0⟩)
    clear hk h0
    intro k e s' hh
    rw [hI] at hh
    obtain ⟨m, rfl, hml, ht, hk, h0⟩ := hh
    by_cases hlt : 0 < m.length
    · have e1 : (0 : Int) < (m.length : Int) := by omega
      obtain ⟨c, hc⟩ : ∃ c, c = m.getD 0 0 := ⟨_, rfl⟩
      have hnext : blankC c = true → ∀ E : Env, E 0 = .str (m.drop 1) → I (m.length - 1) E s' := fun hb E k0 => by
        rw [hI]; exact ⟨m.drop 1, by simp, by simp; omega, by rw [← ht]; exact ltrim_blank hlt hc hb, hk, k0⟩
      by_cases q1 : c = 32
      · simp (maxSteps := 1000000) (disch := omega) only [h0, len_s, e1, idx_s, ← hc, eq_true q1, slc_s_lo, W_seq, W_region, W_cond, W_block, W_skip, W_label, W_exit, W_goto, W_ret, WO_cons, WO_consG, WO_nil, wantedA_eq, wantB, evOp, ev_tmp, ev_const, ev_fn, WN_some, WN_none, updO_some, updO_none, upd_eq,
 ↓reduceIte, Nat.reduceEqDiff, List.nil_append, List.cons_append, List.append_nil, List.map_cons, List.map_nil, env0_zero, env0_succ, env0_nil, Option.map_some, Option.map_none, seqQ_normal, seqQ_ret, seqQ_exit, seqQ_goto, blockQ_normal, blockQ_ret, blockQ_exit, blockQ_goto, condW_bool, loopQ_ret, loopQ_exit, loopQ_goto, endQ_ret, endQ_normal,
 lss_i, leq_i, gtr_i, geq_i, eql_i, neq_i, eql_8, neq_8, lss_8, leq_8, gtr_8, geq_8, eql_s, neq_s, eql_b, neq_b, not_b, by_bys, by_nils, load_cp1, beq_true, beq_false, Bool.not_eq_true', decide_eq_true_eq, decide_eq_false_iff_not, decide_true, decide_false,
 Int.toNat_natCast, Int.ofNat_lt, Int.ofNat_le, Int.natCast_inj, Bool.false_eq_true, Bool.true_eq_false, extPV, List.getElem?_cons_zero, List.getElem?_cons_succ, nilckPV, Int.reduceToNat, Int.reduceLE, true_and, and_true, reduceCtorEq, or_false, false_or, or_true, Option.some.injEq, exists_eq_left', Bool.not_true, Bool.not_false, ne_eq, Int.reduceEq, not_true_eq_false, not_false_eq_true, Int.reduceLT, UInt8.reduceLT, UInt8.reduceLE, UInt8.reduceToNat]
        exact loopQ_intro (m := m.length - 1) (by omega) (hnext (by simp [blankC, q1]) _ rfl)
      by_cases q2 : c = 9
      · simp (maxSteps := 1000000) (disch := omega) only [h0, len_s, e1, idx_s, ← hc, q1, eq_true q2, slc_s_lo, W_seq, W_region, W_cond, W_block, W_skip, W_label, W_exit, W_goto, W_ret, WO_cons, WO_consG, WO_nil, wantedA_eq, wantB, evOp, ev_tmp, ev_const, ev_fn, WN_some, WN_none, updO_some, updO_none, upd_eq,
 ↓reduceIte, Nat.reduceEqDiff, List.nil_append, List.cons_append, List.append_nil, List.map_cons, List.map_nil, env0_zero, env0_succ, env0_nil, Option.map_some, Option.map_none, seqQ_normal, seqQ_ret, seqQ_exit, seqQ_goto, blockQ_normal, blockQ_ret, blockQ_exit, blockQ_goto, condW_bool, loopQ_ret, loopQ_exit, loopQ_goto, endQ_ret, endQ_normal,
 lss_i, leq_i, gtr_i, geq_i, eql_i, neq_i, eql_8, neq_8, lss_8, leq_8, gtr_8, geq_8, eql_s, neq_s, eql_b, neq_b, not_b, by_bys, by_nils, load_cp1, beq_true, beq_false, Bool.not_eq_true', decide_eq_true_eq, decide_eq_false_iff_not, decide_true, decide_false,
 Int.toNat_natCast, Int.ofNat_lt, Int.ofNat_le, Int.natCast_inj, Bool.false_eq_true, Bool.true_eq_false, extPV, List.getElem?_cons_zero, List.getElem?_cons_succ, nilckPV, Int.reduceToNat, Int.reduceLE, true_and, and_true, reduceCtorEq, or_false, false_or, or_true, Option.some.injEq, exists_eq_left', Bool.not_true, Bool.not_false, ne_eq, Int.reduceEq, not_true_eq_false, not_false_eq_true, Int.reduceLT, UInt8.reduceLT, UInt8.reduceLE, UInt8.reduceToNat]
        exact loopQ_intro (m := m.length - 1) (by omega) (hnext (by simp [blankC, q2]) _ rfl)
      · simp (maxSteps := 1000000) (disch := omega) only [h0, len_s, e1, idx_s, ← hc, q1, q2, slc_s_lo, hJ, W_seq, W_region, W_cond, W_block, W_skip, W_label, W_exit, W_goto, W_ret, WO_cons, WO_consG, WO_nil, wantedA_eq, wantB, evOp, ev_tmp, ev_const, ev_fn, WN_some, WN_none, updO_some, updO_none, upd_eq,
 ↓reduceIte, Nat.reduceEqDiff, List.nil_append, List.cons_append, List.append_nil, List.map_cons, List.map_nil, env0_zero, env0_succ, env0_nil, Option.map_some, Option.map_none, seqQ_normal, seqQ_ret, seqQ_exit, seqQ_goto, blockQ_normal, blockQ_ret, blockQ_exit, blockQ_goto, condW_bool, loopQ_ret, loopQ_exit, loopQ_goto, endQ_ret, endQ_normal,
 lss_i, leq_i, gtr_i, geq_i, eql_i, neq_i, eql_8, neq_8, lss_8, leq_8, gtr_8, geq_8, eql_s, neq_s, eql_b, neq_b, not_b, by_bys, by_nils, load_cp1, beq_true, beq_false, Bool.not_eq_true', decide_eq_true_eq, decide_eq_false_iff_not, decide_true, decide_false,
 Int.toNat_natCast, Int.ofNat_lt, Int.ofNat_le, Int.natCast_inj, Bool.false_eq_true, Bool.true_eq_false, extPV, List.getElem?_cons_zero, List.getElem?_cons_succ, nilckPV, Int.reduceToNat, Int.reduceLE, true_and, and_true, reduceCtorEq, or_false, false_or, or_true, Option.some.injEq, exists_eq_left', Bool.not_true, Bool.not_false, ne_eq, Int.reduceEq, not_true_eq_false, not_false_eq_true, Int.reduceLT, UInt8.reduceLT, UInt8.reduceLE, UInt8.reduceToNat]
        refine ⟨hk, ?_⟩
        rw [← ht, ltrim_stop hlt hc (by simp [blankC, q1, q2])]
    · have e1 : ¬ (0 : Int) < (m.length : Int) := by omega
      simp (maxSteps := 1000000) (disch := omega) only [h0, len_s, e1, hJ, W_seq, W_region, W_cond, W_block, W_skip, W_label, W_exit, W_goto, W_ret, WO_cons, WO_consG, WO_nil, wantedA_eq, wantB, evOp, ev_tmp, ev_const, ev_fn, WN_some, WN_none, updO_some, updO_none, upd_eq,
 ↓reduceIte, Nat.reduceEqDiff, List.nil_append, List.cons_append, List.append_nil, List.map_cons, List.map_nil, env0_zero, env0_succ, env0_nil, Option.map_some, Option.map_none, seqQ_normal, seqQ_ret, seqQ_exit, seqQ_goto, blockQ_normal, blockQ_ret, blockQ_exit, blockQ_goto, condW_bool, loopQ_ret, loopQ_exit, loopQ_goto, endQ_ret, endQ_normal,
 lss_i, leq_i, gtr_i, geq_i, eql_i, neq_i, eql_8, neq_8, lss_8, leq_8, gtr_8, geq_8, eql_s, neq_s, eql_b, neq_b, not_b, by_bys, by_nils, load_cp1, beq_true, beq_false, Bool.not_eq_true', decide_eq_true_eq, decide_eq_false_iff_not, decide_true, decide_false,
 Int.toNat_natCast, Int.ofNat_lt, Int.ofNat_le, Int.natCast_inj, Bool.false_eq_true, Bool.true_eq_false, extPV, List.getElem?_cons_zero, List.getElem?_cons_succ, nilckPV, Int.reduceToNat, Int.reduceLE, true_and, and_true, reduceCtorEq, or_false, false_or, or_true, Option.some.injEq, exists_eq_left', Bool.not_true, Bool.not_false, ne_eq, Int.reduceEq, not_true_eq_false, not_false_eq_true, Int.reduceLT, UInt8.reduceLT, UInt8.reduceLE, UInt8.reduceToNat]
      refine ⟨hk, ?_⟩
      rw [← ht, List.length_eq_zero_iff.1 (by omega : m.length = 0)]; rfl
  clear hj
  intro e S hj
  refine W_cut (J (trimOf l)) ?_ ?_
  · rw [hJ] at hj
    obtain ⟨hk, h0⟩ := hj
    rw [W_block]
    have hll := ltrim_len (l := l)
    obtain ⟨I, hI⟩ : ∃ I : Nat → Env → St → Prop, I = fun k e s' => ∃ (m : List UInt8), k = m.length ∧ m.length ≤ l.length ∧ rtrim m = rtrim (ltrim l) ∧ Kept st s' ∧ e 0 = .str m := ⟨_, rfl⟩
    refine W_loop I ?_ (n := (ltrim l).length) (by
      rw [hI]
      exact ⟨ltrim l, rfl, hll, rfl, hk, h0⟩)
    clear hk h0
    intro k e s' hh
    rw [hI] at hh
    obtain ⟨m, rfl, hml, ht, hk, h0⟩ := hh
    by_cases hlt : 0 < m.length
    · have e1 : (0 : Int) < (m.length : Int) := by omega
      obtain ⟨c, hc⟩ : ∃ c, c = m.getD (m.length - 1) 0 := ⟨_, rfl⟩
      have hnext : blankC c = true → ∀ E : Env, E 0 = .str (m.take (m.length - 1)) → I (m.length - 1) E s' := fun hb E k0 => by
        rw [hI]; exact ⟨m.take (m.length - 1), by simp, by simp; omega, by
          rw [← ht]; exact rtrim_blank hlt hc hb, hk, k0⟩
      by_cases q1 : c = 32
      · simp (maxSteps := 1000000) (disch := omega) only [h0, len_s, e1, sub_n, idx_s, ← hc, eq_true q1, slc_s_hi, W_seq, W_region, W_cond, W_block, W_skip, W_label, W_exit, W_goto, W_ret, WO_cons, WO_consG, WO_nil, wantedA_eq, wantB, evOp, ev_tmp, ev_const, ev_fn, WN_some, WN_none, updO_some, updO_none, upd_eq,
 ↓reduceIte, Nat.reduceEqDiff, List.nil_append, List.cons_append, List.append_nil, List.map_cons, List.map_nil, env0_zero, env0_succ, env0_nil, Option.map_some, Option.map_none, seqQ_normal, seqQ_ret, seqQ_exit, seqQ_goto, blockQ_normal, blockQ_ret, blockQ_exit, blockQ_goto, condW_bool, loopQ_ret, loopQ_exit, loopQ_goto, endQ_ret, endQ_normal,
 lss_i, leq_i, gtr_i, geq_i, eql_i, neq_i, eql_8, neq_8, lss_8, leq_8, gtr_8, geq_8, eql_s, neq_s, eql_b, neq_b, not_b, by_bys, by_nils, load_cp1, beq_true, beq_false, Bool.not_eq_true', decide_eq_true_eq, decide_eq_false_iff_not, decide_true, decide_false,
 Int.toNat_natCast, Int.ofNat_lt, Int.ofNat_le, Int.natCast_inj, Bool.false_eq_true, Bool.true_eq_false, extPV, List.getElem?_cons_zero, List.getElem?_cons_succ, nilckPV, Int.reduceToNat, Int.reduceLE, true_and, and_true, reduceCtorEq, or_false, false_or, or_true, Option.some.injEq, exists_eq_left', Bool.not_true, Bool.not_false, ne_eq, Int.reduceEq, not_true_eq_false, not_false_eq_true, Int.reduceLT, UInt8.reduceLT, UInt8.reduceLE, UInt8.reduceToNat]
        exact loopQ_intro (m := m.length - 1) (by omega) (hnext (by simp [blankC, q1]) _ rfl)
      by_cases q2 : c = 9
      · simp (maxSteps := 1000000) (disch := omega) only [h0, len_s, e1, sub_n, idx_s, ← hc, q1, eq_true q2, slc_s_hi, W_seq, W_region, W_cond, W_block, W_skip, W_label, W_exit, W_goto, W_ret, WO_cons, WO_consG, WO_nil, wantedA_eq, wantB, evOp, ev_tmp, ev_const, ev_fn, WN_some, WN_none, updO_some, updO_none, upd_eq,
 ↓reduceIte, Nat.reduceEqDiff, List.nil_append, List.cons_append, List.append_nil, List.map_cons, List.map_nil, env0_zero, env0_succ, env0_nil, Option.map_some, Option.map_none, seqQ_normal, seqQ_ret, seqQ_exit, seqQ_goto, blockQ_normal, blockQ_ret, blockQ_exit, blockQ_goto, condW_bool, loopQ_ret, loopQ_exit, loopQ_goto, endQ_ret, endQ_normal,
 lss_i, leq_i, gtr_i, geq_i, eql_i, neq_i, eql_8, neq_8, lss_8, leq_8, gtr_8, geq_8, eql_s, neq_s, eql_b, neq_b, not_b, by_bys, by_nils, load_cp1, beq_true, beq_false, Bool.not_eq_true', decide_eq_true_eq, decide_eq_false_iff_not, decide_true, decide_false,
 Int.toNat_natCast, Int.ofNat_lt, Int.ofNat_le, Int.natCast_inj, Bool.false_eq_true, Bool.true_eq_false, extPV, List.getElem?_cons_zero, List.getElem?_cons_succ, nilckPV, Int.reduceToNat, Int.reduceLE, true_and, and_true, reduceCtorEq, or_false, false_or, or_true, Option.some.injEq, exists_eq_left', Bool.not_true, Bool.not_false, ne_eq, Int.reduceEq, not_true_eq_false, not_false_eq_true, Int.reduceLT, UInt8.reduceLT, UInt8.reduceLE, UInt8.reduceToNat]
        exact loopQ_intro (m := m.length - 1) (by omega) (hnext (by simp [blankC, q2]) _ rfl)
      · simp (maxSteps := 1000000) (disch := omega) only [h0, len_s, e1, sub_n, idx_s, ← hc, q1, q2, hJ, W_seq, W_region, W_cond, W_block, W_skip, W_label, W_exit, W_goto, W_ret, WO_cons, WO_consG, WO_nil, wantedA_eq, wantB, evOp, ev_tmp, ev_const, ev_fn, WN_some, WN_none, updO_some, updO_none, upd_eq,
 ↓reduceIte, Nat.reduceEqDiff, List.nil_append, List.cons_append, List.append_nil, List.map_cons, List.map_nil, env0_zero, env0_succ, env0_nil, Option.map_some, Option.map_none, seqQ_normal, seqQ_ret, seqQ_exit, seqQ_goto, blockQ_normal, blockQ_ret, blockQ_exit, blockQ_goto, condW_bool, loopQ_ret, loopQ_exit, loopQ_goto, endQ_ret, endQ_normal,
 lss_i, leq_i, gtr_i, geq_i, eql_i, neq_i, eql_8, neq_8, lss_8, leq_8, gtr_8, geq_8, eql_s, neq_s, eql_b, neq_b, not_b, by_bys, by_nils, load_cp1, beq_true, beq_false, Bool.not_eq_true', decide_eq_true_eq, decide_eq_false_iff_not, decide_true, decide_false,
 Int.toNat_natCast, Int.ofNat_lt, Int.ofNat_le, Int.natCast_inj, Bool.false_eq_true, Bool.true_eq_false, extPV, List.getElem?_cons_zero, List.getElem?_cons_succ, nilckPV, Int.reduceToNat, Int.reduceLE, true_and, and_true, reduceCtorEq, or_false, false_or, or_true, Option.some.injEq, exists_eq_left', Bool.not_true, Bool.not_false, ne_eq, Int.reduceEq, not_true_eq_false, not_false_eq_true, Int.reduceLT, UInt8.reduceLT, UInt8.reduceLE, UInt8.reduceToNat]
        refine ⟨hk, ?_⟩
        unfold trimOf
        rw [← ht, rtrim_stop hlt hc (by simp [blankC, q1, q2])]
    · have e1 : ¬ (0 : Int) < (m.length : Int) := by omega
      simp (maxSteps := 1000000) (disch := omega) only [h0, len_s, e1, hJ, W_seq, W_region, W_cond, W_block, W_skip, W_label, W_exit, W_goto, W_ret, WO_cons, WO_consG, WO_nil, wantedA_eq, wantB, evOp, ev_tmp, ev_const, ev_fn, WN_some, WN_none, updO_some, updO_none, upd_eq,
 ↓reduceIte, Nat.reduceEqDiff, List.nil_append, List.cons_append, List.append_nil, List.map_cons, List.map_nil, env0_zero, env0_succ, env0_nil, Option.map_some, Option.map_none, seqQ_normal, seqQ_ret, seqQ_exit, seqQ_goto, blockQ_normal, blockQ_ret, blockQ_exit, blockQ_goto, condW_bool, loopQ_ret, loopQ_exit, loopQ_goto, endQ_ret, endQ_normal,
 lss_i, leq_i, gtr_i, geq_i, eql_i, neq_i, eql_8, neq_8, lss_8, leq_8, gtr_8, geq_8, eql_s, neq_s, eql_b, neq_b, not_b, by_bys, by_nils, load_cp1, beq_true, beq_false, Bool.not_eq_true', decide_eq_true_eq, decide_eq_false_iff_not, decide_true, decide_false,
 Int.toNat_natCast, Int.ofNat_lt, Int.ofNat_le, Int.natCast_inj, Bool.false_eq_true, Bool.true_eq_false, extPV, List.getElem?_cons_zero, List.getElem?_cons_succ, nilckPV, Int.reduceToNat, Int.reduceLE, true_and, and_true, reduceCtorEq, or_false, false_or, or_true, Option.some.injEq, exists_eq_left', Bool.not_true, Bool.not_false, ne_eq, Int.reduceEq, not_true_eq_false, not_false_eq_true, Int.reduceLT, UInt8.reduceLT, UInt8.reduceLE, UInt8.reduceToNat]
      refine ⟨hk, ?_⟩
      unfold trimOf
      rw [← ht, List.length_eq_zero_iff.1 (by omega : m.length = 0)]; rfl
  clear hj
  intro e S hj
  rw [hJ] at hj
  obtain ⟨hk, h0⟩ := hj
  simp (maxSteps := 1000000) (disch := omega) only [h0, W_seq, W_region, W_cond, W_block, W_skip, W_label, W_exit, W_goto, W_ret, WO_cons, WO_consG, WO_nil, wantedA_eq, wantB, evOp, ev_tmp, ev_const, ev_fn, WN_some, WN_none, updO_some, updO_none, upd_eq,
 ↓reduceIte, Nat.reduceEqDiff, List.nil_append, List.cons_append, List.append_nil, List.map_cons, List.map_nil, env0_zero, env0_succ, env0_nil, Option.map_some, Option.map_none, seqQ_normal, seqQ_ret, seqQ_exit, seqQ_goto, blockQ_normal, blockQ_ret, blockQ_exit, blockQ_goto, condW_bool, loopQ_ret, loopQ_exit, loopQ_goto, endQ_ret, endQ_normal,
 lss_i, leq_i, gtr_i, geq_i, eql_i, neq_i, eql_8, neq_8, lss_8, leq_8, gtr_8, geq_8, eql_s, neq_s, eql_b, neq_b, not_b, by_bys, by_nils, load_cp1, beq_true, beq_false, Bool.not_eq_true', decide_eq_true_eq, decide_eq_false_iff_not, decide_true, decide_false,
 Int.toNat_natCast, Int.ofNat_lt, Int.ofNat_le, Int.natCast_inj, Bool.false_eq_true, Bool.true_eq_false, extPV, List.getElem?_cons_zero, List.getElem?_cons_succ, nilckPV, Int.reduceToNat, Int.reduceLE, true_and, and_true, reduceCtorEq, or_false, false_or, or_true, Option.some.injEq, exists_eq_left', Bool.not_true, Bool.not_false, ne_eq, Int.reduceEq, not_true_eq_false, not_false_eq_true, Int.reduceLT, UInt8.reduceLT, UInt8.reduceLE, UInt8.reduceToNat]
  exact ⟨.str (trimOf l), rfl, hk.leave rfl (fun _ _ => rfl)⟩
end Go.Ab

/-
  The document's trimming; values; small letters; fields of a name, by the document.
-/
namespace Go.Ab
set_option linter.unusedVariables false
set_option linter.unusedSimpArgs false
variable {st s : St} {e : Env}

theorem getD_drop0 {l : List UInt8} {i : Nat} : (l.drop i).getD 0 0 = l.getD i 0 := by simp [List.getD]
theorem getD_mid {l : List UInt8} {i j : Nat} (h : i < j) (hj : j ≤ l.length) : ((l.take j).drop i).getD (((l.take j).drop i).length - 1) 0 = l.getD (j - 1) 0 := by
  simp only [List.getD, List.length_drop, List.length_take, Nat.min_eq_left hj, List.getElem?_drop, List.getElem?_take]
  rw [show i + (j - i - 1) = j - 1 by omega, if_pos (by omega)]

theorem rTrim_spec {l : List UInt8} (hl : l.length ≤ 100000000) : call prog (.fn 170 []) [.str l] st = some (.str (trimOf l), st) := by
  refine call_of_W prog_170 ?_
  unfold F_posthornref06_Trim; dsimp only
  obtain ⟨J, hJ⟩ : ∃ J : (Nat → Nat → Prop) → Env → St → Prop, J = fun p E S => Kept st S ∧ E 0 = .str l ∧ ∃ i j, i ≤ j ∧ j ≤ l.length ∧ E 3 = .int .i64 ((i : Nat) : Int) ∧ E 4 = .int .i64 ((j : Nat) : Int) ∧ p i j := ⟨_, rfl⟩
  refine W_cut (fun E S => Kept st S ∧ E 0 = .str l) ?_ ?_
  · simp (maxSteps := 1000000) (disch := omega) only [W_seq, W_region, W_cond, W_block, W_skip, W_label, W_exit, W_goto, W_ret, WO_cons, WO_consG, WO_nil, wantedA_eq, wantB, evOp, ev_tmp, ev_const, ev_fn, WN_some, WN_none, updO_some, updO_none, upd_eq,
 ↓reduceIte, Nat.reduceEqDiff, List.nil_append, List.cons_append, List.append_nil, List.map_cons, List.map_nil, env0_zero, env0_succ, env0_nil, Option.map_some, Option.map_none, seqQ_normal, seqQ_ret, seqQ_exit, seqQ_goto, blockQ_normal, blockQ_ret, blockQ_exit, blockQ_goto, condW_bool, loopQ_ret, loopQ_exit, loopQ_goto, endQ_ret, endQ_normal,
 lss_i, leq_i, gtr_i, geq_i, eql_i, neq_i, eql_8, neq_8, lss_8, leq_8, gtr_8, geq_8, eql_s, neq_s, eql_b, neq_b, not_b, by_bys, by_nils, load_cp1, beq_true, beq_false, Bool.not_eq_true', decide_eq_true_eq, decide_eq_false_iff_not, decide_true, decide_false,
 Int.toNat_natCast, Int.ofNat_lt, Int.ofNat_le, Int.natCast_inj, Bool.false_eq_true, Bool.true_eq_false, extPV, List.getElem?_cons_zero, List.getElem?_cons_succ, nilckPV, Int.reduceToNat, Int.reduceLE, true_and, and_true, reduceCtorEq, or_false, false_or, or_true, Option.some.injEq, exists_eq_left', Bool.not_true, Bool.not_false, ne_eq, Int.reduceEq, not_true_eq_false, not_false_eq_true, Int.reduceLT, UInt8.reduceLT, UInt8.reduceLE, UInt8.reduceToNat]
    exact Kept.start
  rintro e S ⟨hk, h0⟩
  refine W_cut (J fun i j => i = 0 ∧ j = l.length) ?_ ?_
  · simp (maxSteps := 1000000) (disch := omega) only [hJ, h0, len_s, W_seq, W_region, W_cond, W_block, W_skip, W_label, W_exit, W_goto, W_ret, WO_cons, WO_consG, WO_nil, wantedA_eq, wantB, evOp, ev_tmp, ev_const, ev_fn, WN_some, WN_none, updO_some, updO_none, upd_eq,
 ↓reduceIte, Nat.reduceEqDiff, List.nil_append, List.cons_append, List.append_nil, List.map_cons, List.map_nil, env0_zero, env0_succ, env0_nil, Option.map_some, Option.map_none, seqQ_normal, seqQ_ret, seqQ_exit, seqQ_goto, blockQ_normal, blockQ_ret, blockQ_exit, blockQ_goto, condW_bool, loopQ_ret, loopQ_exit, loopQ_goto, endQ_ret, endQ_normal,
 lss_i, leq_i, gtr_i, geq_i, eql_i, neq_i, eql_8, neq_8, lss_8, leq_8, gtr_8, geq_8, eql_s, neq_s, eql_b, neq_b, not_b, by_bys, by_nils, load_cp1, beq_true, beq_false, Bool.not_eq_true', decide_eq_true_eq, decide_eq_false_iff_not, decide_true, decide_false,
 Int.toNat_natCast, Int.ofNat_lt, Int.ofNat_le, Int.natCast_inj, Bool.false_eq_true, Bool.true_eq_false, extPV, List.getElem?_cons_zero, List.getElem?_cons_succ, nilckPV, Int.reduceToNat, Int.reduceLE, true_and, and_true, reduceCtorEq, or_false, false_or, or_true, Option.some.injEq, exists_eq_left', Bool.not_true, Bool.not_false, ne_eq, Int.reduceEq, not_true_eq_false, not_false_eq_true, Int.reduceLT, UInt8.reduceLT, UInt8.reduceLE, UInt8.reduceToNat]
    exact ⟨hk, 0, l.length, by omega, by omega, rfl, rfl, rfl, rfl⟩
  clear hk h0
  intro e S hj
  refine W_cut (J fun i j => j = l.length ∧ l.drop i = ltrim l) ?_ ?_
  · rw [hJ] at hj
    obtain ⟨hk, h0, i, j, -, -, h3, h4, rfl, rfl⟩ := hj
    rw [W_block]
    obtain ⟨I, hI⟩ : ∃ I : Nat → Env → St → Prop, I = fun k e s' => ∃ (i : Nat), k = l.length - i ∧ i ≤ l.length ∧ ltrim (l.drop i) = ltrim l ∧ Kept st s' ∧ e 0 = .str l ∧ e 3 = .int .i64 (i : Int) ∧ e 4 = .int .i64 (l.length : Int) := ⟨_, rfl⟩
    refine W_loop I ?_ (n := l.length) (by
      rw [hI]
      exact ⟨0, rfl, by omega, rfl, hk, h0, h3, h4⟩)
    clear hk h0 h3 h4
    intro k e s' hh
    rw [hI] at hh
    obtain ⟨i, rfl, hi, ht, hk, h0, h3, h4⟩ := hh
    by_cases hlt : i < l.length
    · obtain ⟨c, hc⟩ : ∃ c, c = l.getD i 0 := ⟨_, rfl⟩
      have hdl : 0 < (l.drop i).length := by simp; omega
      have hc2 : c = (l.drop i).getD 0 0 := by rw [getD_drop0]; exact hc
      cases hb : blankC c with
      | true =>
        simp (maxSteps := 1000000) (disch := omega) only [h0, h3, h4, hlt, idx_s, ← hc, rblank_spec, hb, add_n, W_seq, W_region, W_cond, W_block, W_skip, W_label, W_exit, W_goto, W_ret, WO_cons, WO_consG, WO_nil, wantedA_eq, wantB, evOp, ev_tmp, ev_const, ev_fn, WN_some, WN_none, updO_some, updO_none, upd_eq,
 ↓reduceIte, Nat.reduceEqDiff, List.nil_append, List.cons_append, List.append_nil, List.map_cons, List.map_nil, env0_zero, env0_succ, env0_nil, Option.map_some, Option.map_none, seqQ_normal, seqQ_ret, seqQ_exit, seqQ_goto, blockQ_normal, blockQ_ret, blockQ_exit, blockQ_goto, condW_bool, loopQ_ret, loopQ_exit, loopQ_goto, endQ_ret, endQ_normal,
 lss_i, leq_i, gtr_i, geq_i, eql_i, neq_i, eql_8, neq_8, lss_8, leq_8, gtr_8, geq_8, eql_s, neq_s, eql_b, neq_b, not_b, by_bys, by_nils, load_cp1, beq_true, beq_false, Bool.not_eq_true', decide_eq_true_eq, decide_eq_false_iff_not, decide_true, decide_false,
 Int.toNat_natCast, Int.ofNat_lt, Int.ofNat_le, Int.natCast_inj, Bool.false_eq_true, Bool.true_eq_false, extPV, List.getElem?_cons_zero, List.getElem?_cons_succ, nilckPV, Int.reduceToNat, Int.reduceLE, true_and, and_true, reduceCtorEq, or_false, false_or, or_true, Option.some.injEq, exists_eq_left', Bool.not_true, Bool.not_false, ne_eq, Int.reduceEq, not_true_eq_false, not_false_eq_true, Int.reduceLT, UInt8.reduceLT, UInt8.reduceLE, UInt8.reduceToNat]
        refine loopQ_intro (m := l.length - (i + 1)) (by omega) ?_
        rw [hI]
        refine ⟨i + 1, rfl, by omega, ?_, hk, h0, rfl, h4⟩
        rw [← ht, ← ltrim_blank hdl hc2 hb, List.drop_drop]
      | false =>
        simp (maxSteps := 1000000) (disch := omega) only [h0, h3, h4, hlt, idx_s, ← hc, rblank_spec, hb, hJ, W_seq, W_region, W_cond, W_block, W_skip, W_label, W_exit, W_goto, W_ret, WO_cons, WO_consG, WO_nil, wantedA_eq, wantB, evOp, ev_tmp, ev_const, ev_fn, WN_some, WN_none, updO_some, updO_none, upd_eq,
 ↓reduceIte, Nat.reduceEqDiff, List.nil_append, List.cons_append, List.append_nil, List.map_cons, List.map_nil, env0_zero, env0_succ, env0_nil, Option.map_some, Option.map_none, seqQ_normal, seqQ_ret, seqQ_exit, seqQ_goto, blockQ_normal, blockQ_ret, blockQ_exit, blockQ_goto, condW_bool, loopQ_ret, loopQ_exit, loopQ_goto, endQ_ret, endQ_normal,
 lss_i, leq_i, gtr_i, geq_i, eql_i, neq_i, eql_8, neq_8, lss_8, leq_8, gtr_8, geq_8, eql_s, neq_s, eql_b, neq_b, not_b, by_bys, by_nils, load_cp1, beq_true, beq_false, Bool.not_eq_true', decide_eq_true_eq, decide_eq_false_iff_not, decide_true, decide_false,
 Int.toNat_natCast, Int.ofNat_lt, Int.ofNat_le, Int.natCast_inj, Bool.false_eq_true, Bool.true_eq_false, extPV, List.getElem?_cons_zero, List.getElem?_cons_succ, nilckPV, Int.reduceToNat, Int.reduceLE, true_and, and_true, reduceCtorEq, or_false, false_or, or_true, Option.some.injEq, exists_eq_left', Bool.not_true, Bool.not_false, ne_eq, Int.reduceEq, not_true_eq_false, not_false_eq_true, Int.reduceLT, UInt8.reduceLT, UInt8.reduceLE, UInt8.reduceToNat]
        exact ⟨hk, i, l.length, hi, Nat.le_refl _, rfl, rfl, rfl, by rw [← ht, ltrim_stop hdl hc2 hb]⟩
    · obtain rfl : i = l.length := by omega
      simp (maxSteps := 1000000) (disch := omega) only [h0, h3, h4, hlt, hJ, W_seq, W_region, W_cond, W_block, W_skip, W_label, W_exit, W_goto, W_ret, WO_cons, WO_consG, WO_nil, wantedA_eq, wantB, evOp, ev_tmp, ev_const, ev_fn, WN_some, WN_none, updO_some, updO_none, upd_eq,
 ↓reduceIte, Nat.reduceEqDiff, List.nil_append, List.cons_append, List.append_nil, List.map_cons, List.map_nil, env0_zero, env0_succ, env0_nil, Option.map_some, Option.map_none, seqQ_normal, seqQ_ret, seqQ_exit, seqQ_goto, blockQ_normal, blockQ_ret, blockQ_exit, blockQ_goto, condW_bool, loopQ_ret, loopQ_exit, loopQ_goto, endQ_ret, endQ_normal,
 lss_i, leq_i, gtr_i, geq_i, eql_i, neq_i, eql_8, neq_8, lss_8, leq_8, gtr_8, geq_8, eql_s, neq_s, eql_b, neq_b, not_b, by_bys, by_nils, load_cp1, beq_true, beq_false, Bool.not_eq_true', decide_eq_true_eq, decide_eq_false_iff_not, decide_true, decide_false,
 Int.toNat_natCast, Int.ofNat_lt, Int.ofNat_le, Int.natCast_inj, Bool.false_eq_true, Bool.true_eq_false, extPV, List.getElem?_cons_zero, List.getElem?_cons_succ, nilckPV, Int.reduceToNat, Int.reduceLE, true_and, and_true, reduceCtorEq, or_false, false_or, or_true, Option.some.injEq, exists_eq_left', Bool.not_true, Bool.not_false, ne_eq, Int.reduceEq, not_true_eq_false, not_false_eq_true, Int.reduceLT, UInt8.reduceLT, UInt8.reduceLE, UInt8.reduceToNat]
      exact ⟨hk, l.length, l.length, Nat.le_refl _, Nat.le_refl _, rfl, rfl, rfl, by rw [← ht, List.drop_length]; rfl⟩
  clear hj
  intro e S hj
  refine W_cut (J fun i j => (l.take j).drop i = trimOf l) ?_ ?_
  · rw [hJ] at hj
    obtain ⟨hk, h0, i, j, hi, -, h3, h4, rfl, hd⟩ := hj
    rw [W_block]
    obtain ⟨I, hI⟩ : ∃ I : Nat → Env → St → Prop, I = fun k e s' => ∃ (j : Nat), j = k ∧ i ≤ j ∧ j ≤ l.length ∧ rtrim ((l.take j).drop i) = rtrim (ltrim l) ∧ Kept st s' ∧ e 0 = .str l ∧ e 3 = .int .i64 (i : Int) ∧ e 4 = .int .i64 (j : Int) := ⟨_, rfl⟩
    refine W_loop I ?_ (n := l.length) (by
      rw [hI]
      exact ⟨l.length, rfl, hi, Nat.le_refl _, by rw [List.take_length, hd], hk, h0, h3, h4⟩)
    clear hk h0 h3 h4
    intro k e s' hh
    rw [hI] at hh
    obtain ⟨j, rfl, hij, hjl, ht, hk, h0, h3, h4⟩ := hh
    by_cases hlt : i < j
    · obtain ⟨c, hc⟩ : ∃ c, c = l.getD (j - 1) 0 := ⟨_, rfl⟩
      have hml : 0 < ((l.take j).drop i).length := by simp; omega
      have hmn : ((l.take j).drop i).length = j - i := by simp; omega
      have hc2 : c = ((l.take j).drop i).getD (((l.take j).drop i).length - 1) 0 := by rw [getD_mid hlt hjl]; exact hc
      cases hb : blankC c with
      | true =>
        simp (maxSteps := 1000000) (disch := omega) only [h0, h3, h4, hlt, sub_n, idx_s, ← hc, rblank_spec, hb, W_seq, W_region, W_cond, W_block, W_skip, W_label, W_exit, W_goto, W_ret, WO_cons, WO_consG, WO_nil, wantedA_eq, wantB, evOp, ev_tmp, ev_const, ev_fn, WN_some, WN_none, updO_some, updO_none, upd_eq,
 ↓reduceIte, Nat.reduceEqDiff, List.nil_append, List.cons_append, List.append_nil, List.map_cons, List.map_nil, env0_zero, env0_succ, env0_nil, Option.map_some, Option.map_none, seqQ_normal, seqQ_ret, seqQ_exit, seqQ_goto, blockQ_normal, blockQ_ret, blockQ_exit, blockQ_goto, condW_bool, loopQ_ret, loopQ_exit, loopQ_goto, endQ_ret, endQ_normal,
 lss_i, leq_i, gtr_i, geq_i, eql_i, neq_i, eql_8, neq_8, lss_8, leq_8, gtr_8, geq_8, eql_s, neq_s, eql_b, neq_b, not_b, by_bys, by_nils, load_cp1, beq_true, beq_false, Bool.not_eq_true', decide_eq_true_eq, decide_eq_false_iff_not, decide_true, decide_false,
 Int.toNat_natCast, Int.ofNat_lt, Int.ofNat_le, Int.natCast_inj, Bool.false_eq_true, Bool.true_eq_false, extPV, List.getElem?_cons_zero, List.getElem?_cons_succ, nilckPV, Int.reduceToNat, Int.reduceLE, true_and, and_true, reduceCtorEq, or_false, false_or, or_true, Option.some.injEq, exists_eq_left', Bool.not_true, Bool.not_false, ne_eq, Int.reduceEq, not_true_eq_false, not_false_eq_true, Int.reduceLT, UInt8.reduceLT, UInt8.reduceLE, UInt8.reduceToNat]
        refine loopQ_intro (m := j - 1) (by omega) ?_
        rw [hI]
        refine ⟨j - 1, rfl, by omega, by omega, ?_, hk, h0, h3, rfl⟩
        rw [← ht, ← rtrim_blank hml hc2 hb, hmn]
        congr 1
        rw [List.drop_take, List.drop_take, List.take_take]
        congr 1; omega
      | false =>
        simp (maxSteps := 1000000) (disch := omega) only [h0, h3, h4, hlt, sub_n, idx_s, ← hc, rblank_spec, hb, hJ, W_seq, W_region, W_cond, W_block, W_skip, W_label, W_exit, W_goto, W_ret, WO_cons, WO_consG, WO_nil, wantedA_eq, wantB, evOp, ev_tmp, ev_const, ev_fn, WN_some, WN_none, updO_some, updO_none, upd_eq,
 ↓reduceIte, Nat.reduceEqDiff, List.nil_append, List.cons_append, List.append_nil, List.map_cons, List.map_nil, env0_zero, env0_succ, env0_nil, Option.map_some, Option.map_none, seqQ_normal, seqQ_ret, seqQ_exit, seqQ_goto, blockQ_normal, blockQ_ret, blockQ_exit, blockQ_goto, condW_bool, loopQ_ret, loopQ_exit, loopQ_goto, endQ_ret, endQ_normal,
 lss_i, leq_i, gtr_i, geq_i, eql_i, neq_i, eql_8, neq_8, lss_8, leq_8, gtr_8, geq_8, eql_s, neq_s, eql_b, neq_b, not_b, by_bys, by_nils, load_cp1, beq_true, beq_false, Bool.not_eq_true', decide_eq_true_eq, decide_eq_false_iff_not, decide_true, decide_false,
 Int.toNat_natCast, Int.ofNat_lt, Int.ofNat_le, Int.natCast_inj, Bool.false_eq_true, Bool.true_eq_false, extPV, List.getElem?_cons_zero, List.getElem?_cons_succ, nilckPV, Int.reduceToNat, Int.reduceLE, true_and, and_true, reduceCtorEq, or_false, false_or, or_true, Option.some.injEq, exists_eq_left', Bool.not_true, Bool.not_false, ne_eq, Int.reduceEq, not_true_eq_false, not_false_eq_true, Int.reduceLT, UInt8.reduceLT, UInt8.reduceLE, UInt8.reduceToNat]
        exact ⟨hk, i, j, hij, hjl, rfl, rfl, by unfold trimOf; rw [← ht, rtrim_stop hml hc2 hb]⟩
    · obtain rfl : i = j := by omega
      simp (maxSteps := 1000000) (disch := omega) only [h0, h3, h4, hlt, hJ, W_seq, W_region, W_cond, W_block, W_skip, W_label, W_exit, W_goto, W_ret, WO_cons, WO_consG, WO_nil, wantedA_eq, wantB, evOp, ev_tmp, ev_const, ev_fn, WN_some, WN_none, updO_some, updO_none, upd_eq,
 ↓reduceIte, Nat.reduceEqDiff, List.nil_append, List.cons_append, List.append_nil, List.map_cons, List.map_nil, env0_zero, env0_succ, env0_nil, Option.map_some, Option.map_none, seqQ_normal, seqQ_ret, seqQ_exit, seqQ_goto, blockQ_normal, blockQ_ret, blockQ_exit, blockQ_goto, condW_bool, loopQ_ret, loopQ_exit, loopQ_goto, endQ_ret, endQ_normal,
 lss_i, leq_i, gtr_i, geq_i, eql_i, neq_i, eql_8, neq_8, lss_8, leq_8, gtr_8, geq_8, eql_s, neq_s, eql_b, neq_b, not_b, by_bys, by_nils, load_cp1, beq_true, beq_false, Bool.not_eq_true', decide_eq_true_eq, decide_eq_false_iff_not, decide_true, decide_false,
 Int.toNat_natCast, Int.ofNat_lt, Int.ofNat_le, Int.natCast_inj, Bool.false_eq_true, Bool.true_eq_false, extPV, List.getElem?_cons_zero, List.getElem?_cons_succ, nilckPV, Int.reduceToNat, Int.reduceLE, true_and, and_true, reduceCtorEq, or_false, false_or, or_true, Option.some.injEq, exists_eq_left', Bool.not_true, Bool.not_false, ne_eq, Int.reduceEq, not_true_eq_false, not_false_eq_true, Int.reduceLT, UInt8.reduceLT, UInt8.reduceLE, UInt8.reduceToNat]
      refine ⟨hk, i, i, Nat.le_refl _, hjl, rfl, rfl, ?_⟩
      have hz : (l.take i).drop i = [] := by simp
      unfold trimOf
      rw [← ht, hz]; rfl
  clear hj
  intro e S hj
  rw [hJ] at hj
  obtain ⟨hk, h0, i, j, hij, hjl, h3, h4, hd⟩ := hj
  simp (maxSteps := 1000000) (disch := omega) only [h0, h3, h4, slc_s, hd, W_seq, W_region, W_cond, W_block, W_skip, W_label, W_exit, W_goto, W_ret, WO_cons, WO_consG, WO_nil, wantedA_eq, wantB, evOp, ev_tmp, ev_const, ev_fn, WN_some, WN_none, updO_some, updO_none, upd_eq,
 ↓reduceIte, Nat.reduceEqDiff, List.nil_append, List.cons_append, List.append_nil, List.map_cons, List.map_nil, env0_zero, env0_succ, env0_nil, Option.map_some, Option.map_none, seqQ_normal, seqQ_ret, seqQ_exit, seqQ_goto, blockQ_normal, blockQ_ret, blockQ_exit, blockQ_goto, condW_bool, loopQ_ret, loopQ_exit, loopQ_goto, endQ_ret, endQ_normal,
 lss_i, leq_i, gtr_i, geq_i, eql_i, neq_i, eql_8, neq_8, lss_8, leq_8, gtr_8, geq_8, eql_s, neq_s, eql_b, neq_b, not_b, by_bys, by_nils, load_cp1, beq_true, beq_false, Bool.not_eq_true', decide_eq_true_eq, decide_eq_false_iff_not, decide_true, decide_false,
 Int.toNat_natCast, Int.ofNat_lt, Int.ofNat_le, Int.natCast_inj, Bool.false_eq_true, Bool.true_eq_false, extPV, List.getElem?_cons_zero, List.getElem?_cons_succ, nilckPV, Int.reduceToNat, Int.reduceLE, true_and, and_true, reduceCtorEq, or_false, false_or, or_true, Option.some.injEq, exists_eq_left', Bool.not_true, Bool.not_false, ne_eq, Int.reduceEq, not_true_eq_false, not_false_eq_true, Int.reduceLT, UInt8.reduceLT, UInt8.reduceLE, UInt8.reduceToNat]
  exact ⟨.str (trimOf l), rfl, hk.leave rfl (fun _ _ => rfl)⟩
end Go.Ab

/-
  Values of fields; small letters and fields of a name, by the document.
-/
namespace Go.Ab
set_option linter.unusedVariables false
set_option linter.unusedSimpArgs false
variable {st s : St} {e : Env}

def valC (c : UInt8) : Bool := decide (c = 9) || (!decide (c < 32) && !decide (126 < c))
def valB (l : List UInt8) : Bool := l.all valC && decide (l.length ≤ 4096) && decide (trimOf l = l)

theorem isValue_spec {l : List UInt8} (hl : l.length ≤ 100000000) : call prog (.fn 158 []) [.str l] st = some (.bool (valB l), st) := by
  refine call_of_W prog_158 ?_
  unfold F_fields_isValue; dsimp only
  simp (maxSteps := 1000000) (disch := omega) only [len_s, W_seq, W_region, W_cond, W_block, W_skip, W_label, W_exit, W_goto, W_ret, WO_cons, WO_consG, WO_nil, wantedA_eq, wantB, evOp, ev_tmp, ev_const, ev_fn, WN_some, WN_none, updO_some, updO_none, upd_eq,
 ↓reduceIte, Nat.reduceEqDiff, List.nil_append, List.cons_append, List.append_nil, List.map_cons, List.map_nil, env0_zero, env0_succ, env0_nil, Option.map_some, Option.map_none, seqQ_normal, seqQ_ret, seqQ_exit, seqQ_goto, blockQ_normal, blockQ_ret, blockQ_exit, blockQ_goto, condW_bool, loopQ_ret, loopQ_exit, loopQ_goto, endQ_ret, endQ_normal,
 lss_i, leq_i, gtr_i, geq_i, eql_i, neq_i, eql_8, neq_8, lss_8, leq_8, gtr_8, geq_8, eql_s, neq_s, eql_b, neq_b, not_b, by_bys, by_nils, load_cp1, beq_true, beq_false, Bool.not_eq_true', decide_eq_true_eq, decide_eq_false_iff_not, decide_true, decide_false,
 Int.toNat_natCast, Int.ofNat_lt, Int.ofNat_le, Int.natCast_inj, Bool.false_eq_true, Bool.true_eq_false, extPV, List.getElem?_cons_zero, List.getElem?_cons_succ, nilckPV, Int.reduceToNat, Int.reduceLE, true_and, and_true, reduceCtorEq, or_false, false_or, or_true, Option.some.injEq, exists_eq_left', Bool.not_true, Bool.not_false, ne_eq, Int.reduceEq, not_true_eq_false, not_false_eq_true, Int.reduceLT, UInt8.reduceLT, UInt8.reduceLE, UInt8.reduceToNat]
  obtain ⟨I, hI⟩ : ∃ I : Nat → Env → St → Prop, I = fun k e s' => ∃ (i : Nat), k = l.length - i ∧ i ≤ l.length ∧ Kept st s' ∧ (∀ j, j < i → valC (l.getD j 0) = true) ∧ e 0 = .str l ∧ e 5 = .int .i64 (l.length : Int) ∧ e 6 = .int .i64 (i : Int) := ⟨_, rfl⟩
  refine W_loop I ?_ (n := l.length) (by
    rw [hI]
    exact ⟨0, rfl, by omega, Kept.start, fun j h => by omega, rfl, rfl, rfl⟩)
  intro k e s' hh
  rw [hI] at hh
  obtain ⟨i, rfl, hi, hk, hall, h0, h5, h6⟩ := hh
  by_cases hlt : i < l.length
  · obtain ⟨c, hc⟩ : ∃ c, c = l.getD i 0 := ⟨_, rfl⟩
    have bad : valC c = false → ∀ E : Env, E 2 = .bool false → ∃ rv, resOf E s' [.tmp 2] = some rv ∧ leave st s' rv = (.bool (valB l), st) := fun h E k2 =>
      ⟨.bool false, by simp [resOf, rvAll, rv1, k2, notTup, packRes], by
        rw [show valB l = false by simp only [valB, all_bad (p := valC) hlt (by rw [← hc]; exact h), Bool.false_and]]
        exact hk.leave rfl (fun _ _ => rfl)⟩
    have good : valC c = true → ∀ E : Env, E 0 = .str l → E 5 = .int .i64 (l.length : Int) → E 6 = .int .i64 ((i + 1 : Nat) : Int) → I (l.length - (i + 1)) E s' := fun h E k0 k5 k6 => by
      rw [hI]
      refine ⟨i + 1, rfl, by omega, hk, fun j hj => ?_, k0, k5, k6⟩
      by_cases hji : j = i
      · subst hji; rw [← hc]; exact h
      · exact hall j (by omega)
    by_cases q3 : c = 9
    · simp (maxSteps := 1000000) (disch := omega) only [h0, h5, h6, hlt, idx_s, ← hc, eq_true q3, add_n, W_seq, W_region, W_cond, W_block, W_skip, W_label, W_exit, W_goto, W_ret, WO_cons, WO_consG, WO_nil, wantedA_eq, wantB, evOp, ev_tmp, ev_const, ev_fn, WN_some, WN_none, updO_some, updO_none, upd_eq,
 ↓reduceIte, Nat.reduceEqDiff, List.nil_append, List.cons_append, List.append_nil, List.map_cons, List.map_nil, env0_zero, env0_succ, env0_nil, Option.map_some, Option.map_none, seqQ_normal, seqQ_ret, seqQ_exit, seqQ_goto, blockQ_normal, blockQ_ret, blockQ_exit, blockQ_goto, condW_bool, loopQ_ret, loopQ_exit, loopQ_goto, endQ_ret, endQ_normal,
 lss_i, leq_i, gtr_i, geq_i, eql_i, neq_i, eql_8, neq_8, lss_8, leq_8, gtr_8, geq_8, eql_s, neq_s, eql_b, neq_b, not_b, by_bys, by_nils, load_cp1, beq_true, beq_false, Bool.not_eq_true', decide_eq_true_eq, decide_eq_false_iff_not, decide_true, decide_false,
 Int.toNat_natCast, Int.ofNat_lt, Int.ofNat_le, Int.natCast_inj, Bool.false_eq_true, Bool.true_eq_false, extPV, List.getElem?_cons_zero, List.getElem?_cons_succ, nilckPV, Int.reduceToNat, Int.reduceLE, true_and, and_true, reduceCtorEq, or_false, false_or, or_true, Option.some.injEq, exists_eq_left', Bool.not_true, Bool.not_false, ne_eq, Int.reduceEq, not_true_eq_false, not_false_eq_true, Int.reduceLT, UInt8.reduceLT, UInt8.reduceLE, UInt8.reduceToNat]
      exact loopQ_intro (m := l.length - (i + 1)) (by omega) (good (by simp [valC, q3]) _ h0 h5 rfl)
    by_cases q1 : c < 32
    · simp (maxSteps := 1000000) (disch := omega) only [h0, h5, h6, hlt, idx_s, ← hc, q3, eq_true q1, W_seq, W_region, W_cond, W_block, W_skip, W_label, W_exit, W_goto, W_ret, WO_cons, WO_consG, WO_nil, wantedA_eq, wantB, evOp, ev_tmp, ev_const, ev_fn, WN_some, WN_none, updO_some, updO_none, upd_eq,
 ↓reduceIte, Nat.reduceEqDiff, List.nil_append, List.cons_append, List.append_nil, List.map_cons, List.map_nil, env0_zero, env0_succ, env0_nil, Option.map_some, Option.map_none, seqQ_normal, seqQ_ret, seqQ_exit, seqQ_goto, blockQ_normal, blockQ_ret, blockQ_exit, blockQ_goto, condW_bool, loopQ_ret, loopQ_exit, loopQ_goto, endQ_ret, endQ_normal,
 lss_i, leq_i, gtr_i, geq_i, eql_i, neq_i, eql_8, neq_8, lss_8, leq_8, gtr_8, geq_8, eql_s, neq_s, eql_b, neq_b, not_b, by_bys, by_nils, load_cp1, beq_true, beq_false, Bool.not_eq_true', decide_eq_true_eq, decide_eq_false_iff_not, decide_true, decide_false,
 Int.toNat_natCast, Int.ofNat_lt, Int.ofNat_le, Int.natCast_inj, Bool.false_eq_true, Bool.true_eq_false, extPV, List.getElem?_cons_zero, List.getElem?_cons_succ, nilckPV, Int.reduceToNat, Int.reduceLE, true_and, and_true, reduceCtorEq, or_false, false_or, or_true, Option.some.injEq, exists_eq_left', Bool.not_true, Bool.not_false, ne_eq, Int.reduceEq, not_true_eq_false, not_false_eq_true, Int.reduceLT, UInt8.reduceLT, UInt8.reduceLE, UInt8.reduceToNat]
      exact bad (by simp [valC, q1, q3]) _ rfl
    by_cases q2 : 126 < c
    · simp (maxSteps := 1000000) (disch := omega) only [h0, h5, h6, hlt, idx_s, ← hc, q3, q1, eq_true q2, W_seq, W_region, W_cond, W_block, W_skip, W_label, W_exit, W_goto, W_ret, WO_cons, WO_consG, WO_nil, wantedA_eq, wantB, evOp, ev_tmp, ev_const, ev_fn, WN_some, WN_none, updO_some, updO_none, upd_eq,
 ↓reduceIte, Nat.reduceEqDiff, List.nil_append, List.cons_append, List.append_nil, List.map_cons, List.map_nil, env0_zero, env0_succ, env0_nil, Option.map_some, Option.map_none, seqQ_normal, seqQ_ret, seqQ_exit, seqQ_goto, blockQ_normal, blockQ_ret, blockQ_exit, blockQ_goto, condW_bool, loopQ_ret, loopQ_exit, loopQ_goto, endQ_ret, endQ_normal,
 lss_i, leq_i, gtr_i, geq_i, eql_i, neq_i, eql_8, neq_8, lss_8, leq_8, gtr_8, geq_8, eql_s, neq_s, eql_b, neq_b, not_b, by_bys, by_nils, load_cp1, beq_true, beq_false, Bool.not_eq_true', decide_eq_true_eq, decide_eq_false_iff_not, decide_true, decide_false,
 Int.toNat_natCast, Int.ofNat_lt, Int.ofNat_le, Int.natCast_inj, Bool.false_eq_true, Bool.true_eq_false, extPV, List.getElem?_cons_zero, List.getElem?_cons_succ, nilckPV, Int.reduceToNat, Int.reduceLE, true_and, and_true, reduceCtorEq, or_false, false_or, or_true, Option.some.injEq, exists_eq_left', Bool.not_true, Bool.not_false, ne_eq, Int.reduceEq, not_true_eq_false, not_false_eq_true, Int.reduceLT, UInt8.reduceLT, UInt8.reduceLE, UInt8.reduceToNat]
      exact bad (by simp [valC, q2, q3]) _ rfl
    · simp (maxSteps := 1000000) (disch := omega) only [h0, h5, h6, hlt, idx_s, ← hc, q1, q2, q3, add_n, W_seq, W_region, W_cond, W_block, W_skip, W_label, W_exit, W_goto, W_ret, WO_cons, WO_consG, WO_nil, wantedA_eq, wantB, evOp, ev_tmp, ev_const, ev_fn, WN_some, WN_none, updO_some, updO_none, upd_eq,
 ↓reduceIte, Nat.reduceEqDiff, List.nil_append, List.cons_append, List.append_nil, List.map_cons, List.map_nil, env0_zero, env0_succ, env0_nil, Option.map_some, Option.map_none, seqQ_normal, seqQ_ret, seqQ_exit, seqQ_goto, blockQ_normal, blockQ_ret, blockQ_exit, blockQ_goto, condW_bool, loopQ_ret, loopQ_exit, loopQ_goto, endQ_ret, endQ_normal,
 lss_i, leq_i, gtr_i, geq_i, eql_i, neq_i, eql_8, neq_8, lss_8, leq_8, gtr_8, geq_8, eql_s, neq_s, eql_b, neq_b, not_b, by_bys, by_nils, load_cp1, beq_true, beq_false, Bool.not_eq_true', decide_eq_true_eq, decide_eq_false_iff_not, decide_true, decide_false,
 Int.toNat_natCast, Int.ofNat_lt, Int.ofNat_le, Int.natCast_inj, Bool.false_eq_true, Bool.true_eq_false, extPV, List.getElem?_cons_zero, List.getElem?_cons_succ, nilckPV, Int.reduceToNat, Int.reduceLE, true_and, and_true, reduceCtorEq, or_false, false_or, or_true, Option.some.injEq, exists_eq_left', Bool.not_true, Bool.not_false, ne_eq, Int.reduceEq, not_true_eq_false, not_false_eq_true, Int.reduceLT, UInt8.reduceLT, UInt8.reduceLE, UInt8.reduceToNat]
      exact loopQ_intro (m := l.length - (i + 1)) (by omega) (good (by simp [valC, q1, q2]) _ h0 h5 rfl)
  · obtain rfl : i = l.length := by omega
    have ha := all_getD (p := valC) hall
    by_cases g1 : l.length ≤ 4096
    · have e1 : (l.length : Int) ≤ 4096 := by omega
      simp (maxSteps := 1000000) (disch := omega) only [h0, h5, h6, hlt, len_s, e1, trim_spec hl, W_seq, W_region, W_cond, W_block, W_skip, W_label, W_exit, W_goto, W_ret, WO_cons, WO_consG, WO_nil, wantedA_eq, wantB, evOp, ev_tmp, ev_const, ev_fn, WN_some, WN_none, updO_some, updO_none, upd_eq,
 ↓reduceIte, Nat.reduceEqDiff, List.nil_append, List.cons_append, List.append_nil, List.map_cons, List.map_nil, env0_zero, env0_succ, env0_nil, Option.map_some, Option.map_none, seqQ_normal, seqQ_ret, seqQ_exit, seqQ_goto, blockQ_normal, blockQ_ret, blockQ_exit, blockQ_goto, condW_bool, loopQ_ret, loopQ_exit, loopQ_goto, endQ_ret, endQ_normal,
 lss_i, leq_i, gtr_i, geq_i, eql_i, neq_i, eql_8, neq_8, lss_8, leq_8, gtr_8, geq_8, eql_s, neq_s, eql_b, neq_b, not_b, by_bys, by_nils, load_cp1, beq_true, beq_false, Bool.not_eq_true', decide_eq_true_eq, decide_eq_false_iff_not, decide_true, decide_false,
 Int.toNat_natCast, Int.ofNat_lt, Int.ofNat_le, Int.natCast_inj, Bool.false_eq_true, Bool.true_eq_false, extPV, List.getElem?_cons_zero, List.getElem?_cons_succ, nilckPV, Int.reduceToNat, Int.reduceLE, true_and, and_true, reduceCtorEq, or_false, false_or, or_true, Option.some.injEq, exists_eq_left', Bool.not_true, Bool.not_false, ne_eq, Int.reduceEq, not_true_eq_false, not_false_eq_true, Int.reduceLT, UInt8.reduceLT, UInt8.reduceLE, UInt8.reduceToNat]
      refine ⟨.bool (decide (trimOf l = l)), rfl, ?_⟩
      rw [show valB l = decide (trimOf l = l) by simp [valB, ha, g1]]
      exact hk.leave rfl (fun _ _ => rfl)
    · have e1 : ¬ (l.length : Int) ≤ 4096 := by omega
      simp (maxSteps := 1000000) (disch := omega) only [h0, h5, h6, hlt, len_s, e1, W_seq, W_region, W_cond, W_block, W_skip, W_label, W_exit, W_goto, W_ret, WO_cons, WO_consG, WO_nil, wantedA_eq, wantB, evOp, ev_tmp, ev_const, ev_fn, WN_some, WN_none, updO_some, updO_none, upd_eq,
 ↓reduceIte, Nat.reduceEqDiff, List.nil_append, List.cons_append, List.append_nil, List.map_cons, List.map_nil, env0_zero, env0_succ, env0_nil, Option.map_some, Option.map_none, seqQ_normal, seqQ_ret, seqQ_exit, seqQ_goto, blockQ_normal, blockQ_ret, blockQ_exit, blockQ_goto, condW_bool, loopQ_ret, loopQ_exit, loopQ_goto, endQ_ret, endQ_normal,
 lss_i, leq_i, gtr_i, geq_i, eql_i, neq_i, eql_8, neq_8, lss_8, leq_8, gtr_8, geq_8, eql_s, neq_s, eql_b, neq_b, not_b, by_bys, by_nils, load_cp1, beq_true, beq_false, Bool.not_eq_true', decide_eq_true_eq, decide_eq_false_iff_not, decide_true, decide_false,
 Int.toNat_natCast, Int.ofNat_lt, Int.ofNat_le, Int.natCast_inj, Bool.false_eq_true, Bool.true_eq_false, extPV, List.getElem?_cons_zero, List.getElem?_cons_succ, nilckPV, Int.reduceToNat, Int.reduceLE, true_and, and_true, reduceCtorEq, or_false, false_or, or_true, Option.some.injEq, exists_eq_left', Bool.not_true, Bool.not_false, ne_eq, Int.reduceEq, not_true_eq_false, not_false_eq_true, Int.reduceLT, UInt8.reduceLT, UInt8.reduceLE, UInt8.reduceToNat]
      refine ⟨.bool false, rfl, ?_⟩
      rw [show valB l = false by simp [valB, g1]]
      exact hk.leave rfl (fun _ _ => rfl)

theorem rValue_spec {l : List UInt8} (hl : l.length ≤ 100000000) : call prog (.fn 161 []) [.str l] st = some (.bool (valB l), st) := by
  refine call_of_W prog_161 ?_
  unfold F_posthornref06_Value; dsimp only
  simp (maxSteps := 1000000) (disch := omega) only [len_s, W_seq, W_region, W_cond, W_block, W_skip, W_label, W_exit, W_goto, W_ret, WO_cons, WO_consG, WO_nil, wantedA_eq, wantB, evOp, ev_tmp, ev_const, ev_fn, WN_some, WN_none, updO_some, updO_none, upd_eq,
 ↓reduceIte, Nat.reduceEqDiff, List.nil_append, List.cons_append, List.append_nil, List.map_cons, List.map_nil, env0_zero, env0_succ, env0_nil, Option.map_some, Option.map_none, seqQ_normal, seqQ_ret, seqQ_exit, seqQ_goto, blockQ_normal, blockQ_ret, blockQ_exit, blockQ_goto, condW_bool, loopQ_ret, loopQ_exit, loopQ_goto, endQ_ret, endQ_normal,
 lss_i, leq_i, gtr_i, geq_i, eql_i, neq_i, eql_8, neq_8, lss_8, leq_8, gtr_8, geq_8, eql_s, neq_s, eql_b, neq_b, not_b, by_bys, by_nils, load_cp1, beq_true, beq_false, Bool.not_eq_true', decide_eq_true_eq, decide_eq_false_iff_not, decide_true, decide_false,
 Int.toNat_natCast, Int.ofNat_lt, Int.ofNat_le, Int.natCast_inj, Bool.false_eq_true, Bool.true_eq_false, extPV, List.getElem?_cons_zero, List.getElem?_cons_succ, nilckPV, Int.reduceToNat, Int.reduceLE, true_and, and_true, reduceCtorEq, or_false, false_or, or_true, Option.some.injEq, exists_eq_left', Bool.not_true, Bool.not_false, ne_eq, Int.reduceEq, not_true_eq_false, not_false_eq_true, Int.reduceLT, UInt8.reduceLT, UInt8.reduceLE, UInt8.reduceToNat]
  obtain ⟨I, hI⟩ : ∃ I : Nat → Env → St → Prop, I = fun k e s' => ∃ (i : Nat), k = l.length - i ∧ i ≤ l.length ∧ Kept st s' ∧ (∀ j, j < i → valC (l.getD j 0) = true) ∧ e 0 = .str l ∧ e 3 = .int .i64 (i : Int) := ⟨_, rfl⟩
  refine W_loop I ?_ (n := l.length) (by
    rw [hI]
    exact ⟨0, rfl, by omega, Kept.start, fun j h => by omega, rfl, rfl⟩)
  intro k e s' hh
  rw [hI] at hh
  obtain ⟨i, rfl, hi, hk, hall, h0, h3⟩ := hh
  by_cases hlt : i < l.length
  · obtain ⟨c, hc⟩ : ∃ c, c = l.getD i 0 := ⟨_, rfl⟩
    have bad : valC c = false → ∀ E : Env, E 2 = .bool false → ∃ rv, resOf E s' [.tmp 2] = some rv ∧ leave st s' rv = (.bool (valB l), st) := fun h E k2 =>
      ⟨.bool false, by simp [resOf, rvAll, rv1, k2, notTup, packRes], by
        rw [show valB l = false by simp only [valB, all_bad (p := valC) hlt (by rw [← hc]; exact h), Bool.false_and]]
        exact hk.leave rfl (fun _ _ => rfl)⟩
    have good : valC c = true → ∀ E : Env, E 0 = .str l → E 3 = .int .i64 ((i + 1 : Nat) : Int) → I (l.length - (i + 1)) E s' := fun h E k0 k6 => by
      rw [hI]
      refine ⟨i + 1, rfl, by omega, hk, fun j hj => ?_, k0, k6⟩
      by_cases hji : j = i
      · subst hji; rw [← hc]; exact h
      · exact hall j (by omega)
    by_cases q1 : c < 32
    · by_cases q3 : c = 9
      · simp (maxSteps := 1000000) (disch := omega) only [h0, h3, len_s, hlt, idx_s, ← hc, eq_true q1, eq_true q3, add_n, W_seq, W_region, W_cond, W_block, W_skip, W_label, W_exit, W_goto, W_ret, WO_cons, WO_consG, WO_nil, wantedA_eq, wantB, evOp, ev_tmp, ev_const, ev_fn, WN_some, WN_none, updO_some, updO_none, upd_eq,
 ↓reduceIte, Nat.reduceEqDiff, List.nil_append, List.cons_append, List.append_nil, List.map_cons, List.map_nil, env0_zero, env0_succ, env0_nil, Option.map_some, Option.map_none, seqQ_normal, seqQ_ret, seqQ_exit, seqQ_goto, blockQ_normal, blockQ_ret, blockQ_exit, blockQ_goto, condW_bool, loopQ_ret, loopQ_exit, loopQ_goto, endQ_ret, endQ_normal,
 lss_i, leq_i, gtr_i, geq_i, eql_i, neq_i, eql_8, neq_8, lss_8, leq_8, gtr_8, geq_8, eql_s, neq_s, eql_b, neq_b, not_b, by_bys, by_nils, load_cp1, beq_true, beq_false, Bool.not_eq_true', decide_eq_true_eq, decide_eq_false_iff_not, decide_true, decide_false,
 Int.toNat_natCast, Int.ofNat_lt, Int.ofNat_le, Int.natCast_inj, Bool.false_eq_true, Bool.true_eq_false, extPV, List.getElem?_cons_zero, List.getElem?_cons_succ, nilckPV, Int.reduceToNat, Int.reduceLE, true_and, and_true, reduceCtorEq, or_false, false_or, or_true, Option.some.injEq, exists_eq_left', Bool.not_true, Bool.not_false, ne_eq, Int.reduceEq, not_true_eq_false, not_false_eq_true, Int.reduceLT, UInt8.reduceLT, UInt8.reduceLE, UInt8.reduceToNat]
        exact loopQ_intro (m := l.length - (i + 1)) (by omega) (good (by simp [valC, q3]) _ h0 rfl)
      · simp (maxSteps := 1000000) (disch := omega) only [h0, h3, len_s, hlt, idx_s, ← hc, q3, eq_true q1, W_seq, W_region, W_cond, W_block, W_skip, W_label, W_exit, W_goto, W_ret, WO_cons, WO_consG, WO_nil, wantedA_eq, wantB, evOp, ev_tmp, ev_const, ev_fn, WN_some, WN_none, updO_some, updO_none, upd_eq,
 ↓reduceIte, Nat.reduceEqDiff, List.nil_append, List.cons_append, List.append_nil, List.map_cons, List.map_nil, env0_zero, env0_succ, env0_nil, Option.map_some, Option.map_none, seqQ_normal, seqQ_ret, seqQ_exit, seqQ_goto, blockQ_normal, blockQ_ret, blockQ_exit, blockQ_goto, condW_bool, loopQ_ret, loopQ_exit, loopQ_goto, endQ_ret, endQ_normal,
 lss_i, leq_i, gtr_i, geq_i, eql_i, neq_i, eql_8, neq_8, lss_8, leq_8, gtr_8, geq_8, eql_s, neq_s, eql_b, neq_b, not_b, by_bys, by_nils, load_cp1, beq_true, beq_false, Bool.not_eq_true', decide_eq_true_eq, decide_eq_false_iff_not, decide_true, decide_false,
 Int.toNat_natCast, Int.ofNat_lt, Int.ofNat_le, Int.natCast_inj, Bool.false_eq_true, Bool.true_eq_false, extPV, List.getElem?_cons_zero, List.getElem?_cons_succ, nilckPV, Int.reduceToNat, Int.reduceLE, true_and, and_true, reduceCtorEq, or_false, false_or, or_true, Option.some.injEq, exists_eq_left', Bool.not_true, Bool.not_false, ne_eq, Int.reduceEq, not_true_eq_false, not_false_eq_true, Int.reduceLT, UInt8.reduceLT, UInt8.reduceLE, UInt8.reduceToNat]
        exact bad (by simp [valC, q1, q3]) _ rfl
    by_cases q2 : 126 < c
    · have q3 : ¬ c = 9 := by rintro rfl; exact absurd q2 (by decide)
      simp (maxSteps := 1000000) (disch := omega) only [h0, h3, len_s, hlt, idx_s, ← hc, q3, q1, eq_true q2, W_seq, W_region, W_cond, W_block, W_skip, W_label, W_exit, W_goto, W_ret, WO_cons, WO_consG, WO_nil, wantedA_eq, wantB, evOp, ev_tmp, ev_const, ev_fn, WN_some, WN_none, updO_some, updO_none, upd_eq,
 ↓reduceIte, Nat.reduceEqDiff, List.nil_append, List.cons_append, List.append_nil, List.map_cons, List.map_nil, env0_zero, env0_succ, env0_nil, Option.map_some, Option.map_none, seqQ_normal, seqQ_ret, seqQ_exit, seqQ_goto, blockQ_normal, blockQ_ret, blockQ_exit, blockQ_goto, condW_bool, loopQ_ret, loopQ_exit, loopQ_goto, endQ_ret, endQ_normal,
 lss_i, leq_i, gtr_i, geq_i, eql_i, neq_i, eql_8, neq_8, lss_8, leq_8, gtr_8, geq_8, eql_s, neq_s, eql_b, neq_b, not_b, by_bys, by_nils, load_cp1, beq_true, beq_false, Bool.not_eq_true', decide_eq_true_eq, decide_eq_false_iff_not, decide_true, decide_false,
 Int.toNat_natCast, Int.ofNat_lt, Int.ofNat_le, Int.natCast_inj, Bool.false_eq_true, Bool.true_eq_false, extPV, List.getElem?_cons_zero, List.getElem?_cons_succ, nilckPV, Int.reduceToNat, Int.reduceLE, true_and, and_true, reduceCtorEq, or_false, false_or, or_true, Option.some.injEq, exists_eq_left', Bool.not_true, Bool.not_false, ne_eq, Int.reduceEq, not_true_eq_false, not_false_eq_true, Int.reduceLT, UInt8.reduceLT, UInt8.reduceLE, UInt8.reduceToNat]
      exact bad (by simp [valC, q2, q3]) _ rfl
    · simp (maxSteps := 1000000) (disch := omega) only [h0, h3, len_s, hlt, idx_s, ← hc, q1, q2, add_n, W_seq, W_region, W_cond, W_block, W_skip, W_label, W_exit, W_goto, W_ret, WO_cons, WO_consG, WO_nil, wantedA_eq, wantB, evOp, ev_tmp, ev_const, ev_fn, WN_some, WN_none, updO_some, updO_none, upd_eq,
 ↓reduceIte, Nat.reduceEqDiff, List.nil_append, List.cons_append, List.append_nil, List.map_cons, List.map_nil, env0_zero, env0_succ, env0_nil, Option.map_some, Option.map_none, seqQ_normal, seqQ_ret, seqQ_exit, seqQ_goto, blockQ_normal, blockQ_ret, blockQ_exit, blockQ_goto, condW_bool, loopQ_ret, loopQ_exit, loopQ_goto, endQ_ret, endQ_normal,
 lss_i, leq_i, gtr_i, geq_i, eql_i, neq_i, eql_8, neq_8, lss_8, leq_8, gtr_8, geq_8, eql_s, neq_s, eql_b, neq_b, not_b, by_bys, by_nils, load_cp1, beq_true, beq_false, Bool.not_eq_true', decide_eq_true_eq, decide_eq_false_iff_not, decide_true, decide_false,
 Int.toNat_natCast, Int.ofNat_lt, Int.ofNat_le, Int.natCast_inj, Bool.false_eq_true, Bool.true_eq_false, extPV, List.getElem?_cons_zero, List.getElem?_cons_succ, nilckPV, Int.reduceToNat, Int.reduceLE, true_and, and_true, reduceCtorEq, or_false, false_or, or_true, Option.some.injEq, exists_eq_left', Bool.not_true, Bool.not_false, ne_eq, Int.reduceEq, not_true_eq_false, not_false_eq_true, Int.reduceLT, UInt8.reduceLT, UInt8.reduceLE, UInt8.reduceToNat]
      exact loopQ_intro (m := l.length - (i + 1)) (by omega) (good (by simp [valC, q1, q2]) _ h0 rfl)
  · obtain rfl : i = l.length := by omega
    have ha := all_getD (p := valC) hall
    by_cases g1 : l.length ≤ 4096
    · have e1 : (l.length : Int) ≤ 4096 := by omega
      simp (maxSteps := 1000000) (disch := omega) only [h0, h3, hlt, len_s, e1, rTrim_spec hl, W_seq, W_region, W_cond, W_block, W_skip, W_label, W_exit, W_goto, W_ret, WO_cons, WO_consG, WO_nil, wantedA_eq, wantB, evOp, ev_tmp, ev_const, ev_fn, WN_some, WN_none, updO_some, updO_none, upd_eq,
 ↓reduceIte, Nat.reduceEqDiff, List.nil_append, List.cons_append, List.append_nil, List.map_cons, List.map_nil, env0_zero, env0_succ, env0_nil, Option.map_some, Option.map_none, seqQ_normal, seqQ_ret, seqQ_exit, seqQ_goto, blockQ_normal, blockQ_ret, blockQ_exit, blockQ_goto, condW_bool, loopQ_ret, loopQ_exit, loopQ_goto, endQ_ret, endQ_normal,
 lss_i, leq_i, gtr_i, geq_i, eql_i, neq_i, eql_8, neq_8, lss_8, leq_8, gtr_8, geq_8, eql_s, neq_s, eql_b, neq_b, not_b, by_bys, by_nils, load_cp1, beq_true, beq_false, Bool.not_eq_true', decide_eq_true_eq, decide_eq_false_iff_not, decide_true, decide_false,
 Int.toNat_natCast, Int.ofNat_lt, Int.ofNat_le, Int.natCast_inj, Bool.false_eq_true, Bool.true_eq_false, extPV, List.getElem?_cons_zero, List.getElem?_cons_succ, nilckPV, Int.reduceToNat, Int.reduceLE, true_and, and_true, reduceCtorEq, or_false, false_or, or_true, Option.some.injEq, exists_eq_left', Bool.not_true, Bool.not_false, ne_eq, Int.reduceEq, not_true_eq_false, not_false_eq_true, Int.reduceLT, UInt8.reduceLT, UInt8.reduceLE, UInt8.reduceToNat]
      refine ⟨.bool (decide (trimOf l = l)), rfl, ?_⟩
      rw [show valB l = decide (trimOf l = l) by simp [valB, ha, g1]]
      exact hk.leave rfl (fun _ _ => rfl)
    · have e1 : ¬ (l.length : Int) ≤ 4096 := by omega
      simp (maxSteps := 1000000) (disch := omega) only [h0, h3, hlt, len_s, e1, W_seq, W_region, W_cond, W_block, W_skip, W_label, W_exit, W_goto, W_ret, WO_cons, WO_consG, WO_nil, wantedA_eq, wantB, evOp, ev_tmp, ev_const, ev_fn, WN_some, WN_none, updO_some, updO_none, upd_eq,
 ↓reduceIte, Nat.reduceEqDiff, List.nil_append, List.cons_append, List.append_nil, List.map_cons, List.map_nil, env0_zero, env0_succ, env0_nil, Option.map_some, Option.map_none, seqQ_normal, seqQ_ret, seqQ_exit, seqQ_goto, blockQ_normal, blockQ_ret, blockQ_exit, blockQ_goto, condW_bool, loopQ_ret, loopQ_exit, loopQ_goto, endQ_ret, endQ_normal,
 lss_i, leq_i, gtr_i, geq_i, eql_i, neq_i, eql_8, neq_8, lss_8, leq_8, gtr_8, geq_8, eql_s, neq_s, eql_b, neq_b, not_b, by_bys, by_nils, load_cp1, beq_true, beq_false, Bool.not_eq_true', decide_eq_true_eq, decide_eq_false_iff_not, decide_true, decide_false,
 Int.toNat_natCast, Int.ofNat_lt, Int.ofNat_le, Int.natCast_inj, Bool.false_eq_true, Bool.true_eq_false, extPV, List.getElem?_cons_zero, List.getElem?_cons_succ, nilckPV, Int.reduceToNat, Int.reduceLE, true_and, and_true, reduceCtorEq, or_false, false_or, or_true, Option.some.injEq, exists_eq_left', Bool.not_true, Bool.not_false, ne_eq, Int.reduceEq, not_true_eq_false, not_false_eq_true, Int.reduceLT, UInt8.reduceLT, UInt8.reduceLE, UInt8.reduceToNat]
      refine ⟨.bool false, rfl, ?_⟩
      rw [show valB l = false by simp [valB, g1]]
      exact hk.leave rfl (fun _ _ => rfl)

theorem lowOf_take {l : List UInt8} {i : Nat} (h : i < l.length) : lowOf (l.take (i + 1)) = lowOf (l.take i) ++ [lowC (l.getD i 0)] := by
  rw [take_getD h]; simp [lowOf]

theorem rLower_spec {l : List UInt8} (hl : l.length ≤ 100000000) : call prog (.fn 114 []) [.str l] st = some (.str (lowOf l), st) := by
  refine call_of_W prog_114 ?_
  unfold F_posthornref04_Lower; dsimp only
  simp (maxSteps := 1000000) (disch := omega) only [len_s, W_seq, W_region, W_cond, W_block, W_skip, W_label, W_exit, W_goto, W_ret, WO_cons, WO_consG, WO_nil, wantedA_eq, wantB, evOp, ev_tmp, ev_const, ev_fn, WN_some, WN_none, updO_some, updO_none, upd_eq,
 ↓reduceIte, Nat.reduceEqDiff, List.nil_append, List.cons_append, List.append_nil, List.map_cons, List.map_nil, env0_zero, env0_succ, env0_nil, Option.map_some, Option.map_none, seqQ_normal, seqQ_ret, seqQ_exit, seqQ_goto, blockQ_normal, blockQ_ret, blockQ_exit, blockQ_goto, condW_bool, loopQ_ret, loopQ_exit, loopQ_goto, endQ_ret, endQ_normal,
 lss_i, leq_i, gtr_i, geq_i, eql_i, neq_i, eql_8, neq_8, lss_8, leq_8, gtr_8, geq_8, eql_s, neq_s, eql_b, neq_b, not_b, by_bys, by_nils, load_cp1, beq_true, beq_false, Bool.not_eq_true', decide_eq_true_eq, decide_eq_false_iff_not, decide_true, decide_false,
 Int.toNat_natCast, Int.ofNat_lt, Int.ofNat_le, Int.natCast_inj, Bool.false_eq_true, Bool.true_eq_false, extPV, List.getElem?_cons_zero, List.getElem?_cons_succ, nilckPV, Int.reduceToNat, Int.reduceLE, true_and, and_true, reduceCtorEq, or_false, false_or, or_true, Option.some.injEq, exists_eq_left', Bool.not_true, Bool.not_false, ne_eq, Int.reduceEq, not_true_eq_false, not_false_eq_true, Int.reduceLT, UInt8.reduceLT, UInt8.reduceLE, UInt8.reduceToNat]
  obtain ⟨I, hI⟩ : ∃ I : Nat → Env → St → Prop, I = fun k e s' => ∃ (i : Nat) (v : PV), k = l.length - i ∧ i ≤ l.length ∧ Kept st s' ∧ Mine st s' v (lowOf (l.take i)) ∧ e 0 = .str l ∧ e 3 = v ∧ e 4 = .int .i64 (i : Int) := ⟨_, rfl⟩
  refine W_loop I ?_ (n := l.length) (by
    rw [hI]
    exact ⟨0, .nils, rfl, by omega, Kept.start, Mine.nil, rfl, rfl, rfl⟩)
  intro k e s' hh
  rw [hI] at hh
  obtain ⟨i, v, rfl, hi, hk, hm, h0, h3, h4⟩ := hh
  by_cases hlt : i < l.length
  · obtain ⟨c, hc⟩ : ∃ c, c = l.getD i 0 := ⟨_, rfl⟩
    have hlow := lowOf_take hlt
    rw [← hc] at hlow
    obtain ⟨y, s2, a1, k1, k2⟩ := hk.push (c := lowC c) hm (by simp [room, lowOf]; omega)
    have hnext : ∀ E : Env, E 0 = .str l → E 3 = y → E 4 = .int .i64 ((i + 1 : Nat) : Int) → I (l.length - (i + 1)) E s2 := fun E q0 q3 q4 => by
      rw [hI]; exact ⟨i + 1, y, rfl, by omega, k1, by rw [hlow]; exact k2, q0, q3, q4⟩
    by_cases h65 : 65 ≤ c
    · by_cases h90 : c ≤ 90
      · rw [show lowC c = c + 32 by simp [lowC, h65, h90]] at a1
        simp (maxSteps := 1000000) (disch := omega) only [h0, h3, h4, len_s, hlt, idx_s, ← hc, h65, h90, add_8, lit8_1, freshT_eq, a1, add_n, W_seq, W_region, W_cond, W_block, W_skip, W_label, W_exit, W_goto, W_ret, WO_cons, WO_consG, WO_nil, wantedA_eq, wantB, evOp, ev_tmp, ev_const, ev_fn, WN_some, WN_none, updO_some, updO_none, upd_eq,
 ↓reduceIte, Nat.reduceEqDiff, List.nil_append, List.cons_append, List.append_nil, List.map_cons, List.map_nil, env0_zero, env0_succ, env0_nil, Option.map_some, Option.map_none, seqQ_normal, seqQ_ret, seqQ_exit, seqQ_goto, blockQ_normal, blockQ_ret, blockQ_exit, blockQ_goto, condW_bool, loopQ_ret, loopQ_exit, loopQ_goto, endQ_ret, endQ_normal,
 lss_i, leq_i, gtr_i, geq_i, eql_i, neq_i, eql_8, neq_8, lss_8, leq_8, gtr_8, geq_8, eql_s, neq_s, eql_b, neq_b, not_b, by_bys, by_nils, load_cp1, beq_true, beq_false, Bool.not_eq_true', decide_eq_true_eq, decide_eq_false_iff_not, decide_true, decide_false,
 Int.toNat_natCast, Int.ofNat_lt, Int.ofNat_le, Int.natCast_inj, Bool.false_eq_true, Bool.true_eq_false, extPV, List.getElem?_cons_zero, List.getElem?_cons_succ, nilckPV, Int.reduceToNat, Int.reduceLE, true_and, and_true, reduceCtorEq, or_false, false_or, or_true, Option.some.injEq, exists_eq_left', Bool.not_true, Bool.not_false, ne_eq, Int.reduceEq, not_true_eq_false, not_false_eq_true, Int.reduceLT, UInt8.reduceLT, UInt8.reduceLE, UInt8.reduceToNat]
        exact loopQ_intro (m := l.length - (i + 1)) (by omega) (hnext _ h0 rfl rfl)
      · rw [show lowC c = c by simp [lowC, h90]] at a1
        simp (maxSteps := 1000000) (disch := omega) only [h0, h3, h4, len_s, hlt, idx_s, ← hc, h65, h90, lit8_1, freshT_eq, a1, add_n, W_seq, W_region, W_cond, W_block, W_skip, W_label, W_exit, W_goto, W_ret, WO_cons, WO_consG, WO_nil, wantedA_eq, wantB, evOp, ev_tmp, ev_const, ev_fn, WN_some, WN_none, updO_some, updO_none, upd_eq,
 ↓reduceIte, Nat.reduceEqDiff, List.nil_append, List.cons_append, List.append_nil, List.map_cons, List.map_nil, env0_zero, env0_succ, env0_nil, Option.map_some, Option.map_none, seqQ_normal, seqQ_ret, seqQ_exit, seqQ_goto, blockQ_normal, blockQ_ret, blockQ_exit, blockQ_goto, condW_bool, loopQ_ret, loopQ_exit, loopQ_goto, endQ_ret, endQ_normal,
 lss_i, leq_i, gtr_i, geq_i, eql_i, neq_i, eql_8, neq_8, lss_8, leq_8, gtr_8, geq_8, eql_s, neq_s, eql_b, neq_b, not_b, by_bys, by_nils, load_cp1, beq_true, beq_false, Bool.not_eq_true', decide_eq_true_eq, decide_eq_false_iff_not, decide_true, decide_false,
 Int.toNat_natCast, Int.ofNat_lt, Int.ofNat_le, Int.natCast_inj, Bool.false_eq_true, Bool.true_eq_false, extPV, List.getElem?_cons_zero, List.getElem?_cons_succ, nilckPV, Int.reduceToNat, Int.reduceLE, true_and, and_true, reduceCtorEq, or_false, false_or, or_true, Option.some.injEq, exists_eq_left', Bool.not_true, Bool.not_false, ne_eq, Int.reduceEq, not_true_eq_false, not_false_eq_true, Int.reduceLT, UInt8.reduceLT, UInt8.reduceLE, UInt8.reduceToNat]
        exact loopQ_intro (m := l.length - (i + 1)) (by omega) (hnext _ h0 rfl rfl)
    · rw [show lowC c = c by simp [lowC, h65]] at a1
      simp (maxSteps := 1000000) (disch := omega) only [h0, h3, h4, len_s, hlt, idx_s, ← hc, h65, lit8_1, freshT_eq, a1, add_n, W_seq, W_region, W_cond, W_block, W_skip, W_label, W_exit, W_goto, W_ret, WO_cons, WO_consG, WO_nil, wantedA_eq, wantB, evOp, ev_tmp, ev_const, ev_fn, WN_some, WN_none, updO_some, updO_none, upd_eq,
 ↓reduceIte, Nat.reduceEqDiff, List.nil_append, List.cons_append, List.append_nil, List.map_cons, List.map_nil, env0_zero, env0_succ, env0_nil, Option.map_some, Option.map_none, seqQ_normal, seqQ_ret, seqQ_exit, seqQ_goto, blockQ_normal, blockQ_ret, blockQ_exit, blockQ_goto, condW_bool, loopQ_ret, loopQ_exit, loopQ_goto, endQ_ret, endQ_normal,
 lss_i, leq_i, gtr_i, geq_i, eql_i, neq_i, eql_8, neq_8, lss_8, leq_8, gtr_8, geq_8, eql_s, neq_s, eql_b, neq_b, not_b, by_bys, by_nils, load_cp1, beq_true, beq_false, Bool.not_eq_true', decide_eq_true_eq, decide_eq_false_iff_not, decide_true, decide_false,
 Int.toNat_natCast, Int.ofNat_lt, Int.ofNat_le, Int.natCast_inj, Bool.false_eq_true, Bool.true_eq_false, extPV, List.getElem?_cons_zero, List.getElem?_cons_succ, nilckPV, Int.reduceToNat, Int.reduceLE, true_and, and_true, reduceCtorEq, or_false, false_or, or_true, Option.some.injEq, exists_eq_left', Bool.not_true, Bool.not_false, ne_eq, Int.reduceEq, not_true_eq_false, not_false_eq_true, Int.reduceLT, UInt8.reduceLT, UInt8.reduceLE, UInt8.reduceToNat]
      exact loopQ_intro (m := l.length - (i + 1)) (by omega) (hnext _ h0 rfl rfl)
  · obtain rfl : i = l.length := by omega
    rw [List.take_length] at hm
    simp (maxSteps := 1000000) (disch := omega) only [h0, h3, h4, len_s, hlt, b2s_by hm.by, W_seq, W_region, W_cond, W_block, W_skip, W_label, W_exit, W_goto, W_ret, WO_cons, WO_consG, WO_nil, wantedA_eq, wantB, evOp, ev_tmp, ev_const, ev_fn, WN_some, WN_none, updO_some, updO_none, upd_eq,
 ↓reduceIte, Nat.reduceEqDiff, List.nil_append, List.cons_append, List.append_nil, List.map_cons, List.map_nil, env0_zero, env0_succ, env0_nil, Option.map_some, Option.map_none, seqQ_normal, seqQ_ret, seqQ_exit, seqQ_goto, blockQ_normal, blockQ_ret, blockQ_exit, blockQ_goto, condW_bool, loopQ_ret, loopQ_exit, loopQ_goto, endQ_ret, endQ_normal,
 lss_i, leq_i, gtr_i, geq_i, eql_i, neq_i, eql_8, neq_8, lss_8, leq_8, gtr_8, geq_8, eql_s, neq_s, eql_b, neq_b, not_b, by_bys, by_nils, load_cp1, beq_true, beq_false, Bool.not_eq_true', decide_eq_true_eq, decide_eq_false_iff_not, decide_true, decide_false,
 Int.toNat_natCast, Int.ofNat_lt, Int.ofNat_le, Int.natCast_inj, Bool.false_eq_true, Bool.true_eq_false, extPV, List.getElem?_cons_zero, List.getElem?_cons_succ, nilckPV, Int.reduceToNat, Int.reduceLE, true_and, and_true, reduceCtorEq, or_false, false_or, or_true, Option.some.injEq, exists_eq_left', Bool.not_true, Bool.not_false, ne_eq, Int.reduceEq, not_true_eq_false, not_false_eq_true, Int.reduceLT, UInt8.reduceLT, UInt8.reduceLE, UInt8.reduceToNat]
    exact ⟨.str (lowOf l), rfl, hk.leave rfl (fun _ _ => rfl)⟩

theorem rSame_spec {a b : List UInt8} (ha : a.length ≤ 100000000) (hb : b.length ≤ 100000000) : call prog (.fn 163 []) [.str a, .str b] st = some (.bool (decide (lowOf a = lowOf b)), st) := by
  refine call_of_W prog_163 ?_
  unfold F_posthornref06_Same; dsimp only
  simp (maxSteps := 1000000) (disch := omega) only [rLower_spec ha, rLower_spec hb, W_seq, W_region, W_cond, W_block, W_skip, W_label, W_exit, W_goto, W_ret, WO_cons, WO_consG, WO_nil, wantedA_eq, wantB, evOp, ev_tmp, ev_const, ev_fn, WN_some, WN_none, updO_some, updO_none, upd_eq,
 ↓reduceIte, Nat.reduceEqDiff, List.nil_append, List.cons_append, List.append_nil, List.map_cons, List.map_nil, env0_zero, env0_succ, env0_nil, Option.map_some, Option.map_none, seqQ_normal, seqQ_ret, seqQ_exit, seqQ_goto, blockQ_normal, blockQ_ret, blockQ_exit, blockQ_goto, condW_bool, loopQ_ret, loopQ_exit, loopQ_goto, endQ_ret, endQ_normal,
 lss_i, leq_i, gtr_i, geq_i, eql_i, neq_i, eql_8, neq_8, lss_8, leq_8, gtr_8, geq_8, eql_s, neq_s, eql_b, neq_b, not_b, by_bys, by_nils, load_cp1, beq_true, beq_false, Bool.not_eq_true', decide_eq_true_eq, decide_eq_false_iff_not, decide_true, decide_false,
 Int.toNat_natCast, Int.ofNat_lt, Int.ofNat_le, Int.natCast_inj, Bool.false_eq_true, Bool.true_eq_false, extPV, List.getElem?_cons_zero, List.getElem?_cons_succ, nilckPV, Int.reduceToNat, Int.reduceLE, true_and, and_true, reduceCtorEq, or_false, false_or, or_true, Option.some.injEq, exists_eq_left', Bool.not_true, Bool.not_false, ne_eq, Int.reduceEq, not_true_eq_false, not_false_eq_true, Int.reduceLT, UInt8.reduceLT, UInt8.reduceLE, UInt8.reduceToNat]
  exact end1 rfl Kp_bool

theorem Grew.kept (h : Grew st s) : Kept st s := ⟨by rw [h.bx]; simp, h.lp, by rw [h.lw]; exact Nat.le_refl _, h.tk⟩
theorem lits1 {a : List UInt8} : litFill 1 (List.replicate 1 (.str [])) [(0, .str a)] = some [.str a] := by
  simp [litFill, strip, stripLeaf, PV.cells]
theorem len_own {v : PV} {xs : List PV} (h : Own st s 1 v xs) : v.vs 1 = some xs := by
  rcases h with ⟨rfl, rfl⟩ | ⟨i, rfl, _⟩ <;> simp [PV.vs]

def matchOf (fs : List Fld) (n : List UInt8) : List (List UInt8) := (fs.filter (fun f => decide (lowOf f.1 = lowOf n))).map (·.2)
theorem matchOf_snoc {fs : List Fld} {f : Fld} {n : List UInt8} : matchOf (fs ++ [f]) n = if lowOf f.1 = lowOf n then matchOf fs n ++ [f.2] else matchOf fs n := by
  unfold matchOf; simp only [List.filter_append, List.filter_cons, List.filter_nil]
  by_cases h : lowOf f.1 = lowOf n <;> simp [h]
theorem getOf_match {fs : List Fld} {n : List UInt8} : getOf fs n = ((matchOf fs n).head?.getD [], (matchOf fs n).length) := by
  unfold getOf matchOf; simp

theorem rGet_spec {x : PV} {fs : List Fld} {n : List UInt8} (hx : x.vs 2 = some (fs.map fV)) (hn : n.length ≤ 100000000) (hf : ∀ f ∈ fs, okF f) (hl : fs.length ≤ 100000000) : call prog (.fn 148 []) [x, .str n] st = some (getV (getOf fs n), st) := by
  refine call_of_W prog_148 ?_
  unfold F_posthornref06_Get; dsimp only
  have hlen := len_vs hx
  rw [List.length_map] at hlen
  simp (maxSteps := 1000000) (disch := omega) only [W_seq, W_region, W_cond, W_block, W_skip, W_label, W_exit, W_goto, W_ret, WO_cons, WO_consG, WO_nil, wantedA_eq, wantB, evOp, ev_tmp, ev_const, ev_fn, WN_some, WN_none, updO_some, updO_none, upd_eq,
 ↓reduceIte, Nat.reduceEqDiff, List.nil_append, List.cons_append, List.append_nil, List.map_cons, List.map_nil, env0_zero, env0_succ, env0_nil, Option.map_some, Option.map_none, seqQ_normal, seqQ_ret, seqQ_exit, seqQ_goto, blockQ_normal, blockQ_ret, blockQ_exit, blockQ_goto, condW_bool, loopQ_ret, loopQ_exit, loopQ_goto, endQ_ret, endQ_normal,
 lss_i, leq_i, gtr_i, geq_i, eql_i, neq_i, eql_8, neq_8, lss_8, leq_8, gtr_8, geq_8, eql_s, neq_s, eql_b, neq_b, not_b, by_bys, by_nils, load_cp1, beq_true, beq_false, Bool.not_eq_true', decide_eq_true_eq, decide_eq_false_iff_not, decide_true, decide_false,
 Int.toNat_natCast, Int.ofNat_lt, Int.ofNat_le, Int.natCast_inj, Bool.false_eq_true, Bool.true_eq_false, extPV, List.getElem?_cons_zero, List.getElem?_cons_succ, nilckPV, Int.reduceToNat, Int.reduceLE, true_and, and_true, reduceCtorEq, or_false, false_or, or_true, Option.some.injEq, exists_eq_left', Bool.not_true, Bool.not_false, ne_eq, Int.reduceEq, not_true_eq_false, not_false_eq_true, Int.reduceLT, UInt8.reduceLT, UInt8.reduceLE, UInt8.reduceToNat]
  obtain ⟨I, hI⟩ : ∃ I : Nat → Env → St → Prop, I = fun k e s' => ∃ (i : Nat) (v : PV), k = fs.length - i ∧ i ≤ fs.length ∧ Grew st s' ∧ Own st s' 1 v ((matchOf (fs.take i) n).map .str) ∧ e 0 = x ∧ e 1 = .str n ∧ e 6 = v ∧ e 7 = .int .i64 (i : Int) := ⟨_, rfl⟩
  refine W_loop I ?_ (n := fs.length) (by
    rw [hI]
    exact ⟨0, .nils, rfl, by omega, Grew.start, .inl ⟨rfl, rfl⟩, rfl, rfl, rfl, rfl⟩)
  intro k e s' hh
  rw [hI] at hh
  obtain ⟨i, v, rfl, hi, hg, ho, h0, h1, h6, h7⟩ := hh
  have hml : ((matchOf (fs.take i) n).map PV.str).length ≤ fs.length := by
    have := List.length_filter_le (fun f : Fld => decide (lowOf f.1 = lowOf n)) (fs.take i)
    simp only [matchOf, List.length_map]
    simp at this; omega
  by_cases hlt : i < fs.length
  · obtain ⟨f, hfe⟩ : ∃ f, f = fs.getD i ([], []) := ⟨_, rfl⟩
    have hfm : f ∈ fs := by rw [hfe]; simp [List.getD, hlt]
    have hfo := hf f hfm
    have hgm := matchOf_snoc (fs := fs.take i) (f := f) (n := n)
    rw [hfe, ← take_getD' hlt, ← hfe] at hgm
    have hS : ∀ S : St, call prog (.fn 163 []) [.str f.1, .str n] S = some (.bool (decide (lowOf f.1 = lowOf n)), S) := fun S => rSame_spec (by have := hfo.1; omega) hn
    by_cases hs : lowOf f.1 = lowOf n
    · rw [if_pos hs] at hgm
      have happ := appV_own (u := .str f.2) (t := .own s'.toks.length) ho.tok1 (by simp only [room]; omega)
      obtain ⟨g2, o2⟩ := Own.app (ys := (matchOf (fs.take i) n).map PV.str ++ [.str f.2]) hg.tok1 ho.tok1
      simp (maxSteps := 1000000) (disch := omega) only [h0, h1, h6, h7, hlen, hlt, iaddr_f hx, ← hfe, fa_cp, load_cp0, load_cp1', hS, hs, lits1, freshT_eq, happ, add_n, W_seq, W_region, W_cond, W_block, W_skip, W_label, W_exit, W_goto, W_ret, WO_cons, WO_consG, WO_nil, wantedA_eq, wantB, evOp, ev_tmp, ev_const, ev_fn, WN_some, WN_none, updO_some, updO_none, upd_eq,
 ↓reduceIte, Nat.reduceEqDiff, List.nil_append, List.cons_append, List.append_nil, List.map_cons, List.map_nil, env0_zero, env0_succ, env0_nil, Option.map_some, Option.map_none, seqQ_normal, seqQ_ret, seqQ_exit, seqQ_goto, blockQ_normal, blockQ_ret, blockQ_exit, blockQ_goto, condW_bool, loopQ_ret, loopQ_exit, loopQ_goto, endQ_ret, endQ_normal,
 lss_i, leq_i, gtr_i, geq_i, eql_i, neq_i, eql_8, neq_8, lss_8, leq_8, gtr_8, geq_8, eql_s, neq_s, eql_b, neq_b, not_b, by_bys, by_nils, load_cp1, beq_true, beq_false, Bool.not_eq_true', decide_eq_true_eq, decide_eq_false_iff_not, decide_true, decide_false,
 Int.toNat_natCast, Int.ofNat_lt, Int.ofNat_le, Int.natCast_inj, Bool.false_eq_true, Bool.true_eq_false, extPV, List.getElem?_cons_zero, List.getElem?_cons_succ, nilckPV, Int.reduceToNat, Int.reduceLE, true_and, and_true, reduceCtorEq, or_false, false_or, or_true, Option.some.injEq, exists_eq_left', Bool.not_true, Bool.not_false, ne_eq, Int.reduceEq, not_true_eq_false, not_false_eq_true, Int.reduceLT, UInt8.reduceLT, UInt8.reduceLE, UInt8.reduceToNat]
      refine loopQ_intro (m := fs.length - (i + 1)) (by omega) ?_
      rw [hI]
      exact ⟨i + 1, _, rfl, by omega, g2, by rw [hgm, List.map_append]; exact o2, h0, h1, rfl, rfl⟩
    · rw [if_neg hs] at hgm
      simp (maxSteps := 1000000) (disch := omega) only [h0, h1, h6, h7, hlen, hlt, iaddr_f hx, ← hfe, fa_cp, load_cp0, load_cp1', hS, hs, add_n, W_seq, W_region, W_cond, W_block, W_skip, W_label, W_exit, W_goto, W_ret, WO_cons, WO_consG, WO_nil, wantedA_eq, wantB, evOp, ev_tmp, ev_const, ev_fn, WN_some, WN_none, updO_some, updO_none, upd_eq,
 ↓reduceIte, Nat.reduceEqDiff, List.nil_append, List.cons_append, List.append_nil, List.map_cons, List.map_nil, env0_zero, env0_succ, env0_nil, Option.map_some, Option.map_none, seqQ_normal, seqQ_ret, seqQ_exit, seqQ_goto, blockQ_normal, blockQ_ret, blockQ_exit, blockQ_goto, condW_bool, loopQ_ret, loopQ_exit, loopQ_goto, endQ_ret, endQ_normal,
 lss_i, leq_i, gtr_i, geq_i, eql_i, neq_i, eql_8, neq_8, lss_8, leq_8, gtr_8, geq_8, eql_s, neq_s, eql_b, neq_b, not_b, by_bys, by_nils, load_cp1, beq_true, beq_false, Bool.not_eq_true', decide_eq_true_eq, decide_eq_false_iff_not, decide_true, decide_false,
 Int.toNat_natCast, Int.ofNat_lt, Int.ofNat_le, Int.natCast_inj, Bool.false_eq_true, Bool.true_eq_false, extPV, List.getElem?_cons_zero, List.getElem?_cons_succ, nilckPV, Int.reduceToNat, Int.reduceLE, true_and, and_true, reduceCtorEq, or_false, false_or, or_true, Option.some.injEq, exists_eq_left', Bool.not_true, Bool.not_false, ne_eq, Int.reduceEq, not_true_eq_false, not_false_eq_true, Int.reduceLT, UInt8.reduceLT, UInt8.reduceLE, UInt8.reduceToNat]
      refine loopQ_intro (m := fs.length - (i + 1)) (by omega) ?_
      rw [hI]
      exact ⟨i + 1, v, rfl, by omega, hg, by rw [hgm]; exact ho, h0, h1, h6, rfl⟩
  · obtain rfl : i = fs.length := by omega
    rw [List.take_length] at ho
    have hvs := len_own ho
    have hlv := len_vs hvs
    rw [List.length_map] at hlv
    have hgo := getOf_match (fs := fs) (n := n)
    cases hmm : matchOf fs n with
    | nil =>
      have hd : (((matchOf fs n).length : Nat) : Int) = 0 := by rw [hmm]; rfl
      have hd' : decide ((((matchOf fs n).length : Nat) : Int) = 0) = true := by rw [hd]; rfl
      simp (maxSteps := 1000000) (disch := omega) only [h0, h1, h6, h7, hlen, hlt, hlv, hd', W_seq, W_region, W_cond, W_block, W_skip, W_label, W_exit, W_goto, W_ret, WO_cons, WO_consG, WO_nil, wantedA_eq, wantB, evOp, ev_tmp, ev_const, ev_fn, WN_some, WN_none, updO_some, updO_none, upd_eq,
 ↓reduceIte, Nat.reduceEqDiff, List.nil_append, List.cons_append, List.append_nil, List.map_cons, List.map_nil, env0_zero, env0_succ, env0_nil, Option.map_some, Option.map_none, seqQ_normal, seqQ_ret, seqQ_exit, seqQ_goto, blockQ_normal, blockQ_ret, blockQ_exit, blockQ_goto, condW_bool, loopQ_ret, loopQ_exit, loopQ_goto, endQ_ret, endQ_normal,
 lss_i, leq_i, gtr_i, geq_i, eql_i, neq_i, eql_8, neq_8, lss_8, leq_8, gtr_8, geq_8, eql_s, neq_s, eql_b, neq_b, not_b, by_bys, by_nils, load_cp1, beq_true, beq_false, Bool.not_eq_true', decide_eq_true_eq, decide_eq_false_iff_not, decide_true, decide_false,
 Int.toNat_natCast, Int.ofNat_lt, Int.ofNat_le, Int.natCast_inj, Bool.false_eq_true, Bool.true_eq_false, extPV, List.getElem?_cons_zero, List.getElem?_cons_succ, nilckPV, Int.reduceToNat, Int.reduceLE, true_and, and_true, reduceCtorEq, or_false, false_or, or_true, Option.some.injEq, exists_eq_left', Bool.not_true, Bool.not_false, ne_eq, Int.reduceEq, not_true_eq_false, not_false_eq_true, Int.reduceLT, UInt8.reduceLT, UInt8.reduceLE, UInt8.reduceToNat]
      refine ⟨getV (getOf fs n), ?_, hg.kept.leave rfl (fun _ _ => rfl)⟩
      rw [hgo, hmm]; rfl
    | cons a r =>
      have hd : ¬ (((matchOf fs n).length : Nat) : Int) = 0 := by rw [hmm]; simp; omega
      have hlp : 0 < ((matchOf fs n).map PV.str).length := by rw [hmm]; simp
      have hia : iaddrPV 1 v (.int .i64 0) = some (.cp [.str a]) := by
        rw [iaddr_vs hvs (by omega) (by simpa using hlp)]
        rw [hmm]; rfl
      simp (maxSteps := 1000000) (disch := omega) only [h0, h1, h6, h7, hlen, hlt, hlv, hd, hia, W_seq, W_region, W_cond, W_block, W_skip, W_label, W_exit, W_goto, W_ret, WO_cons, WO_consG, WO_nil, wantedA_eq, wantB, evOp, ev_tmp, ev_const, ev_fn, WN_some, WN_none, updO_some, updO_none, upd_eq,
 ↓reduceIte, Nat.reduceEqDiff, List.nil_append, List.cons_append, List.append_nil, List.map_cons, List.map_nil, env0_zero, env0_succ, env0_nil, Option.map_some, Option.map_none, seqQ_normal, seqQ_ret, seqQ_exit, seqQ_goto, blockQ_normal, blockQ_ret, blockQ_exit, blockQ_goto, condW_bool, loopQ_ret, loopQ_exit, loopQ_goto, endQ_ret, endQ_normal,
 lss_i, leq_i, gtr_i, geq_i, eql_i, neq_i, eql_8, neq_8, lss_8, leq_8, gtr_8, geq_8, eql_s, neq_s, eql_b, neq_b, not_b, by_bys, by_nils, load_cp1, beq_true, beq_false, Bool.not_eq_true', decide_eq_true_eq, decide_eq_false_iff_not, decide_true, decide_false,
 Int.toNat_natCast, Int.ofNat_lt, Int.ofNat_le, Int.natCast_inj, Bool.false_eq_true, Bool.true_eq_false, extPV, List.getElem?_cons_zero, List.getElem?_cons_succ, nilckPV, Int.reduceToNat, Int.reduceLE, true_and, and_true, reduceCtorEq, or_false, false_or, or_true, Option.some.injEq, exists_eq_left', Bool.not_true, Bool.not_false, ne_eq, Int.reduceEq, not_true_eq_false, not_false_eq_true, Int.reduceLT, UInt8.reduceLT, UInt8.reduceLE, UInt8.reduceToNat]
      refine ⟨getV (getOf fs n), ?_, hg.kept.leave rfl (fun _ _ => rfl)⟩
      rw [hgo, hmm]; rfl
end Go.Ab

/-
  Where a line is folded; its pieces.
-/
namespace Go.Ab
set_option linter.unusedVariables false
set_option linter.unusedSimpArgs false
variable {st s : St} {e : Env}

/-- The document's place, after k bytes were looked at. -/
def plc (l : List UInt8) (f : Nat) : Nat → Int
  | 0 => -1
  | i + 1 => if f ≤ i ∧ l.getD i 0 = 32 ∧ (i ≤ 76 ∨ plc l f i < 0) then (i : Int) else plc l f i
/-- The last such byte ahead of a place. -/
def lastB (l : List UInt8) (c : UInt8) : Nat → Int
  | 0 => -1
  | i + 1 => if l.getD i 0 = c then (i : Int) else lastB l c i

theorem plc_succ {l : List UInt8} {f i : Nat} : plc l f (i + 1) = if f ≤ i ∧ l.getD i 0 = 32 ∧ (i ≤ 76 ∨ plc l f i < 0) then (i : Int) else plc l f i := rfl

theorem plc_le {l : List UInt8} {f : Nat} : ∀ k, plc l f k < k ∧ -1 ≤ plc l f k ∧ (0 ≤ plc l f k → f ≤ plc l f k) := by
  intro k
  induction k with
  | zero => simp [plc]
  | succ k ih =>
    simp only [plc]
    split
    · omega
    · omega
theorem plc_f {l : List UInt8} {f : Nat} : ∀ k, k ≤ f → plc l f k = -1 := by
  intro k
  induction k with
  | zero => simp [plc]
  | succ k ih =>
    intro h
    simp only [plc]
    rw [if_neg (by omega)]; exact ih (by omega)
theorem lastB_le {l : List UInt8} {c : UInt8} : ∀ k, lastB l c k < k ∧ -1 ≤ lastB l c k := by
  intro k
  induction k with
  | zero => simp [lastB]
  | succ k ih =>
    simp only [lastB]
    split
    · omega
    · omega

theorem place_walk {l : List UInt8} {f : Nat} (hl : l.length ≤ 1000000) (hf : f ≤ l.length) : call prog (.fn 162 []) [.str l, .int .i64 (f : Int)] st = some (.int .i64 (plc l f l.length), st) := by
  refine call_of_W prog_162 ?_
  unfold F_posthornref06_place; dsimp only
  simp (maxSteps := 1000000) (disch := omega) only [W_seq, W_region, W_cond, W_block, W_skip, W_label, W_exit, W_goto, W_ret, WO_cons, WO_consG, WO_nil, wantedA_eq, wantB, evOp, ev_tmp, ev_const, ev_fn, WN_some, WN_none, updO_some, updO_none, upd_eq,
 ↓reduceIte, Nat.reduceEqDiff, List.nil_append, List.cons_append, List.append_nil, List.map_cons, List.map_nil, env0_zero, env0_succ, env0_nil, Option.map_some, Option.map_none, seqQ_normal, seqQ_ret, seqQ_exit, seqQ_goto, blockQ_normal, blockQ_ret, blockQ_exit, blockQ_goto, condW_bool, loopQ_ret, loopQ_exit, loopQ_goto, endQ_ret, endQ_normal,
 lss_i, leq_i, gtr_i, geq_i, eql_i, neq_i, eql_8, neq_8, lss_8, leq_8, gtr_8, geq_8, eql_s, neq_s, eql_b, neq_b, not_b, by_bys, by_nils, load_cp1, beq_true, beq_false, Bool.not_eq_true', decide_eq_true_eq, decide_eq_false_iff_not, decide_true, decide_false,
 Int.toNat_natCast, Int.ofNat_lt, Int.ofNat_le, Int.natCast_inj, Bool.false_eq_true, Bool.true_eq_false, extPV, List.getElem?_cons_zero, List.getElem?_cons_succ, nilckPV, Int.reduceToNat, Int.reduceLE, true_and, and_true, reduceCtorEq, or_false, false_or, or_true, Option.some.injEq, exists_eq_left', Bool.not_true, Bool.not_false, ne_eq, Int.reduceEq, not_true_eq_false, not_false_eq_true, Int.reduceLT, UInt8.reduceLT, UInt8.reduceLE, UInt8.reduceToNat]
  obtain ⟨I, hI⟩ : ∃ I : Nat → Env → St → Prop, I = fun k e s' => ∃ (i : Nat), k = l.length - i ∧ f ≤ i ∧ i ≤ l.length ∧ Kept st s' ∧ e 0 = .str l ∧ e 5 = .int .i64 (plc l f i) ∧ e 6 = .int .i64 (i : Int) := ⟨_, rfl⟩
  refine W_loop I ?_ (n := l.length - f) (by
    rw [hI]
    exact ⟨f, rfl, Nat.le_refl _, hf, Kept.start, rfl, by rw [plc_f f (Nat.le_refl _)]; rfl, rfl⟩)
  intro k e s' hh
  rw [hI] at hh
  obtain ⟨i, rfl, hfi, hi, hk, h0, h5, h6⟩ := hh
  by_cases hlt : i < l.length
  · obtain ⟨c, hc⟩ : ∃ c, c = l.getD i 0 := ⟨_, rfl⟩
    have hnext : ∀ E : Env, E 0 = .str l → E 5 = .int .i64 (plc l f (i + 1)) → E 6 = .int .i64 ((i + 1 : Nat) : Int) → I (l.length - (i + 1)) E s' := fun E k0 k5 k6 => by
      rw [hI]; exact ⟨i + 1, rfl, by omega, by omega, hk, k0, k5, k6⟩
    by_cases q1 : c = 32
    · by_cases q2 : i ≤ 76
      · have e2 : (i : Int) ≤ 76 := by omega
        simp (maxSteps := 1000000) (disch := omega) only [h0, h5, h6, len_s, hlt, idx_s, ← hc, eq_true q1, e2, add_n, W_seq, W_region, W_cond, W_block, W_skip, W_label, W_exit, W_goto, W_ret, WO_cons, WO_consG, WO_nil, wantedA_eq, wantB, evOp, ev_tmp, ev_const, ev_fn, WN_some, WN_none, updO_some, updO_none, upd_eq,
 ↓reduceIte, Nat.reduceEqDiff, List.nil_append, List.cons_append, List.append_nil, List.map_cons, List.map_nil, env0_zero, env0_succ, env0_nil, Option.map_some, Option.map_none, seqQ_normal, seqQ_ret, seqQ_exit, seqQ_goto, blockQ_normal, blockQ_ret, blockQ_exit, blockQ_goto, condW_bool, loopQ_ret, loopQ_exit, loopQ_goto, endQ_ret, endQ_normal,
 lss_i, leq_i, gtr_i, geq_i, eql_i, neq_i, eql_8, neq_8, lss_8, leq_8, gtr_8, geq_8, eql_s, neq_s, eql_b, neq_b, not_b, by_bys, by_nils, load_cp1, beq_true, beq_false, Bool.not_eq_true', decide_eq_true_eq, decide_eq_false_iff_not, decide_true, decide_false,
 Int.toNat_natCast, Int.ofNat_lt, Int.ofNat_le, Int.natCast_inj, Bool.false_eq_true, Bool.true_eq_false, extPV, List.getElem?_cons_zero, List.getElem?_cons_succ, nilckPV, Int.reduceToNat, Int.reduceLE, true_and, and_true, reduceCtorEq, or_false, false_or, or_true, Option.some.injEq, exists_eq_left', Bool.not_true, Bool.not_false, ne_eq, Int.reduceEq, not_true_eq_false, not_false_eq_true, Int.reduceLT, UInt8.reduceLT, UInt8.reduceLE, UInt8.reduceToNat]
        exact loopQ_intro (m := l.length - (i + 1)) (by omega) (hnext _ h0 (by simp only [plc]; rw [if_pos ⟨hfi, by rw [← hc]; exact q1, .inl q2⟩]; rfl) rfl)
      · have e2 : ¬ (i : Int) ≤ 76 := by omega
        by_cases q3 : plc l f i < 0
        · simp (maxSteps := 1000000) (disch := omega) only [h0, h5, h6, len_s, hlt, idx_s, ← hc, eq_true q1, e2, q3, add_n, W_seq, W_region, W_cond, W_block, W_skip, W_label, W_exit, W_goto, W_ret, WO_cons, WO_consG, WO_nil, wantedA_eq, wantB, evOp, ev_tmp, ev_const, ev_fn, WN_some, WN_none, updO_some, updO_none, upd_eq,
 ↓reduceIte, Nat.reduceEqDiff, List.nil_append, List.cons_append, List.append_nil, List.map_cons, List.map_nil, env0_zero, env0_succ, env0_nil, Option.map_some, Option.map_none, seqQ_normal, seqQ_ret, seqQ_exit, seqQ_goto, blockQ_normal, blockQ_ret, blockQ_exit, blockQ_goto, condW_bool, loopQ_ret, loopQ_exit, loopQ_goto, endQ_ret, endQ_normal,
 lss_i, leq_i, gtr_i, geq_i, eql_i, neq_i, eql_8, neq_8, lss_8, leq_8, gtr_8, geq_8, eql_s, neq_s, eql_b, neq_b, not_b, by_bys, by_nils, load_cp1, beq_true, beq_false, Bool.not_eq_true', decide_eq_true_eq, decide_eq_false_iff_not, decide_true, decide_false,
 Int.toNat_natCast, Int.ofNat_lt, Int.ofNat_le, Int.natCast_inj, Bool.false_eq_true, Bool.true_eq_false, extPV, List.getElem?_cons_zero, List.getElem?_cons_succ, nilckPV, Int.reduceToNat, Int.reduceLE, true_and, and_true, reduceCtorEq, or_false, false_or, or_true, Option.some.injEq, exists_eq_left', Bool.not_true, Bool.not_false, ne_eq, Int.reduceEq, not_true_eq_false, not_false_eq_true, Int.reduceLT, UInt8.reduceLT, UInt8.reduceLE, UInt8.reduceToNat]
          exact loopQ_intro (m := l.length - (i + 1)) (by omega) (hnext _ h0 (by simp only [plc]; rw [if_pos ⟨hfi, by rw [← hc]; exact q1, .inr q3⟩]; rfl) rfl)
        · simp (maxSteps := 1000000) (disch := omega) only [h0, h5, h6, len_s, hlt, idx_s, ← hc, eq_true q1, e2, q3, add_n, W_seq, W_region, W_cond, W_block, W_skip, W_label, W_exit, W_goto, W_ret, WO_cons, WO_consG, WO_nil, wantedA_eq, wantB, evOp, ev_tmp, ev_const, ev_fn, WN_some, WN_none, updO_some, updO_none, upd_eq,
 ↓reduceIte, Nat.reduceEqDiff, List.nil_append, List.cons_append, List.append_nil, List.map_cons, List.map_nil, env0_zero, env0_succ, env0_nil, Option.map_some, Option.map_none, seqQ_normal, seqQ_ret, seqQ_exit, seqQ_goto, blockQ_normal, blockQ_ret, blockQ_exit, blockQ_goto, condW_bool, loopQ_ret, loopQ_exit, loopQ_goto, endQ_ret, endQ_normal,
 lss_i, leq_i, gtr_i, geq_i, eql_i, neq_i, eql_8, neq_8, lss_8, leq_8, gtr_8, geq_8, eql_s, neq_s, eql_b, neq_b, not_b, by_bys, by_nils, load_cp1, beq_true, beq_false, Bool.not_eq_true', decide_eq_true_eq, decide_eq_false_iff_not, decide_true, decide_false,
 Int.toNat_natCast, Int.ofNat_lt, Int.ofNat_le, Int.natCast_inj, Bool.false_eq_true, Bool.true_eq_false, extPV, List.getElem?_cons_zero, List.getElem?_cons_succ, nilckPV, Int.reduceToNat, Int.reduceLE, true_and, and_true, reduceCtorEq, or_false, false_or, or_true, Option.some.injEq, exists_eq_left', Bool.not_true, Bool.not_false, ne_eq, Int.reduceEq, not_true_eq_false, not_false_eq_true, Int.reduceLT, UInt8.reduceLT, UInt8.reduceLE, UInt8.reduceToNat]
          exact loopQ_intro (m := l.length - (i + 1)) (by omega) (hnext _ h0 (by simp only [plc]; rw [if_neg (by simp [q2, q3])]; exact h5) rfl)
    · simp (maxSteps := 1000000) (disch := omega) only [h0, h5, h6, len_s, hlt, idx_s, ← hc, q1, add_n, W_seq, W_region, W_cond, W_block, W_skip, W_label, W_exit, W_goto, W_ret, WO_cons, WO_consG, WO_nil, wantedA_eq, wantB, evOp, ev_tmp, ev_const, ev_fn, WN_some, WN_none, updO_some, updO_none, upd_eq,
 ↓reduceIte, Nat.reduceEqDiff, List.nil_append, List.cons_append, List.append_nil, List.map_cons, List.map_nil, env0_zero, env0_succ, env0_nil, Option.map_some, Option.map_none, seqQ_normal, seqQ_ret, seqQ_exit, seqQ_goto, blockQ_normal, blockQ_ret, blockQ_exit, blockQ_goto, condW_bool, loopQ_ret, loopQ_exit, loopQ_goto, endQ_ret, endQ_normal,
 lss_i, leq_i, gtr_i, geq_i, eql_i, neq_i, eql_8, neq_8, lss_8, leq_8, gtr_8, geq_8, eql_s, neq_s, eql_b, neq_b, not_b, by_bys, by_nils, load_cp1, beq_true, beq_false, Bool.not_eq_true', decide_eq_true_eq, decide_eq_false_iff_not, decide_true, decide_false,
 Int.toNat_natCast, Int.ofNat_lt, Int.ofNat_le, Int.natCast_inj, Bool.false_eq_true, Bool.true_eq_false, extPV, List.getElem?_cons_zero, List.getElem?_cons_succ, nilckPV, Int.reduceToNat, Int.reduceLE, true_and, and_true, reduceCtorEq, or_false, false_or, or_true, Option.some.injEq, exists_eq_left', Bool.not_true, Bool.not_false, ne_eq, Int.reduceEq, not_true_eq_false, not_false_eq_true, Int.reduceLT, UInt8.reduceLT, UInt8.reduceLE, UInt8.reduceToNat]
      exact loopQ_intro (m := l.length - (i + 1)) (by omega) (hnext _ h0 (by simp only [plc]; rw [if_neg (by rw [← hc]; simp [q1])]; exact h5) rfl)
  · obtain rfl : i = l.length := by omega
    simp (maxSteps := 1000000) (disch := omega) only [h0, h5, h6, len_s, hlt, W_seq, W_region, W_cond, W_block, W_skip, W_label, W_exit, W_goto, W_ret, WO_cons, WO_consG, WO_nil, wantedA_eq, wantB, evOp, ev_tmp, ev_const, ev_fn, WN_some, WN_none, updO_some, updO_none, upd_eq,
 ↓reduceIte, Nat.reduceEqDiff, List.nil_append, List.cons_append, List.append_nil, List.map_cons, List.map_nil, env0_zero, env0_succ, env0_nil, Option.map_some, Option.map_none, seqQ_normal, seqQ_ret, seqQ_exit, seqQ_goto, blockQ_normal, blockQ_ret, blockQ_exit, blockQ_goto, condW_bool, loopQ_ret, loopQ_exit, loopQ_goto, endQ_ret, endQ_normal,
 lss_i, leq_i, gtr_i, geq_i, eql_i, neq_i, eql_8, neq_8, lss_8, leq_8, gtr_8, geq_8, eql_s, neq_s, eql_b, neq_b, not_b, by_bys, by_nils, load_cp1, beq_true, beq_false, Bool.not_eq_true', decide_eq_true_eq, decide_eq_false_iff_not, decide_true, decide_false,
 Int.toNat_natCast, Int.ofNat_lt, Int.ofNat_le, Int.natCast_inj, Bool.false_eq_true, Bool.true_eq_false, extPV, List.getElem?_cons_zero, List.getElem?_cons_succ, nilckPV, Int.reduceToNat, Int.reduceLE, true_and, and_true, reduceCtorEq, or_false, false_or, or_true, Option.some.injEq, exists_eq_left', Bool.not_true, Bool.not_false, ne_eq, Int.reduceEq, not_true_eq_false, not_false_eq_true, Int.reduceLT, UInt8.reduceLT, UInt8.reduceLE, UInt8.reduceToNat]
    exact ⟨.int .i64 (plc l f l.length), rfl, hk.leave rfl (fun _ _ => rfl)⟩

theorem lastIdx_walk {l : List UInt8} {c : UInt8} (hl : l.length ≤ 1000000) : call prog (.fn 172 []) [.str l, .b8 c] st = some (.int .i64 (lastB l c l.length), st) := by
  refine call_of_W prog_172 ?_
  unfold F_internal_bytealg_LastIndexByteString; dsimp only
  have hsub : ∀ n : Nat, n ≤ 1000000 → binPV .sub .no (.int .i64 (n : Int)) (.int .i64 1) = some (.int .i64 ((n : Int) - 1)) := fun n h => by
    simp only [binPV, binI, reduceIte, Option.some.injEq]
    rw [wrap64 (by omega) (by omega)]
  simp (maxSteps := 1000000) (disch := omega) only [len_s, hsub, W_seq, W_region, W_cond, W_block, W_skip, W_label, W_exit, W_goto, W_ret, WO_cons, WO_consG, WO_nil, wantedA_eq, wantB, evOp, ev_tmp, ev_const, ev_fn, WN_some, WN_none, updO_some, updO_none, upd_eq,
 ↓reduceIte, Nat.reduceEqDiff, List.nil_append, List.cons_append, List.append_nil, List.map_cons, List.map_nil, env0_zero, env0_succ, env0_nil, Option.map_some, Option.map_none, seqQ_normal, seqQ_ret, seqQ_exit, seqQ_goto, blockQ_normal, blockQ_ret, blockQ_exit, blockQ_goto, condW_bool, loopQ_ret, loopQ_exit, loopQ_goto, endQ_ret, endQ_normal,
 lss_i, leq_i, gtr_i, geq_i, eql_i, neq_i, eql_8, neq_8, lss_8, leq_8, gtr_8, geq_8, eql_s, neq_s, eql_b, neq_b, not_b, by_bys, by_nils, load_cp1, beq_true, beq_false, Bool.not_eq_true', decide_eq_true_eq, decide_eq_false_iff_not, decide_true, decide_false,
 Int.toNat_natCast, Int.ofNat_lt, Int.ofNat_le, Int.natCast_inj, Bool.false_eq_true, Bool.true_eq_false, extPV, List.getElem?_cons_zero, List.getElem?_cons_succ, nilckPV, Int.reduceToNat, Int.reduceLE, true_and, and_true, reduceCtorEq, or_false, false_or, or_true, Option.some.injEq, exists_eq_left', Bool.not_true, Bool.not_false, ne_eq, Int.reduceEq, not_true_eq_false, not_false_eq_true, Int.reduceLT, UInt8.reduceLT, UInt8.reduceLE, UInt8.reduceToNat]
  obtain ⟨I, hI⟩ : ∃ I : Nat → Env → St → Prop, I = fun k e s' => ∃ (i : Nat), i = k ∧ i ≤ l.length ∧ Kept st s' ∧ lastB l c i = lastB l c l.length ∧ e 0 = .str l ∧ e 1 = .b8 c ∧ e 5 = .int .i64 ((i : Int) - 1) := ⟨_, rfl⟩
  refine W_loop I ?_ (n := l.length) (by
    rw [hI]
    exact ⟨l.length, rfl, Nat.le_refl _, Kept.start, rfl, rfl, rfl, rfl⟩)
  intro k e s' hh
  rw [hI] at hh
  obtain ⟨i, rfl, hi, hk, ht, h0, h1, h5⟩ := hh
  cases i with
  | zero =>
    have e1 : ¬ (0 : Int) ≤ ((0 : Nat) : Int) - 1 := by omega
    simp (maxSteps := 1000000) (disch := omega) only [h0, h1, h5, e1, W_seq, W_region, W_cond, W_block, W_skip, W_label, W_exit, W_goto, W_ret, WO_cons, WO_consG, WO_nil, wantedA_eq, wantB, evOp, ev_tmp, ev_const, ev_fn, WN_some, WN_none, updO_some, updO_none, upd_eq,
 ↓reduceIte, Nat.reduceEqDiff, List.nil_append, List.cons_append, List.append_nil, List.map_cons, List.map_nil, env0_zero, env0_succ, env0_nil, Option.map_some, Option.map_none, seqQ_normal, seqQ_ret, seqQ_exit, seqQ_goto, blockQ_normal, blockQ_ret, blockQ_exit, blockQ_goto, condW_bool, loopQ_ret, loopQ_exit, loopQ_goto, endQ_ret, endQ_normal,
 lss_i, leq_i, gtr_i, geq_i, eql_i, neq_i, eql_8, neq_8, lss_8, leq_8, gtr_8, geq_8, eql_s, neq_s, eql_b, neq_b, not_b, by_bys, by_nils, load_cp1, beq_true, beq_false, Bool.not_eq_true', decide_eq_true_eq, decide_eq_false_iff_not, decide_true, decide_false,
 Int.toNat_natCast, Int.ofNat_lt, Int.ofNat_le, Int.natCast_inj, Bool.false_eq_true, Bool.true_eq_false, extPV, List.getElem?_cons_zero, List.getElem?_cons_succ, nilckPV, Int.reduceToNat, Int.reduceLE, true_and, and_true, reduceCtorEq, or_false, false_or, or_true, Option.some.injEq, exists_eq_left', Bool.not_true, Bool.not_false, ne_eq, Int.reduceEq, not_true_eq_false, not_false_eq_true, Int.reduceLT, UInt8.reduceLT, UInt8.reduceLE, UInt8.reduceToNat]
    exact ⟨.int .i64 (lastB l c l.length), by rw [← ht]; rfl, hk.leave rfl (fun _ _ => rfl)⟩
  | succ i =>
    have hsh : ((i + 1 : Nat) : Int) - 1 = (i : Int) := by omega
    rw [hsh] at h5
    have e1 : (0 : Int) ≤ (i : Int) := by omega
    obtain ⟨d, hd⟩ : ∃ d, d = l.getD i 0 := ⟨_, rfl⟩
    have hlt : i < l.length := by omega
    by_cases q : d = c
    · simp (maxSteps := 1000000) (disch := omega) only [h0, h1, h5, e1, idx_s, ← hd, eq_true q, W_seq, W_region, W_cond, W_block, W_skip, W_label, W_exit, W_goto, W_ret, WO_cons, WO_consG, WO_nil, wantedA_eq, wantB, evOp, ev_tmp, ev_const, ev_fn, WN_some, WN_none, updO_some, updO_none, upd_eq,
 ↓reduceIte, Nat.reduceEqDiff, List.nil_append, List.cons_append, List.append_nil, List.map_cons, List.map_nil, env0_zero, env0_succ, env0_nil, Option.map_some, Option.map_none, seqQ_normal, seqQ_ret, seqQ_exit, seqQ_goto, blockQ_normal, blockQ_ret, blockQ_exit, blockQ_goto, condW_bool, loopQ_ret, loopQ_exit, loopQ_goto, endQ_ret, endQ_normal,
 lss_i, leq_i, gtr_i, geq_i, eql_i, neq_i, eql_8, neq_8, lss_8, leq_8, gtr_8, geq_8, eql_s, neq_s, eql_b, neq_b, not_b, by_bys, by_nils, load_cp1, beq_true, beq_false, Bool.not_eq_true', decide_eq_true_eq, decide_eq_false_iff_not, decide_true, decide_false,
 Int.toNat_natCast, Int.ofNat_lt, Int.ofNat_le, Int.natCast_inj, Bool.false_eq_true, Bool.true_eq_false, extPV, List.getElem?_cons_zero, List.getElem?_cons_succ, nilckPV, Int.reduceToNat, Int.reduceLE, true_and, and_true, reduceCtorEq, or_false, false_or, or_true, Option.some.injEq, exists_eq_left', Bool.not_true, Bool.not_false, ne_eq, Int.reduceEq, not_true_eq_false, not_false_eq_true, Int.reduceLT, UInt8.reduceLT, UInt8.reduceLE, UInt8.reduceToNat]
      refine ⟨.int .i64 (i : Int), rfl, ?_⟩
      rw [← ht]; simp only [lastB]; rw [if_pos (by rw [← hd]; exact q)]
      exact hk.leave rfl (fun _ _ => rfl)
    · simp (maxSteps := 1000000) (disch := omega) only [h0, h1, h5, e1, idx_s, ← hd, q, hsub i (by omega), W_seq, W_region, W_cond, W_block, W_skip, W_label, W_exit, W_goto, W_ret, WO_cons, WO_consG, WO_nil, wantedA_eq, wantB, evOp, ev_tmp, ev_const, ev_fn, WN_some, WN_none, updO_some, updO_none, upd_eq,
 ↓reduceIte, Nat.reduceEqDiff, List.nil_append, List.cons_append, List.append_nil, List.map_cons, List.map_nil, env0_zero, env0_succ, env0_nil, Option.map_some, Option.map_none, seqQ_normal, seqQ_ret, seqQ_exit, seqQ_goto, blockQ_normal, blockQ_ret, blockQ_exit, blockQ_goto, condW_bool, loopQ_ret, loopQ_exit, loopQ_goto, endQ_ret, endQ_normal,
 lss_i, leq_i, gtr_i, geq_i, eql_i, neq_i, eql_8, neq_8, lss_8, leq_8, gtr_8, geq_8, eql_s, neq_s, eql_b, neq_b, not_b, by_bys, by_nils, load_cp1, beq_true, beq_false, Bool.not_eq_true', decide_eq_true_eq, decide_eq_false_iff_not, decide_true, decide_false,
 Int.toNat_natCast, Int.ofNat_lt, Int.ofNat_le, Int.natCast_inj, Bool.false_eq_true, Bool.true_eq_false, extPV, List.getElem?_cons_zero, List.getElem?_cons_succ, nilckPV, Int.reduceToNat, Int.reduceLE, true_and, and_true, reduceCtorEq, or_false, false_or, or_true, Option.some.injEq, exists_eq_left', Bool.not_true, Bool.not_false, ne_eq, Int.reduceEq, not_true_eq_false, not_false_eq_true, Int.reduceLT, UInt8.reduceLT, UInt8.reduceLE, UInt8.reduceToNat]
      refine loopQ_intro (m := i) (by omega) ?_
      rw [hI]
      refine ⟨i, rfl, by omega, hk, ?_, h0, h1, rfl⟩
      rw [← ht]; simp only [lastB]; rw [if_neg (by rw [← hd]; exact q)]

theorem lastIndex_spec {l : List UInt8} {c : UInt8} (hl : l.length ≤ 1000000) : call prog (.fn 169 []) [.str l, .b8 c] st = some (.int .i64 (lastB l c l.length), st) := by
  refine call_of_W prog_169 ?_
  unfold F_strings_LastIndexByte; dsimp only
  simp (maxSteps := 1000000) (disch := omega) only [lastIdx_walk hl, W_seq, W_region, W_cond, W_block, W_skip, W_label, W_exit, W_goto, W_ret, WO_cons, WO_consG, WO_nil, wantedA_eq, wantB, evOp, ev_tmp, ev_const, ev_fn, WN_some, WN_none, updO_some, updO_none, upd_eq,
 ↓reduceIte, Nat.reduceEqDiff, List.nil_append, List.cons_append, List.append_nil, List.map_cons, List.map_nil, env0_zero, env0_succ, env0_nil, Option.map_some, Option.map_none, seqQ_normal, seqQ_ret, seqQ_exit, seqQ_goto, blockQ_normal, blockQ_ret, blockQ_exit, blockQ_goto, condW_bool, loopQ_ret, loopQ_exit, loopQ_goto, endQ_ret, endQ_normal,
 lss_i, leq_i, gtr_i, geq_i, eql_i, neq_i, eql_8, neq_8, lss_8, leq_8, gtr_8, geq_8, eql_s, neq_s, eql_b, neq_b, not_b, by_bys, by_nils, load_cp1, beq_true, beq_false, Bool.not_eq_true', decide_eq_true_eq, decide_eq_false_iff_not, decide_true, decide_false,
 Int.toNat_natCast, Int.ofNat_lt, Int.ofNat_le, Int.natCast_inj, Bool.false_eq_true, Bool.true_eq_false, extPV, List.getElem?_cons_zero, List.getElem?_cons_succ, nilckPV, Int.reduceToNat, Int.reduceLE, true_and, and_true, reduceCtorEq, or_false, false_or, or_true, Option.some.injEq, exists_eq_left', Bool.not_true, Bool.not_false, ne_eq, Int.reduceEq, not_true_eq_false, not_false_eq_true, Int.reduceLT, UInt8.reduceLT, UInt8.reduceLE, UInt8.reduceToNat]
  exact end1 rfl Kp_int

/-! ### The program's place is the document's -/
theorem plc_low {l : List UInt8} {f : Nat} : ∀ k, k ≤ 77 → plc l f k = if (f : Int) ≤ lastB l 32 k then lastB l 32 k else -1 := by
  intro k
  induction k with
  | zero =>
    intro _
    have hb := lastB_le (l := l) (c := 32) 0
    have h : ¬ ((f : Int) ≤ lastB l 32 0) := by omega
    rw [if_neg h]; rfl
  | succ k ih =>
    intro h
    have i1 := ih (by omega)
    have b1 := lastB_le (l := l) (c := 32) k
    simp only [plc, lastB]
    by_cases q : l.getD k 0 = 32
    · simp only [q, true_and, if_true]
      by_cases qf : f ≤ k
      · rw [if_pos ⟨qf, .inl (by omega)⟩, if_pos (by omega)]
      · rw [if_neg (by omega), if_neg (by omega), i1, if_neg (by omega)]
    · simp only [q, false_and, and_false, if_false]; exact i1
theorem plc_stay {l : List UInt8} {f : Nat} (h : 0 ≤ plc l f 77) : ∀ k, plc l f (77 + k) = plc l f 77 := by
  intro k
  induction k with
  | zero => rfl
  | succ k ih =>
    show plc l f ((77 + k) + 1) = _
    rw [plc_succ, if_neg (by rw [ih]; omega), ih]
theorem plc_high {l : List UInt8} {f : Nat} : ∀ (n k : Nat), 77 ≤ k → f ≤ k → k + n = l.length → plc l f k = -1 → plc l f l.length = if Lib.indexByte (l.drop k) 32 < 0 then -1 else (k : Int) + Lib.indexByte (l.drop k) 32 := by
  intro n
  induction n with
  | zero =>
    intro k h1 h2 h3 h4
    have hz : Lib.indexByte (l.drop k) 32 = -1 := by rw [List.drop_of_length_le (by omega)]; rfl
    rw [hz, if_pos (by omega), ← h4]; congr 1; omega
  | succ n ih =>
    intro k h1 h2 h3 h4
    rw [drop_getD (by omega)]
    have hs := plc_succ (l := l) (f := f) (i := k)
    obtain ⟨c, hc⟩ : ∃ c, c = l.getD k 0 := ⟨_, rfl⟩
    rw [← hc] at hs ⊢
    by_cases q : c = 32
    · have hk : plc l f (k + 1) = k := by rw [hs, if_pos ⟨h2, q, .inr (by omega)⟩]
      have hst : ∀ m, plc l f (k + 1 + m) = k := by
        intro m
        induction m with
        | zero => exact hk
        | succ m ihm =>
          show plc l f ((k + 1 + m) + 1) = _
          rw [plc_succ, if_neg (by rw [ihm]; omega), ihm]
      have := hst n
      rw [show k + 1 + n = l.length by omega] at this
      have hi : Lib.indexByte (c :: l.drop (k + 1)) 32 = 0 := by simp [Lib.indexByte, q]
      rw [this, hi, if_neg (by omega)]; omega
    · have hk : plc l f (k + 1) = -1 := by rw [hs, if_neg (by simp [q]), h4]
      rw [ih (k + 1) (by omega) (by omega) (by omega) hk]
      have hge : ∀ (m : List UInt8), -1 ≤ Lib.indexByte m 32 := by
        intro m
        induction m with
        | nil => simp [Lib.indexByte]
        | cons a r ihr =>
          simp only [Lib.indexByte]
          split
          · omega
          · split
            · omega
            · omega
      have hge := hge (l.drop (k + 1))
      have hi : Lib.indexByte (c :: l.drop (k + 1)) 32 = if Lib.indexByte (l.drop (k + 1)) 32 = -1 then -1 else Lib.indexByte (l.drop (k + 1)) 32 + 1 := by simp [Lib.indexByte, q]
      rw [hi]
      by_cases hj : Lib.indexByte (l.drop (k + 1)) 32 = -1
      · rw [if_pos hj, hj]; simp
      · rw [if_neg hj, if_neg (by omega), if_neg (by omega)]
        push_cast; omega
theorem lastB_take {l : List UInt8} {c : UInt8} {n : Nat} : ∀ k, k ≤ n → lastB (l.take n) c k = lastB l c k := by
  intro k
  induction k with
  | zero => intro _; rfl
  | succ k ih =>
    intro h
    simp only [lastB]
    rw [ih (by omega)]
    have : (l.take n).getD k 0 = l.getD k 0 := by simp [List.getD, List.getElem?_take, show k < n by omega]
    rw [this]

/-! ### The pieces of a line -/
def foldF : Nat → List UInt8 → Nat → List (List UInt8)
  | 0, l, _ => [l]
  | n + 1, l, f => if 76 < l.length then (if plc l f l.length < 0 then [l] else l.take (plc l f l.length).toNat :: foldF n (l.drop (plc l f l.length).toNat) 1) else [l]
end Go.Ab

/-
  A line is folded.
-/
namespace Go.Ab
set_option linter.unusedVariables false
set_option linter.unusedSimpArgs false
variable {st s : St} {e : Env}

theorem idxB_ge : ∀ (m : List UInt8), -1 ≤ Lib.indexByte m 32 := by
  intro m
  induction m with
  | nil => simp [Lib.indexByte]
  | cons a r ihr =>
    simp only [Lib.indexByte]
    split
    · omega
    · split
      · omega
      · omega

theorem fold_spec {l : List UInt8} {f n : Nat} (hl : l.length ≤ 1000000) (hf : 1 ≤ f) (hf2 : f ≤ 77) (hn : l.length ≤ n) :
    call prog (.fn 159 []) [.str l, .int .i64 (f : Int)] st = some (newSl st 1 ((foldF n l f).map .str), st.tok1) := by
  refine call_of_W prog_159 ?_
  unfold F_fields_fold; dsimp only
  obtain ⟨T, hT⟩ : ∃ T, T = foldF n l f := ⟨_, rfl⟩
  rw [← hT]
  obtain ⟨J, hJ⟩ : ∃ J : Env → St → Prop, J = fun E S => ∃ (m : List UInt8) (v : PV) (acc : List (List UInt8)), Grew st S ∧ Own st S 1 v (acc.map .str) ∧ acc.length + m.length ≤ l.length ∧ T = acc ++ [m] ∧ E 0 = .str m ∧ E 5 = v := ⟨_, rfl⟩
  refine W_cut (fun E S => Grew st S ∧ E 0 = .str l ∧ E 1 = .int .i64 (f : Int)) ?_ ?_
  · simp (maxSteps := 1000000) (disch := omega) only [W_seq, W_region, W_cond, W_block, W_skip, W_label, W_exit, W_goto, W_ret, WO_cons, WO_consG, WO_nil, wantedA_eq, wantB, evOp, ev_tmp, ev_const, ev_fn, WN_some, WN_none, updO_some, updO_none, upd_eq,
 ↓reduceIte, Nat.reduceEqDiff, List.nil_append, List.cons_append, List.append_nil, List.map_cons, List.map_nil, env0_zero, env0_succ, env0_nil, Option.map_some, Option.map_none, seqQ_normal, seqQ_ret, seqQ_exit, seqQ_goto, blockQ_normal, blockQ_ret, blockQ_exit, blockQ_goto, condW_bool, loopQ_ret, loopQ_exit, loopQ_goto, endQ_ret, endQ_normal,
 lss_i, leq_i, gtr_i, geq_i, eql_i, neq_i, eql_8, neq_8, lss_8, leq_8, gtr_8, geq_8, eql_s, neq_s, eql_b, neq_b, not_b, by_bys, by_nils, load_cp1, beq_true, beq_false, Bool.not_eq_true', decide_eq_true_eq, decide_eq_false_iff_not, decide_true, decide_false,
 Int.toNat_natCast, Int.ofNat_lt, Int.ofNat_le, Int.natCast_inj, Bool.false_eq_true, Bool.true_eq_false, extPV, List.getElem?_cons_zero, List.getElem?_cons_succ, nilckPV, Int.reduceToNat, Int.reduceLE, true_and, and_true, reduceCtorEq, or_false, false_or, or_true, Option.some.injEq, exists_eq_left', Bool.not_true, Bool.not_false, ne_eq, Int.reduceEq, not_true_eq_false, not_false_eq_true, Int.reduceLT, UInt8.reduceLT, UInt8.reduceLE, UInt8.reduceToNat]
    exact Grew.start
  rintro e S ⟨hg, h0, h1⟩
  refine W_cut (fun E S => Grew st S ∧ E 0 = .str l ∧ E 1 = .int .i64 (f : Int) ∧ E 5 = .nils) ?_ ?_
  · simp (maxSteps := 1000000) (disch := omega) only [h0, h1, W_seq, W_region, W_cond, W_block, W_skip, W_label, W_exit, W_goto, W_ret, WO_cons, WO_consG, WO_nil, wantedA_eq, wantB, evOp, ev_tmp, ev_const, ev_fn, WN_some, WN_none, updO_some, updO_none, upd_eq,
 ↓reduceIte, Nat.reduceEqDiff, List.nil_append, List.cons_append, List.append_nil, List.map_cons, List.map_nil, env0_zero, env0_succ, env0_nil, Option.map_some, Option.map_none, seqQ_normal, seqQ_ret, seqQ_exit, seqQ_goto, blockQ_normal, blockQ_ret, blockQ_exit, blockQ_goto, condW_bool, loopQ_ret, loopQ_exit, loopQ_goto, endQ_ret, endQ_normal,
 lss_i, leq_i, gtr_i, geq_i, eql_i, neq_i, eql_8, neq_8, lss_8, leq_8, gtr_8, geq_8, eql_s, neq_s, eql_b, neq_b, not_b, by_bys, by_nils, load_cp1, beq_true, beq_false, Bool.not_eq_true', decide_eq_true_eq, decide_eq_false_iff_not, decide_true, decide_false,
 Int.toNat_natCast, Int.ofNat_lt, Int.ofNat_le, Int.natCast_inj, Bool.false_eq_true, Bool.true_eq_false, extPV, List.getElem?_cons_zero, List.getElem?_cons_succ, nilckPV, Int.reduceToNat, Int.reduceLE, true_and, and_true, reduceCtorEq, or_false, false_or, or_true, Option.some.injEq, exists_eq_left', Bool.not_true, Bool.not_false, ne_eq, Int.reduceEq, not_true_eq_false, not_false_eq_true, Int.reduceLT, UInt8.reduceLT, UInt8.reduceLE, UInt8.reduceToNat]
    exact hg
  clear hg h0 h1
  rintro e S ⟨hg, h0, h1, h5⟩
  refine W_cut J ?_ ?_
  · rw [W_block]
    obtain ⟨I, hI⟩ : ∃ I : Nat → Env → St → Prop, I = fun k e s' => ∃ (m : List UInt8) (f' n' : Nat) (v : PV) (acc : List (List UInt8)), m.length = k ∧ m.length ≤ n' ∧ 1 ≤ f' ∧ f' ≤ 77 ∧ Grew st s' ∧ Own st s' 1 v (acc.map .str) ∧ acc.length + m.length ≤ l.length ∧ T = acc ++ foldF n' m f' ∧ e 0 = .str m ∧ e 1 = .int .i64 (f' : Int) ∧ e 5 = v := ⟨_, rfl⟩
    refine W_loop I ?_ (n := l.length) (by
      rw [hI]
      exact ⟨l, f, n, .nils, [], rfl, hn, hf, hf2, hg, .inl ⟨rfl, rfl⟩, by simp, by rw [hT]; rfl, h0, h1, h5⟩)
    clear hg h0 h1 h5
    intro k e s' hh
    rw [hI] at hh
    obtain ⟨m, f', n', v, acc, rfl, hmn, hf1, hf3, hg, ho, hal, hTT, h0, h1, h5⟩ := hh
    by_cases hlt : 76 < m.length
    · have e1 : (76 : Int) < (m.length : Int) := by omega
      obtain ⟨n'', rfl⟩ : ∃ n'', n' = n'' + 1 := ⟨n' - 1, by omega⟩
      simp only [foldF, hlt, if_true] at hTT
      have htk : (m.take 77).length = 77 := by simp; omega
      have hlb := lastB_take (l := m) (c := 32) (n := 77) 77 (Nat.le_refl _)
      have hcall : ∀ S : St, call prog (.fn 169 []) [.str (m.take 77), .b8 32] S = some (.int .i64 (lastB m 32 77), S) := fun S => by
        rw [lastIndex_spec (by omega), htk, hlb]
      have hlow := plc_low (l := m) (f := f') 77 (Nat.le_refl _)
      have hple := plc_le (l := m) (f := f') m.length
      have hmx : mnmxPV true [.int .i64 (f' : Int), .int .i64 77] = some (.int .i64 77) := by
        simp [mnmxPV]; omega
      -- a piece
      have piece : ∀ pn : Nat, plc m f' m.length = (pn : Int) → f' ≤ pn ∧ pn < m.length ∧ ∃ s2 v2, appV 1 s'.tok1 v (.sl 1 (.own s'.toks.length) [.str (m.take pn)]) = some (v2, s2) ∧ ∀ E : Env, E 0 = .str (m.drop pn) → E 1 = .int .i64 1 → E 5 = v2 → I (m.length - pn) E s2 := by
        intro pn hp
        rw [hp] at hple hTT
        refine ⟨by have := hple.2.2 (by omega); omega, by omega, ?_⟩
        have happ := appV_own (u := .str (m.take pn)) (t := .own s'.toks.length) ho.tok1 (by simp only [List.length_map, room]; omega)
        obtain ⟨g2, o2⟩ := Own.app (ys := acc.map PV.str ++ [.str (m.take pn)]) hg.tok1 ho.tok1
        refine ⟨_, _, happ, fun E k0 k1 k5 => ?_⟩
        rw [hI]
        have hf' : f' ≤ pn := by have := hple.2.2 (by omega); omega
        refine ⟨m.drop pn, 1, n'', _, acc ++ [m.take pn], by simp, by simp; omega, by omega, by omega, g2, by rw [List.map_append]; exact o2, by simp; omega, ?_, k0, k1, k5⟩
        rw [hTT, if_neg (by omega), Int.toNat_natCast]; simp
      by_cases ha : (f' : Int) ≤ lastB m 32 77
      · -- ahead of the 77th
        rw [if_pos ha] at hlow
        have hst := plc_stay (l := m) (f := f') (by rw [hlow]; omega) (m.length - 77)
        rw [show 77 + (m.length - 77) = m.length by omega, hlow] at hst
        obtain ⟨pn, hpn⟩ : ∃ pn : Nat, lastB m 32 77 = (pn : Int) := ⟨(lastB m 32 77).toNat, by omega⟩
        rw [hpn] at hst hcall ha
        obtain ⟨p1, p2, s2, v2, a1, hnext⟩ := piece pn hst
        have e2 : ¬ (pn : Int) < (f' : Int) := by omega
        simp (maxSteps := 1000000) (disch := omega) only [h0, h1, h5, len_s, e1, slc_s_hi, slc_s_lo, hcall, e2, lits1, freshT_eq, a1, W_seq, W_region, W_cond, W_block, W_skip, W_label, W_exit, W_goto, W_ret, WO_cons, WO_consG, WO_nil, wantedA_eq, wantB, evOp, ev_tmp, ev_const, ev_fn, WN_some, WN_none, updO_some, updO_none, upd_eq,
 ↓reduceIte, Nat.reduceEqDiff, List.nil_append, List.cons_append, List.append_nil, List.map_cons, List.map_nil, env0_zero, env0_succ, env0_nil, Option.map_some, Option.map_none, seqQ_normal, seqQ_ret, seqQ_exit, seqQ_goto, blockQ_normal, blockQ_ret, blockQ_exit, blockQ_goto, condW_bool, loopQ_ret, loopQ_exit, loopQ_goto, endQ_ret, endQ_normal,
 lss_i, leq_i, gtr_i, geq_i, eql_i, neq_i, eql_8, neq_8, lss_8, leq_8, gtr_8, geq_8, eql_s, neq_s, eql_b, neq_b, not_b, by_bys, by_nils, load_cp1, beq_true, beq_false, Bool.not_eq_true', decide_eq_true_eq, decide_eq_false_iff_not, decide_true, decide_false,
 Int.toNat_natCast, Int.ofNat_lt, Int.ofNat_le, Int.natCast_inj, Bool.false_eq_true, Bool.true_eq_false, extPV, List.getElem?_cons_zero, List.getElem?_cons_succ, nilckPV, Int.reduceToNat, Int.reduceLE, true_and, and_true, reduceCtorEq, or_false, false_or, or_true, Option.some.injEq, exists_eq_left', Bool.not_true, Bool.not_false, ne_eq, Int.reduceEq, not_true_eq_false, not_false_eq_true, Int.reduceLT, UInt8.reduceLT, UInt8.reduceLE, UInt8.reduceToNat]
        exact loopQ_intro (m := m.length - pn) (by omega) (hnext _ rfl rfl rfl)
      · rw [if_neg ha] at hlow
        have e2 : lastB m 32 77 < (f' : Int) := by omega
        have hhi := plc_high (l := m) (f := f') (m.length - 77) 77 (Nat.le_refl _) hf3 (by omega) hlow
        have hjg := idxB_ge (m.drop 77)
        by_cases hj : Lib.indexByte (m.drop 77) 32 < 0
        · -- no blank
          rw [if_pos hj] at hhi
          rw [hhi, if_pos (by omega)] at hTT
          have hj' : Lib.indexByte (m.drop 77) 32 = -1 := by omega
          have hadd : ∀ ek, binPV .add ek (.int .i64 (-1)) (.int .i64 77) = some (.int .i64 76) := fun ek => by
            rw [add_i (by omega) (by omega)]; rfl
          simp (maxSteps := 1000000) (disch := omega) only [h0, h1, h5, len_s, e1, slc_s_hi, slc_s_lo, hcall, e2, hmx, strIndexByte_spec, hj', hadd, hJ, W_seq, W_region, W_cond, W_block, W_skip, W_label, W_exit, W_goto, W_ret, WO_cons, WO_consG, WO_nil, wantedA_eq, wantB, evOp, ev_tmp, ev_const, ev_fn, WN_some, WN_none, updO_some, updO_none, upd_eq,
 ↓reduceIte, Nat.reduceEqDiff, List.nil_append, List.cons_append, List.append_nil, List.map_cons, List.map_nil, env0_zero, env0_succ, env0_nil, Option.map_some, Option.map_none, seqQ_normal, seqQ_ret, seqQ_exit, seqQ_goto, blockQ_normal, blockQ_ret, blockQ_exit, blockQ_goto, condW_bool, loopQ_ret, loopQ_exit, loopQ_goto, endQ_ret, endQ_normal,
 lss_i, leq_i, gtr_i, geq_i, eql_i, neq_i, eql_8, neq_8, lss_8, leq_8, gtr_8, geq_8, eql_s, neq_s, eql_b, neq_b, not_b, by_bys, by_nils, load_cp1, beq_true, beq_false, Bool.not_eq_true', decide_eq_true_eq, decide_eq_false_iff_not, decide_true, decide_false,
 Int.toNat_natCast, Int.ofNat_lt, Int.ofNat_le, Int.natCast_inj, Bool.false_eq_true, Bool.true_eq_false, extPV, List.getElem?_cons_zero, List.getElem?_cons_succ, nilckPV, Int.reduceToNat, Int.reduceLE, true_and, and_true, reduceCtorEq, or_false, false_or, or_true, Option.some.injEq, exists_eq_left', Bool.not_true, Bool.not_false, ne_eq, Int.reduceEq, not_true_eq_false, not_false_eq_true, Int.reduceLT, UInt8.reduceLT, UInt8.reduceLE, UInt8.reduceToNat]
          exact ⟨m, v, acc, hg, ho, hal, hTT, rfl, rfl⟩
        · rw [if_neg hj] at hhi
          obtain ⟨pn, hpn⟩ : ∃ pn : Nat, ((77 : Nat) : Int) + Lib.indexByte (m.drop 77) 32 = (pn : Int) := ⟨(((77 : Nat) : Int) + Lib.indexByte (m.drop 77) 32).toNat, by omega⟩
          rw [hpn] at hhi
          obtain ⟨p1, p2, s2, v2, a1, hnext⟩ := piece pn hhi
          have hadd : ∀ ek, binPV .add ek (.int .i64 (Lib.indexByte (m.drop 77) 32)) (.int .i64 77) = some (.int .i64 (pn : Int)) := fun ek => by
            rw [add_i (by omega) (by omega)]; congr 2; omega
          have e3 : ¬ (pn : Int) < 77 := by omega
          simp (maxSteps := 1000000) (disch := omega) only [h0, h1, h5, len_s, e1, slc_s_hi, slc_s_lo, hcall, e2, hmx, strIndexByte_spec, hadd, e3, lits1, freshT_eq, a1, W_seq, W_region, W_cond, W_block, W_skip, W_label, W_exit, W_goto, W_ret, WO_cons, WO_consG, WO_nil, wantedA_eq, wantB, evOp, ev_tmp, ev_const, ev_fn, WN_some, WN_none, updO_some, updO_none, upd_eq,
 ↓reduceIte, Nat.reduceEqDiff, List.nil_append, List.cons_append, List.append_nil, List.map_cons, List.map_nil, env0_zero, env0_succ, env0_nil, Option.map_some, Option.map_none, seqQ_normal, seqQ_ret, seqQ_exit, seqQ_goto, blockQ_normal, blockQ_ret, blockQ_exit, blockQ_goto, condW_bool, loopQ_ret, loopQ_exit, loopQ_goto, endQ_ret, endQ_normal,
 lss_i, leq_i, gtr_i, geq_i, eql_i, neq_i, eql_8, neq_8, lss_8, leq_8, gtr_8, geq_8, eql_s, neq_s, eql_b, neq_b, not_b, by_bys, by_nils, load_cp1, beq_true, beq_false, Bool.not_eq_true', decide_eq_true_eq, decide_eq_false_iff_not, decide_true, decide_false,
 Int.toNat_natCast, Int.ofNat_lt, Int.ofNat_le, Int.natCast_inj, Bool.false_eq_true, Bool.true_eq_false, extPV, List.getElem?_cons_zero, List.getElem?_cons_succ, nilckPV, Int.reduceToNat, Int.reduceLE, true_and, and_true, reduceCtorEq, or_false, false_or, or_true, Option.some.injEq, exists_eq_left', Bool.not_true, Bool.not_false, ne_eq, Int.reduceEq, not_true_eq_false, not_false_eq_true, Int.reduceLT, UInt8.reduceLT, UInt8.reduceLE, UInt8.reduceToNat]
          exact loopQ_intro (m := m.length - pn) (by omega) (hnext _ rfl rfl rfl)
    · have e1 : ¬ (76 : Int) < (m.length : Int) := by omega
      have hTf : T = acc ++ [m] := by
        rw [hTT]
        cases n' with
        | zero => rfl
        | succ n'' => simp only [foldF, hlt, if_false]
      simp (maxSteps := 1000000) (disch := omega) only [h0, h1, h5, len_s, e1, hJ, W_seq, W_region, W_cond, W_block, W_skip, W_label, W_exit, W_goto, W_ret, WO_cons, WO_consG, WO_nil, wantedA_eq, wantB, evOp, ev_tmp, ev_const, ev_fn, WN_some, WN_none, updO_some, updO_none, upd_eq,
 ↓reduceIte, Nat.reduceEqDiff, List.nil_append, List.cons_append, List.append_nil, List.map_cons, List.map_nil, env0_zero, env0_succ, env0_nil, Option.map_some, Option.map_none, seqQ_normal, seqQ_ret, seqQ_exit, seqQ_goto, blockQ_normal, blockQ_ret, blockQ_exit, blockQ_goto, condW_bool, loopQ_ret, loopQ_exit, loopQ_goto, endQ_ret, endQ_normal,
 lss_i, leq_i, gtr_i, geq_i, eql_i, neq_i, eql_8, neq_8, lss_8, leq_8, gtr_8, geq_8, eql_s, neq_s, eql_b, neq_b, not_b, by_bys, by_nils, load_cp1, beq_true, beq_false, Bool.not_eq_true', decide_eq_true_eq, decide_eq_false_iff_not, decide_true, decide_false,
 Int.toNat_natCast, Int.ofNat_lt, Int.ofNat_le, Int.natCast_inj, Bool.false_eq_true, Bool.true_eq_false, extPV, List.getElem?_cons_zero, List.getElem?_cons_succ, nilckPV, Int.reduceToNat, Int.reduceLE, true_and, and_true, reduceCtorEq, or_false, false_or, or_true, Option.some.injEq, exists_eq_left', Bool.not_true, Bool.not_false, ne_eq, Int.reduceEq, not_true_eq_false, not_false_eq_true, Int.reduceLT, UInt8.reduceLT, UInt8.reduceLE, UInt8.reduceToNat]
      exact ⟨m, v, acc, hg, ho, hal, hTf, rfl, rfl⟩
  clear hg h0 h1 h5
  intro e S hj
  rw [hJ] at hj
  obtain ⟨m, v, acc, hg, ho, hal, hTT, h0, h5⟩ := hj
  have happ := appV_own (u := .str m) (t := .own S.toks.length) ho.tok1 (by simp only [List.length_map, room]; omega)
  obtain ⟨g2, o2⟩ := Own.app (ys := acc.map PV.str ++ [.str m]) hg.tok1 ho.tok1
  simp (maxSteps := 1000000) (disch := omega) only [h0, h5, lits1, freshT_eq, happ, W_seq, W_region, W_cond, W_block, W_skip, W_label, W_exit, W_goto, W_ret, WO_cons, WO_consG, WO_nil, wantedA_eq, wantB, evOp, ev_tmp, ev_const, ev_fn, WN_some, WN_none, updO_some, updO_none, upd_eq,
 ↓reduceIte, Nat.reduceEqDiff, List.nil_append, List.cons_append, List.append_nil, List.map_cons, List.map_nil, env0_zero, env0_succ, env0_nil, Option.map_some, Option.map_none, seqQ_normal, seqQ_ret, seqQ_exit, seqQ_goto, blockQ_normal, blockQ_ret, blockQ_exit, blockQ_goto, condW_bool, loopQ_ret, loopQ_exit, loopQ_goto, endQ_ret, endQ_normal,
 lss_i, leq_i, gtr_i, geq_i, eql_i, neq_i, eql_8, neq_8, lss_8, leq_8, gtr_8, geq_8, eql_s, neq_s, eql_b, neq_b, not_b, by_bys, by_nils, load_cp1, beq_true, beq_false, Bool.not_eq_true', decide_eq_true_eq, decide_eq_false_iff_not, decide_true, decide_false,
 Int.toNat_natCast, Int.ofNat_lt, Int.ofNat_le, Int.natCast_inj, Bool.false_eq_true, Bool.true_eq_false, extPV, List.getElem?_cons_zero, List.getElem?_cons_succ, nilckPV, Int.reduceToNat, Int.reduceLE, true_and, and_true, reduceCtorEq, or_false, false_or, or_true, Option.some.injEq, exists_eq_left', Bool.not_true, Bool.not_false, ne_eq, Int.reduceEq, not_true_eq_false, not_false_eq_true, Int.reduceLT, UInt8.reduceLT, UInt8.reduceLE, UInt8.reduceToNat]
  refine ⟨_, rfl, ?_⟩
  have := leave_own g2 o2 (fun h => by simp at h)
  simp only [upd_eq, packRes]
  simp
  rw [this, hTT]
  simp [newS]
end Go.Ab

/-
  A header is written.
-/
namespace Go.Ab
set_option linter.unusedVariables false
set_option linter.unusedSimpArgs false
variable {st s : St} {e : Env}

def lineOf (f : Fld) : List UInt8 := f.1 ++ [58] ++ (if f.2 = [] then [] else 32 :: f.2)
def piecesOf (f : Fld) : List (List UInt8) := foldF (lineOf f).length (lineOf f) (f.1.length + 3)
def crl2 (x : List UInt8) : List UInt8 := x ++ [13, 10]
def fieldBytes (f : Fld) : List UInt8 := (piecesOf f).flatMap crl2
def okFd (f : Fld) : Bool := nameB f.1 && valB f.2
def longX (x : List UInt8) : Bool := decide (998 < x.length)
def longF (f : Fld) : Bool := (piecesOf f).any longX
def writeOf (fs : List Fld) : Int × List UInt8 :=
  if 128 < fs.length then (2, []) else if fs.all okFd then (if fs.any longF then (40, []) else (0, fs.flatMap fieldBytes ++ [13, 10])) else (50, [])
/-- What a writer hands back, and the state behind it. -/
def outV (st : St) (r : Int × List UInt8) : PV × St := if r.1 = 0 then (.tup [.bys (.own st.toks.length) r.2, .int .i64 0], st.tok1) else (.tup [.nils, .int .i64 r.1], st)

theorem foldF_flat : ∀ (n : Nat) (l : List UInt8) (f : Nat), (foldF n l f).flatten = l := by
  intro n
  induction n with
  | zero => intro l f; simp [foldF]
  | succ n ih =>
    intro l f
    simp only [foldF]
    split
    · split
      · simp
      · rw [List.flatten_cons, ih, List.take_append_drop]
    · simp
theorem foldF_num : ∀ (n : Nat) (l : List UInt8) (f : Nat), (foldF n l f).length ≤ n + 1 := by
  intro n
  induction n with
  | zero => intro l f; simp [foldF]
  | succ n ih =>
    intro l f
    simp only [foldF]
    split
    · split
      · simp
      · have := ih (l.drop (plc l f l.length).toNat) 1
        simp; omega
    · simp
theorem crl2_len : ∀ (xs : List (List UInt8)), (xs.flatMap crl2).length = xs.flatten.length + 2 * xs.length := by
  intro xs
  induction xs with
  | nil => rfl
  | cons x r ih => simp only [List.flatMap_cons, List.flatten_cons, List.length_append, List.length_cons, crl2, ih]; simp; omega
theorem lineOf_len {f : Fld} : (lineOf f).length ≤ f.1.length + f.2.length + 2 := by
  unfold lineOf
  split
  · simp; omega
  · simp; omega
theorem fieldBytes_len {f : Fld} (h : f.1.length ≤ 200) (h2 : f.2.length ≤ 5000) : (fieldBytes f).length ≤ 30000 := by
  unfold fieldBytes piecesOf
  rw [crl2_len, foldF_flat]
  have h3 := foldF_num (lineOf f).length (lineOf f) (f.1.length + 3)
  have h4 := lineOf_len (f := f)
  omega
theorem bytes_len : ∀ {fs : List Fld}, (∀ f ∈ fs, okF f) → (fs.flatMap fieldBytes).length ≤ fs.length * 30000 := by
  intro fs
  induction fs with
  | nil => intro _; simp
  | cons f r ih =>
    intro h
    have h1 := fieldBytes_len (h f (by simp)).1 (h f (by simp)).2
    have h2 := ih (fun g hg => h g (by simp [hg]))
    simp only [List.flatMap_cons, List.length_append, List.length_cons]
    omega
theorem flatMap_take_le {α : Type} {g : α → List UInt8} : ∀ (xs : List α) (k : Nat), ((xs.take k).flatMap g).length ≤ (xs.flatMap g).length := by
  intro xs
  induction xs with
  | nil => intro k; simp
  | cons x r ih =>
    intro k
    cases k with
    | zero => simp
    | succ k => have := ih k; simp only [List.take_succ_cons, List.flatMap_cons, List.length_append]; omega

theorem leave_mine {v : PV} {l : List UInt8} {n : Int} (hk : Kept st s) (hm : Mine st s v l) (hne : l ≠ []) : leave st s (.tup [v, .int .i64 n]) = (.tup [.bys (.own st.toks.length) l, .int .i64 n], st.tok1) := by
  have e1 := hk.bx; have e2 := hk.lp; have e3 := hk.tk
  rcases hm.1 with ⟨rfl, rfl⟩ | ⟨i, rfl, hi⟩
  · exact absurd rfl hne
  · have h2 := hm.2 i rfl
    simp [leave, PV.inB, PV.inB.inBAll, hk.lw, keepRes, keepVals, keepVal, keepLeaf, keepTok, hi, show ¬ i < st.toks.length by omega, e1, e2, e3, St.tok1]

theorem adds' {ek : EK} {a b : List UInt8} (h : a.length + b.length ≤ 9223372036854775807) : binPV .add ek (.str a) (.str b) = some (.str (a ++ b)) := adds h
theorem all_take {fs : List Fld} (h : ∀ j, j < fs.length → okFd (fs.getD j ([], [])) = true) : fs.all okFd = true := by
  rw [List.all_eq_true]
  intro f hf
  obtain ⟨i, hi, rfl⟩ := List.mem_iff_getElem.1 hf
  have := h i hi
  simpa [List.getD, hi] using this
theorem all_not {fs : List Fld} {j : Nat} (hj : j < fs.length) (h : okFd (fs.getD j ([], [])) = false) : fs.all okFd = false := by
  rw [List.all_eq_false]
  exact ⟨fs.getD j ([], []), by simp [List.getD, hj], by rw [h]; simp⟩

theorem Mine.alloc {v : PV} {l : List UInt8} {B : List (List PV)} {L : List LoopS} {lo : Nat} (h : Mine st s v l) : Mine st ⟨B, s.toks, L, lo⟩ v l := ⟨h.1.move fun _ _ => rfl, h.2⟩
theorem iaddr_s {x : PV} {xs : List (List UInt8)} {k : IntKind} {c : Int} (h : x.vs 1 = some (xs.map .str)) (h1 : 0 ≤ c) (h2 : c.toNat < xs.length) : iaddrPV 1 x (.int k c) = some (.cp [.str (xs.getD c.toNat [])]) := by
  rw [iaddr_vs h h1 (by simpa using h2)]
  simp [List.getD, h2, PV.cells]

set_option maxHeartbeats 1000000 in
/-- The program's writer. -/
theorem Write_spec {x : PV} {fs : List Fld} (hx : x.vs 2 = some (fs.map fV)) (hf : ∀ f ∈ fs, okF f) (hl : fs.length ≤ 1000000) : call prog (.fn 145 []) [x] st = some (outV st (writeOf fs)) := by
  refine call_of_W prog_145 ?_
  unfold F_fields_Write; dsimp only
  have hlen := len_vs hx
  rw [List.length_map] at hlen
  have okLen : ∀ f : Fld, okFd f = true → f.1.length ≤ 64 ∧ f.2.length ≤ 4096 := fun f h => by
    simp only [okFd, nameB, valB, Bool.and_eq_true, decide_eq_true_eq] at h; omega
  by_cases h128 : 128 < fs.length
  · have e1 : (128 : Int) < (fs.length : Int) := by omega
    have hw : writeOf fs = (2, []) := by simp [writeOf, h128]
    simp (maxSteps := 1000000) (disch := omega) only [hlen, e1, W_seq, W_region, W_cond, W_block, W_skip, W_label, W_exit, W_goto, W_ret, WO_cons, WO_consG, WO_nil, wantedA_eq, wantB, evOp, ev_tmp, ev_const, ev_fn, WN_some, WN_none, updO_some, updO_none, upd_eq,
 ↓reduceIte, Nat.reduceEqDiff, List.nil_append, List.cons_append, List.append_nil, List.map_cons, List.map_nil, env0_zero, env0_succ, env0_nil, Option.map_some, Option.map_none, seqQ_normal, seqQ_ret, seqQ_exit, seqQ_goto, blockQ_normal, blockQ_ret, blockQ_exit, blockQ_goto, condW_bool, loopQ_ret, loopQ_exit, loopQ_goto, endQ_ret, endQ_normal,
 lss_i, leq_i, gtr_i, geq_i, eql_i, neq_i, eql_8, neq_8, lss_8, leq_8, gtr_8, geq_8, eql_s, neq_s, eql_b, neq_b, not_b, by_bys, by_nils, load_cp1, beq_true, beq_false, Bool.not_eq_true', decide_eq_true_eq, decide_eq_false_iff_not, decide_true, decide_false,
 Int.toNat_natCast, Int.ofNat_lt, Int.ofNat_le, Int.natCast_inj, Bool.false_eq_true, Bool.true_eq_false, extPV, List.getElem?_cons_zero, List.getElem?_cons_succ, nilckPV, Int.reduceToNat, Int.reduceLE, true_and, and_true, reduceCtorEq, or_false, false_or, or_true, Option.some.injEq, exists_eq_left', Bool.not_true, Bool.not_false, ne_eq, Int.reduceEq, not_true_eq_false, not_false_eq_true, Int.reduceLT, UInt8.reduceLT, UInt8.reduceLE, UInt8.reduceToNat]
    rw [hw]
    exact ⟨.tup [.nils, .int .i64 2], rfl, Kept.start.leave rfl (fun _ _ => rfl)⟩
  have e128 : ¬ (128 : Int) < (fs.length : Int) := by omega
  refine W_cut (fun E S => Kept st S ∧ E 0 = x) ?_ ?_
  · simp (maxSteps := 1000000) (disch := omega) only [W_seq, W_region, W_cond, W_block, W_skip, W_label, W_exit, W_goto, W_ret, WO_cons, WO_consG, WO_nil, wantedA_eq, wantB, evOp, ev_tmp, ev_const, ev_fn, WN_some, WN_none, updO_some, updO_none, upd_eq,
 ↓reduceIte, Nat.reduceEqDiff, List.nil_append, List.cons_append, List.append_nil, List.map_cons, List.map_nil, env0_zero, env0_succ, env0_nil, Option.map_some, Option.map_none, seqQ_normal, seqQ_ret, seqQ_exit, seqQ_goto, blockQ_normal, blockQ_ret, blockQ_exit, blockQ_goto, condW_bool, loopQ_ret, loopQ_exit, loopQ_goto, endQ_ret, endQ_normal,
 lss_i, leq_i, gtr_i, geq_i, eql_i, neq_i, eql_8, neq_8, lss_8, leq_8, gtr_8, geq_8, eql_s, neq_s, eql_b, neq_b, not_b, by_bys, by_nils, load_cp1, beq_true, beq_false, Bool.not_eq_true', decide_eq_true_eq, decide_eq_false_iff_not, decide_true, decide_false,
 Int.toNat_natCast, Int.ofNat_lt, Int.ofNat_le, Int.natCast_inj, Bool.false_eq_true, Bool.true_eq_false, extPV, List.getElem?_cons_zero, List.getElem?_cons_succ, nilckPV, Int.reduceToNat, Int.reduceLE, true_and, and_true, reduceCtorEq, or_false, false_or, or_true, Option.some.injEq, exists_eq_left', Bool.not_true, Bool.not_false, ne_eq, Int.reduceEq, not_true_eq_false, not_false_eq_true, Int.reduceLT, UInt8.reduceLT, UInt8.reduceLE, UInt8.reduceToNat]
    exact Kept.start
  rintro e S ⟨hk, h0⟩
  refine W_cut (fun E S => Kept st S ∧ E 0 = x) ?_ ?_
  · simp (maxSteps := 1000000) (disch := omega) only [h0, hlen, e128, W_seq, W_region, W_cond, W_block, W_skip, W_label, W_exit, W_goto, W_ret, WO_cons, WO_consG, WO_nil, wantedA_eq, wantB, evOp, ev_tmp, ev_const, ev_fn, WN_some, WN_none, updO_some, updO_none, upd_eq,
 ↓reduceIte, Nat.reduceEqDiff, List.nil_append, List.cons_append, List.append_nil, List.map_cons, List.map_nil, env0_zero, env0_succ, env0_nil, Option.map_some, Option.map_none, seqQ_normal, seqQ_ret, seqQ_exit, seqQ_goto, blockQ_normal, blockQ_ret, blockQ_exit, blockQ_goto, condW_bool, loopQ_ret, loopQ_exit, loopQ_goto, endQ_ret, endQ_normal,
 lss_i, leq_i, gtr_i, geq_i, eql_i, neq_i, eql_8, neq_8, lss_8, leq_8, gtr_8, geq_8, eql_s, neq_s, eql_b, neq_b, not_b, by_bys, by_nils, load_cp1, beq_true, beq_false, Bool.not_eq_true', decide_eq_true_eq, decide_eq_false_iff_not, decide_true, decide_false,
 Int.toNat_natCast, Int.ofNat_lt, Int.ofNat_le, Int.natCast_inj, Bool.false_eq_true, Bool.true_eq_false, extPV, List.getElem?_cons_zero, List.getElem?_cons_succ, nilckPV, Int.reduceToNat, Int.reduceLE, true_and, and_true, reduceCtorEq, or_false, false_or, or_true, Option.some.injEq, exists_eq_left', Bool.not_true, Bool.not_false, ne_eq, Int.reduceEq, not_true_eq_false, not_false_eq_true, Int.reduceLT, UInt8.reduceLT, UInt8.reduceLE, UInt8.reduceToNat]
    exact hk
  clear hk h0
  rintro e S ⟨hk, h0⟩
  obtain ⟨I, hI⟩ : ∃ I : Nat → Env → St → Prop, I = fun k e s' => ∃ (i : Nat), k = fs.length - i ∧ i ≤ fs.length ∧ Kept st s' ∧ (∀ j, j < i → okFd (fs.getD j ([], [])) = true) ∧ e 0 = x ∧ e 15 = x ∧ e 16 = .int .i64 (fs.length : Int) ∧ e 17 = .int .i64 (i : Int) := ⟨_, rfl⟩
  cases hall : fs.all okFd with
  | false =>
    have hw : writeOf fs = (50, []) := by simp [writeOf, h128, hall]
    rw [hw]
    simp (maxSteps := 1000000) (disch := omega) only [h0, hlen, W_seq, W_region, W_cond, W_block, W_skip, W_label, W_exit, W_goto, W_ret, WO_cons, WO_consG, WO_nil, wantedA_eq, wantB, evOp, ev_tmp, ev_const, ev_fn, WN_some, WN_none, updO_some, updO_none, upd_eq,
 ↓reduceIte, Nat.reduceEqDiff, List.nil_append, List.cons_append, List.append_nil, List.map_cons, List.map_nil, env0_zero, env0_succ, env0_nil, Option.map_some, Option.map_none, seqQ_normal, seqQ_ret, seqQ_exit, seqQ_goto, blockQ_normal, blockQ_ret, blockQ_exit, blockQ_goto, condW_bool, loopQ_ret, loopQ_exit, loopQ_goto, endQ_ret, endQ_normal,
 lss_i, leq_i, gtr_i, geq_i, eql_i, neq_i, eql_8, neq_8, lss_8, leq_8, gtr_8, geq_8, eql_s, neq_s, eql_b, neq_b, not_b, by_bys, by_nils, load_cp1, beq_true, beq_false, Bool.not_eq_true', decide_eq_true_eq, decide_eq_false_iff_not, decide_true, decide_false,
 Int.toNat_natCast, Int.ofNat_lt, Int.ofNat_le, Int.natCast_inj, Bool.false_eq_true, Bool.true_eq_false, extPV, List.getElem?_cons_zero, List.getElem?_cons_succ, nilckPV, Int.reduceToNat, Int.reduceLE, true_and, and_true, reduceCtorEq, or_false, false_or, or_true, Option.some.injEq, exists_eq_left', Bool.not_true, Bool.not_false, ne_eq, Int.reduceEq, not_true_eq_false, not_false_eq_true, Int.reduceLT, UInt8.reduceLT, UInt8.reduceLE, UInt8.reduceToNat]
    refine W_loop I ?_ (n := fs.length) (by
      rw [hI]
      exact ⟨0, rfl, by omega, hk, fun j h => by omega, h0, rfl, rfl, rfl⟩)
    clear hk h0
    intro k e s' hh
    rw [hI] at hh
    obtain ⟨i, rfl, hi, hk, hok, h0, h15, h16, h17⟩ := hh
    by_cases hlt : i < fs.length
    · obtain ⟨f, hfe⟩ : ∃ f, f = fs.getD i ([], []) := ⟨_, rfl⟩
      have hfo := hf f (by rw [hfe]; simp [List.getD, hlt])
      have fin : ∀ (E : Env) (S : St), Kept st S → E 2 = .nils → E 3 = .int .i64 50 → ∃ rv, resOf E S [.tmp 2, .tmp 3] = some rv ∧ leave st S rv = outV st (50, []) := fun E S k1 k2 k3 =>
        ⟨.tup [.nils, .int .i64 50], by simp [resOf, rvAll, rv1, k2, k3, notTup, packRes], k1.leave rfl (fun _ _ => rfl)⟩
      have hnm : ∀ S : St, call prog (.fn 157 []) [.str f.1] S = some (.bool (nameB f.1), S) := fun S => isName_spec
      have hvl : ∀ S : St, call prog (.fn 158 []) [.str f.2] S = some (.bool (valB f.2), S) := fun S => isValue_spec (by have := hfo.2; omega)
      cases q1 : nameB f.1 with
      | false =>
        rw [q1] at hnm
        simp (maxSteps := 1000000) (disch := omega) only [h0, h15, h16, h17, hlt, iaddr_f hx, ← hfe, load_f2, allocPV, store_f, faddrPV, Nat.add_zero, Nat.zero_add, load_b0, load_b1, hnm, W_seq, W_region, W_cond, W_block, W_skip, W_label, W_exit, W_goto, W_ret, WO_cons, WO_consG, WO_nil, wantedA_eq, wantB, evOp, ev_tmp, ev_const, ev_fn, WN_some, WN_none, updO_some, updO_none, upd_eq,
 ↓reduceIte, Nat.reduceEqDiff, List.nil_append, List.cons_append, List.append_nil, List.map_cons, List.map_nil, env0_zero, env0_succ, env0_nil, Option.map_some, Option.map_none, seqQ_normal, seqQ_ret, seqQ_exit, seqQ_goto, blockQ_normal, blockQ_ret, blockQ_exit, blockQ_goto, condW_bool, loopQ_ret, loopQ_exit, loopQ_goto, endQ_ret, endQ_normal,
 lss_i, leq_i, gtr_i, geq_i, eql_i, neq_i, eql_8, neq_8, lss_8, leq_8, gtr_8, geq_8, eql_s, neq_s, eql_b, neq_b, not_b, by_bys, by_nils, load_cp1, beq_true, beq_false, Bool.not_eq_true', decide_eq_true_eq, decide_eq_false_iff_not, decide_true, decide_false,
 Int.toNat_natCast, Int.ofNat_lt, Int.ofNat_le, Int.natCast_inj, Bool.false_eq_true, Bool.true_eq_false, extPV, List.getElem?_cons_zero, List.getElem?_cons_succ, nilckPV, Int.reduceToNat, Int.reduceLE, true_and, and_true, reduceCtorEq, or_false, false_or, or_true, Option.some.injEq, exists_eq_left', Bool.not_true, Bool.not_false, ne_eq, Int.reduceEq, not_true_eq_false, not_false_eq_true, Int.reduceLT, UInt8.reduceLT, UInt8.reduceLE, UInt8.reduceToNat]
        exact fin _ _ hk.alloc' rfl rfl
      | true =>
        rw [q1] at hnm
        cases q2 : valB f.2 with
        | false =>
          rw [q2] at hvl
          simp (maxSteps := 1000000) (disch := omega) only [h0, h15, h16, h17, hlt, iaddr_f hx, ← hfe, load_f2, allocPV, store_f, faddrPV, Nat.add_zero, Nat.zero_add, load_b0, load_b1, hnm, hvl, W_seq, W_region, W_cond, W_block, W_skip, W_label, W_exit, W_goto, W_ret, WO_cons, WO_consG, WO_nil, wantedA_eq, wantB, evOp, ev_tmp, ev_const, ev_fn, WN_some, WN_none, updO_some, updO_none, upd_eq,
 ↓reduceIte, Nat.reduceEqDiff, List.nil_append, List.cons_append, List.append_nil, List.map_cons, List.map_nil, env0_zero, env0_succ, env0_nil, Option.map_some, Option.map_none, seqQ_normal, seqQ_ret, seqQ_exit, seqQ_goto, blockQ_normal, blockQ_ret, blockQ_exit, blockQ_goto, condW_bool, loopQ_ret, loopQ_exit, loopQ_goto, endQ_ret, endQ_normal,
 lss_i, leq_i, gtr_i, geq_i, eql_i, neq_i, eql_8, neq_8, lss_8, leq_8, gtr_8, geq_8, eql_s, neq_s, eql_b, neq_b, not_b, by_bys, by_nils, load_cp1, beq_true, beq_false, Bool.not_eq_true', decide_eq_true_eq, decide_eq_false_iff_not, decide_true, decide_false,
 Int.toNat_natCast, Int.ofNat_lt, Int.ofNat_le, Int.natCast_inj, Bool.false_eq_true, Bool.true_eq_false, extPV, List.getElem?_cons_zero, List.getElem?_cons_succ, nilckPV, Int.reduceToNat, Int.reduceLE, true_and, and_true, reduceCtorEq, or_false, false_or, or_true, Option.some.injEq, exists_eq_left', Bool.not_true, Bool.not_false, ne_eq, Int.reduceEq, not_true_eq_false, not_false_eq_true, Int.reduceLT, UInt8.reduceLT, UInt8.reduceLE, UInt8.reduceToNat]
          exact fin _ _ hk.alloc' rfl rfl
        | true =>
          rw [q2] at hvl
          simp (maxSteps := 1000000) (disch := omega) only [h0, h15, h16, h17, hlt, iaddr_f hx, ← hfe, load_f2, allocPV, store_f, faddrPV, Nat.add_zero, Nat.zero_add, load_b0, load_b1, hnm, hvl, add_n, W_seq, W_region, W_cond, W_block, W_skip, W_label, W_exit, W_goto, W_ret, WO_cons, WO_consG, WO_nil, wantedA_eq, wantB, evOp, ev_tmp, ev_const, ev_fn, WN_some, WN_none, updO_some, updO_none, upd_eq,
 ↓reduceIte, Nat.reduceEqDiff, List.nil_append, List.cons_append, List.append_nil, List.map_cons, List.map_nil, env0_zero, env0_succ, env0_nil, Option.map_some, Option.map_none, seqQ_normal, seqQ_ret, seqQ_exit, seqQ_goto, blockQ_normal, blockQ_ret, blockQ_exit, blockQ_goto, condW_bool, loopQ_ret, loopQ_exit, loopQ_goto, endQ_ret, endQ_normal,
 lss_i, leq_i, gtr_i, geq_i, eql_i, neq_i, eql_8, neq_8, lss_8, leq_8, gtr_8, geq_8, eql_s, neq_s, eql_b, neq_b, not_b, by_bys, by_nils, load_cp1, beq_true, beq_false, Bool.not_eq_true', decide_eq_true_eq, decide_eq_false_iff_not, decide_true, decide_false,
 Int.toNat_natCast, Int.ofNat_lt, Int.ofNat_le, Int.natCast_inj, Bool.false_eq_true, Bool.true_eq_false, extPV, List.getElem?_cons_zero, List.getElem?_cons_succ, nilckPV, Int.reduceToNat, Int.reduceLE, true_and, and_true, reduceCtorEq, or_false, false_or, or_true, Option.some.injEq, exists_eq_left', Bool.not_true, Bool.not_false, ne_eq, Int.reduceEq, not_true_eq_false, not_false_eq_true, Int.reduceLT, UInt8.reduceLT, UInt8.reduceLE, UInt8.reduceToNat]
          refine loopQ_intro (m := fs.length - (i + 1)) (by omega) ?_
          rw [hI]
          refine ⟨i + 1, rfl, by omega, hk.alloc', fun j hj => ?_, h0, h15, h16, rfl⟩
          by_cases hji : j = i
          · subst hji; rw [← hfe]; simp [okFd, q1, q2]
          · exact hok j (by omega)
    · obtain rfl : i = fs.length := by omega
      rw [all_take hok] at hall; cases hall
  | true =>
  have hokj : ∀ f ∈ fs, okFd f = true := List.all_eq_true.1 hall
  refine W_cut (fun E S => Kept st S ∧ E 0 = x) ?_ ?_
  · simp (maxSteps := 1000000) (disch := omega) only [h0, hlen, W_seq, W_region, W_cond, W_block, W_skip, W_label, W_exit, W_goto, W_ret, WO_cons, WO_consG, WO_nil, wantedA_eq, wantB, evOp, ev_tmp, ev_const, ev_fn, WN_some, WN_none, updO_some, updO_none, upd_eq,
 ↓reduceIte, Nat.reduceEqDiff, List.nil_append, List.cons_append, List.append_nil, List.map_cons, List.map_nil, env0_zero, env0_succ, env0_nil, Option.map_some, Option.map_none, seqQ_normal, seqQ_ret, seqQ_exit, seqQ_goto, blockQ_normal, blockQ_ret, blockQ_exit, blockQ_goto, condW_bool, loopQ_ret, loopQ_exit, loopQ_goto, endQ_ret, endQ_normal,
 lss_i, leq_i, gtr_i, geq_i, eql_i, neq_i, eql_8, neq_8, lss_8, leq_8, gtr_8, geq_8, eql_s, neq_s, eql_b, neq_b, not_b, by_bys, by_nils, load_cp1, beq_true, beq_false, Bool.not_eq_true', decide_eq_true_eq, decide_eq_false_iff_not, decide_true, decide_false,
 Int.toNat_natCast, Int.ofNat_lt, Int.ofNat_le, Int.natCast_inj, Bool.false_eq_true, Bool.true_eq_false, extPV, List.getElem?_cons_zero, List.getElem?_cons_succ, nilckPV, Int.reduceToNat, Int.reduceLE, true_and, and_true, reduceCtorEq, or_false, false_or, or_true, Option.some.injEq, exists_eq_left', Bool.not_true, Bool.not_false, ne_eq, Int.reduceEq, not_true_eq_false, not_false_eq_true, Int.reduceLT, UInt8.reduceLT, UInt8.reduceLE, UInt8.reduceToNat]
    refine W_loop I ?_ (n := fs.length) (by
      rw [hI]
      exact ⟨0, rfl, by omega, hk, fun j h => by omega, h0, rfl, rfl, rfl⟩)
    clear hk h0
    intro k e s' hh
    rw [hI] at hh
    obtain ⟨i, rfl, hi, hk, hok, h0, h15, h16, h17⟩ := hh
    by_cases hlt : i < fs.length
    · obtain ⟨f, hfe⟩ : ∃ f, f = fs.getD i ([], []) := ⟨_, rfl⟩
      have hfm : f ∈ fs := by rw [hfe]; simp [List.getD, hlt]
      have hfo := hf f hfm
      have hq := hokj f hfm
      have q1 : nameB f.1 = true := by simp only [okFd, Bool.and_eq_true] at hq; exact hq.1
      have q2 : valB f.2 = true := by simp only [okFd, Bool.and_eq_true] at hq; exact hq.2
      have hnm : ∀ S : St, call prog (.fn 157 []) [.str f.1] S = some (.bool true, S) := fun S => by rw [isName_spec, q1]
      have hvl : ∀ S : St, call prog (.fn 158 []) [.str f.2] S = some (.bool true, S) := fun S => by rw [isValue_spec (by have := hfo.2; omega), q2]
      simp (maxSteps := 1000000) (disch := omega) only [h0, h15, h16, h17, hlt, iaddr_f hx, ← hfe, load_f2, allocPV, store_f, faddrPV, Nat.add_zero, Nat.zero_add, load_b0, load_b1, hnm, hvl, add_n, W_seq, W_region, W_cond, W_block, W_skip, W_label, W_exit, W_goto, W_ret, WO_cons, WO_consG, WO_nil, wantedA_eq, wantB, evOp, ev_tmp, ev_const, ev_fn, WN_some, WN_none, updO_some, updO_none, upd_eq,
 ↓reduceIte, Nat.reduceEqDiff, List.nil_append, List.cons_append, List.append_nil, List.map_cons, List.map_nil, env0_zero, env0_succ, env0_nil, Option.map_some, Option.map_none, seqQ_normal, seqQ_ret, seqQ_exit, seqQ_goto, blockQ_normal, blockQ_ret, blockQ_exit, blockQ_goto, condW_bool, loopQ_ret, loopQ_exit, loopQ_goto, endQ_ret, endQ_normal,
 lss_i, leq_i, gtr_i, geq_i, eql_i, neq_i, eql_8, neq_8, lss_8, leq_8, gtr_8, geq_8, eql_s, neq_s, eql_b, neq_b, not_b, by_bys, by_nils, load_cp1, beq_true, beq_false, Bool.not_eq_true', decide_eq_true_eq, decide_eq_false_iff_not, decide_true, decide_false,
 Int.toNat_natCast, Int.ofNat_lt, Int.ofNat_le, Int.natCast_inj, Bool.false_eq_true, Bool.true_eq_false, extPV, List.getElem?_cons_zero, List.getElem?_cons_succ, nilckPV, Int.reduceToNat, Int.reduceLE, true_and, and_true, reduceCtorEq, or_false, false_or, or_true, Option.some.injEq, exists_eq_left', Bool.not_true, Bool.not_false, ne_eq, Int.reduceEq, not_true_eq_false, not_false_eq_true, Int.reduceLT, UInt8.reduceLT, UInt8.reduceLE, UInt8.reduceToNat]
      refine loopQ_intro (m := fs.length - (i + 1)) (by omega) ?_
      rw [hI]
      refine ⟨i + 1, rfl, by omega, hk.alloc', fun j hj => ?_, h0, h15, h16, rfl⟩
      by_cases hji : j = i
      · subst hji; rw [← hfe]; exact hq
      · exact hok j (by omega)
    · obtain rfl : i = fs.length := by omega
      simp (maxSteps := 1000000) (disch := omega) only [h0, h15, h16, h17, hlt, W_seq, W_region, W_cond, W_block, W_skip, W_label, W_exit, W_goto, W_ret, WO_cons, WO_consG, WO_nil, wantedA_eq, wantB, evOp, ev_tmp, ev_const, ev_fn, WN_some, WN_none, updO_some, updO_none, upd_eq,
 ↓reduceIte, Nat.reduceEqDiff, List.nil_append, List.cons_append, List.append_nil, List.map_cons, List.map_nil, env0_zero, env0_succ, env0_nil, Option.map_some, Option.map_none, seqQ_normal, seqQ_ret, seqQ_exit, seqQ_goto, blockQ_normal, blockQ_ret, blockQ_exit, blockQ_goto, condW_bool, loopQ_ret, loopQ_exit, loopQ_goto, endQ_ret, endQ_normal,
 lss_i, leq_i, gtr_i, geq_i, eql_i, neq_i, eql_8, neq_8, lss_8, leq_8, gtr_8, geq_8, eql_s, neq_s, eql_b, neq_b, not_b, by_bys, by_nils, load_cp1, beq_true, beq_false, Bool.not_eq_true', decide_eq_true_eq, decide_eq_false_iff_not, decide_true, decide_false,
 Int.toNat_natCast, Int.ofNat_lt, Int.ofNat_le, Int.natCast_inj, Bool.false_eq_true, Bool.true_eq_false, extPV, List.getElem?_cons_zero, List.getElem?_cons_succ, nilckPV, Int.reduceToNat, Int.reduceLE, true_and, and_true, reduceCtorEq, or_false, false_or, or_true, Option.some.injEq, exists_eq_left', Bool.not_true, Bool.not_false, ne_eq, Int.reduceEq, not_true_eq_false, not_false_eq_true, Int.reduceLT, UInt8.reduceLT, UInt8.reduceLE, UInt8.reduceToNat]
      exact hk
  clear hk h0 hI
  rintro e S ⟨hk, h0⟩
  simp (maxSteps := 1000000) (disch := omega) only [h0, hlen, W_seq, W_region, W_cond, W_block, W_skip, W_label, W_exit, W_goto, W_ret, WO_cons, WO_consG, WO_nil, wantedA_eq, wantB, evOp, ev_tmp, ev_const, ev_fn, WN_some, WN_none, updO_some, updO_none, upd_eq,
 ↓reduceIte, Nat.reduceEqDiff, List.nil_append, List.cons_append, List.append_nil, List.map_cons, List.map_nil, env0_zero, env0_succ, env0_nil, Option.map_some, Option.map_none, seqQ_normal, seqQ_ret, seqQ_exit, seqQ_goto, blockQ_normal, blockQ_ret, blockQ_exit, blockQ_goto, condW_bool, loopQ_ret, loopQ_exit, loopQ_goto, endQ_ret, endQ_normal,
 lss_i, leq_i, gtr_i, geq_i, eql_i, neq_i, eql_8, neq_8, lss_8, leq_8, gtr_8, geq_8, eql_s, neq_s, eql_b, neq_b, not_b, by_bys, by_nils, load_cp1, beq_true, beq_false, Bool.not_eq_true', decide_eq_true_eq, decide_eq_false_iff_not, decide_true, decide_false,
 Int.toNat_natCast, Int.ofNat_lt, Int.ofNat_le, Int.natCast_inj, Bool.false_eq_true, Bool.true_eq_false, extPV, List.getElem?_cons_zero, List.getElem?_cons_succ, nilckPV, Int.reduceToNat, Int.reduceLE, true_and, and_true, reduceCtorEq, or_false, false_or, or_true, Option.some.injEq, exists_eq_left', Bool.not_true, Bool.not_false, ne_eq, Int.reduceEq, not_true_eq_false, not_false_eq_true, Int.reduceLT, UInt8.reduceLT, UInt8.reduceLE, UInt8.reduceToNat]
  obtain ⟨I2, hI2⟩ : ∃ I2 : Nat → Env → St → Prop, I2 = fun k e s' => ∃ (i : Nat) (v : PV), k = fs.length - i ∧ i ≤ fs.length ∧ Kept st s' ∧ Mine st s' v ((fs.take i).flatMap fieldBytes) ∧ (∀ j, j < i → longF (fs.getD j ([], [])) = false) ∧ e 6 = v ∧ e 32 = x ∧ e 33 = .int .i64 (fs.length : Int) ∧ e 34 = .int .i64 (i : Int) := ⟨_, rfl⟩
  refine W_loop I2 ?_ (n := fs.length) (by
    rw [hI2]
    exact ⟨0, .nils, rfl, by omega, hk, Mine.nil, fun j h => by omega, rfl, rfl, rfl, rfl⟩)
  clear hk h0
  intro k e s' hh
  rw [hI2] at hh
  obtain ⟨i, v, rfl, hi, hk, hm, hlg, h6, h32, h33, h34⟩ := hh
  have hbl := bytes_len (fs := fs.take i) (fun f hfm => hf f (List.mem_of_mem_take hfm))
  have hbl2 : ((fs.take i).flatMap fieldBytes).length ≤ 3840000 := by
    have h0 : (fs.take i).length ≤ 128 := by simp; omega
    exact Nat.le_trans hbl (Nat.le_trans (Nat.mul_le_mul_right 30000 h0) (by decide))
  clear hbl
  by_cases hlt : i < fs.length
  · obtain ⟨f, hfe⟩ : ∃ f, f = fs.getD i ([], []) := ⟨_, rfl⟩
    have hfm : f ∈ fs := by rw [hfe]; simp [List.getD, hlt]
    have hfo := hf f hfm
    have hq := okLen f (hokj f hfm)
    have hfb := fieldBytes_len hfo.1 hfo.2
    have hll := lineOf_len (f := f)
    obtain ⟨ps, hps⟩ : ∃ ps, ps = piecesOf f := ⟨_, rfl⟩
    obtain ⟨base, hbase⟩ : ∃ base, base = (fs.take i).flatMap fieldBytes := ⟨_, rfl⟩
    rw [← hbase] at hm hbl2
    have hpl : ps.length ≤ 6000 := by
      have := foldF_num (lineOf f).length (lineOf f) (f.1.length + 3)
      rw [hps]; unfold piecesOf; omega
    have hfold : ∀ S : St, call prog (.fn 159 []) [.str (lineOf f), .int .i64 ((f.1.length + 3 : Nat) : Int)] S = some (newSl S 1 (ps.map .str), S.tok1) := fun S => by
      rw [hps]; exact fold_spec (by omega) (by omega) (by omega) (Nat.le_refl _)
    have hlenp : ∀ S : St, lenPV false (newSl S 1 (ps.map .str)) = some (.int .i64 (ps.length : Int)) := fun S => by rw [len_vs newSl_vs, List.length_map]
    have hsn : (fs.take (i + 1)).flatMap fieldBytes = base ++ ps.flatMap crl2 := by
      rw [take_getD' hlt, ← hfe, List.flatMap_append, hbase, hps]; simp [fieldBytes]
    have hfbl : (ps.flatMap crl2).length ≤ 30000 := by rw [hps]; exact hfb
    obtain ⟨II, hII⟩ : ∃ II : Nat → Env → St → Prop, II = fun k e S => ∃ (q : Nat) (v p : PV), k = ps.length - q ∧ q ≤ ps.length ∧ Kept st S ∧ Mine st S v (base ++ (ps.take q).flatMap crl2) ∧ (∀ j, j < q → longX (ps.getD j []) = false) ∧ p.vs 1 = some (ps.map .str) ∧ e 54 = p ∧ e 55 = .int .i64 (ps.length : Int) ∧ e 56 = .int .i64 (q : Int) ∧ e 6 = v ∧ e 32 = x ∧ e 33 = .int .i64 (fs.length : Int) ∧ e 34 = .int .i64 (i : Int) := ⟨_, rfl⟩
    have fin : ∀ (E : Env) (S : St), Kept st S → fs.any longF = true → E 2 = .nils → E 3 = .int .i64 40 → ∃ rv, resOf E S [.tmp 2, .tmp 3] = some rv ∧ leave st S rv = outV st (writeOf fs) := fun E S k1 hL k2 k3 =>
      ⟨.tup [.nils, .int .i64 40], by simp [resOf, rvAll, rv1, k2, k3, notTup, packRes], by
        rw [show writeOf fs = (40, []) by simp [writeOf, h128, hall, hL]]
        exact k1.leave rfl (fun _ _ => rfl)⟩
    by_cases hv : f.2 = []
    have hl1 : lineOf f = f.1 ++ [58] := by simp [lineOf, hv]
    rw [hl1] at hfold
    simp (maxSteps := 1000000) (disch := omega) only [h6, h32, h33, h34, hlt, iaddr_f hx, ← hfe, load_f2, allocPV, store_f, faddrPV, Nat.add_zero, Nat.zero_add, load_b0, load_b1, adds (a := f.1) (b := [58]) (by simp; omega), eq_true hv, hfold, len_s, add_n, hlenp, W_seq, W_region, W_cond, W_block, W_skip, W_label, W_exit, W_goto, W_ret, WO_cons, WO_consG, WO_nil, wantedA_eq, wantB, evOp, ev_tmp, ev_const, ev_fn, WN_some, WN_none, updO_some, updO_none, upd_eq,
 ↓reduceIte, Nat.reduceEqDiff, List.nil_append, List.cons_append, List.append_nil, List.map_cons, List.map_nil, env0_zero, env0_succ, env0_nil, Option.map_some, Option.map_none, seqQ_normal, seqQ_ret, seqQ_exit, seqQ_goto, blockQ_normal, blockQ_ret, blockQ_exit, blockQ_goto, condW_bool, loopQ_ret, loopQ_exit, loopQ_goto, endQ_ret, endQ_normal,
 lss_i, leq_i, gtr_i, geq_i, eql_i, neq_i, eql_8, neq_8, lss_8, leq_8, gtr_8, geq_8, eql_s, neq_s, eql_b, neq_b, not_b, by_bys, by_nils, load_cp1, beq_true, beq_false, Bool.not_eq_true', decide_eq_true_eq, decide_eq_false_iff_not, decide_true, decide_false,
 Int.toNat_natCast, Int.ofNat_lt, Int.ofNat_le, Int.natCast_inj, Bool.false_eq_true, Bool.true_eq_false, extPV, List.getElem?_cons_zero, List.getElem?_cons_succ, nilckPV, Int.reduceToNat, Int.reduceLE, true_and, and_true, reduceCtorEq, or_false, false_or, or_true, Option.some.injEq, exists_eq_left', Bool.not_true, Bool.not_false, ne_eq, Int.reduceEq, not_true_eq_false, not_false_eq_true, Int.reduceLT, UInt8.reduceLT, UInt8.reduceLE, UInt8.reduceToNat]
    rotate_left
    have hl1 : lineOf f = f.1 ++ [58] ++ 32 :: f.2 := by simp [lineOf, hv]
    rw [hl1] at hfold
    have ha1 : ∀ ek, binPV .add ek (.str [32]) (.str f.2) = some (.str (32 :: f.2)) := fun ek => adds (a := [32]) (b := f.2) (by simp; omega)
    have ha2 : ∀ ek, binPV .add ek (.str (f.1 ++ [58])) (.str (32 :: f.2)) = some (.str (f.1 ++ [58] ++ 32 :: f.2)) := fun ek => adds (by simp; omega)
    simp (maxSteps := 1000000) (disch := omega) only [h6, h32, h33, h34, hlt, iaddr_f hx, ← hfe, load_f2, allocPV, store_f, faddrPV, Nat.add_zero, Nat.zero_add, load_b0, load_b1, adds (a := f.1) (b := [58]) (by simp; omega), hv, ha1, ha2, hfold, len_s, add_n, hlenp, W_seq, W_region, W_cond, W_block, W_skip, W_label, W_exit, W_goto, W_ret, WO_cons, WO_consG, WO_nil, wantedA_eq, wantB, evOp, ev_tmp, ev_const, ev_fn, WN_some, WN_none, updO_some, updO_none, upd_eq,
 ↓reduceIte, Nat.reduceEqDiff, List.nil_append, List.cons_append, List.append_nil, List.map_cons, List.map_nil, env0_zero, env0_succ, env0_nil, Option.map_some, Option.map_none, seqQ_normal, seqQ_ret, seqQ_exit, seqQ_goto, blockQ_normal, blockQ_ret, blockQ_exit, blockQ_goto, condW_bool, loopQ_ret, loopQ_exit, loopQ_goto, endQ_ret, endQ_normal,
 lss_i, leq_i, gtr_i, geq_i, eql_i, neq_i, eql_8, neq_8, lss_8, leq_8, gtr_8, geq_8, eql_s, neq_s, eql_b, neq_b, not_b, by_bys, by_nils, load_cp1, beq_true, beq_false, Bool.not_eq_true', decide_eq_true_eq, decide_eq_false_iff_not, decide_true, decide_false,
 Int.toNat_natCast, Int.ofNat_lt, Int.ofNat_le, Int.natCast_inj, Bool.false_eq_true, Bool.true_eq_false, extPV, List.getElem?_cons_zero, List.getElem?_cons_succ, nilckPV, Int.reduceToNat, Int.reduceLE, true_and, and_true, reduceCtorEq, or_false, false_or, or_true, Option.some.injEq, exists_eq_left', Bool.not_true, Bool.not_false, ne_eq, Int.reduceEq, not_true_eq_false, not_false_eq_true, Int.reduceLT, UInt8.reduceLT, UInt8.reduceLE, UInt8.reduceToNat]
    all_goals
      refine W_loop II ?_ (n := ps.length) (by
        rw [hII]
        exact ⟨0, v, _, rfl, by omega, hk.alloc'.tok1, by simpa using hm.alloc.tok1, fun j h => by omega, newSl_vs, rfl, rfl, rfl, h6, h32, h33, h34⟩)
      clear hk hm h6 h32 h33 h34
      intro k e S hh
      rw [hII] at hh
      obtain ⟨q, v, p, rfl, hq1, hk, hm, hlx, hp, h54, h55, h56, h6, h32, h33, h34⟩ := hh
      by_cases hqt : q < ps.length
      · obtain ⟨y, hy⟩ : ∃ y, y = ps.getD q [] := ⟨_, rfl⟩
        have hfl := flatMap_take_le (g := crl2) ps (q + 1)
        rw [take_getD' hqt, ← hy, List.flatMap_append, List.length_append] at hfl
        simp only [List.flatMap_cons, List.flatMap_nil, List.append_nil, crl2, List.length_append, List.length_cons, List.length_nil] at hfl
        by_cases hlo : 998 < y.length
        · have e1 : (998 : Int) < (y.length : Int) := by omega
          simp (maxSteps := 1000000) (disch := omega) only [h54, h55, h56, h6, hqt, iaddr_s hp, ← hy, load_cp1, len_s, e1, W_seq, W_region, W_cond, W_block, W_skip, W_label, W_exit, W_goto, W_ret, WO_cons, WO_consG, WO_nil, wantedA_eq, wantB, evOp, ev_tmp, ev_const, ev_fn, WN_some, WN_none, updO_some, updO_none, upd_eq,
 ↓reduceIte, Nat.reduceEqDiff, List.nil_append, List.cons_append, List.append_nil, List.map_cons, List.map_nil, env0_zero, env0_succ, env0_nil, Option.map_some, Option.map_none, seqQ_normal, seqQ_ret, seqQ_exit, seqQ_goto, blockQ_normal, blockQ_ret, blockQ_exit, blockQ_goto, condW_bool, loopQ_ret, loopQ_exit, loopQ_goto, endQ_ret, endQ_normal,
 lss_i, leq_i, gtr_i, geq_i, eql_i, neq_i, eql_8, neq_8, lss_8, leq_8, gtr_8, geq_8, eql_s, neq_s, eql_b, neq_b, not_b, by_bys, by_nils, load_cp1, beq_true, beq_false, Bool.not_eq_true', decide_eq_true_eq, decide_eq_false_iff_not, decide_true, decide_false,
 Int.toNat_natCast, Int.ofNat_lt, Int.ofNat_le, Int.natCast_inj, Bool.false_eq_true, Bool.true_eq_false, extPV, List.getElem?_cons_zero, List.getElem?_cons_succ, nilckPV, Int.reduceToNat, Int.reduceLE, true_and, and_true, reduceCtorEq, or_false, false_or, or_true, Option.some.injEq, exists_eq_left', Bool.not_true, Bool.not_false, ne_eq, Int.reduceEq, not_true_eq_false, not_false_eq_true, Int.reduceLT, UInt8.reduceLT, UInt8.reduceLE, UInt8.reduceToNat]
          refine fin _ _ hk ?_ rfl rfl
          rw [List.any_eq_true]
          refine ⟨f, hfm, ?_⟩
          unfold longF
          rw [List.any_eq_true, ← hps]
          exact ⟨y, by rw [hy]; simp [List.getD, hqt], by simp [longX, hlo]⟩
        · have e1 : ¬ (998 : Int) < (y.length : Int) := by omega
          obtain ⟨v1, S1, a1, k1, m1⟩ := hk.app8 (y := .str y) (m := y) hm rfl (by simp only [List.length_append, room, crl2] at *; omega)
          obtain ⟨v2, S2, a2, k2, m2⟩ := k1.app8 (y := .str [13, 10]) (m := [13, 10]) m1 rfl (by simp only [List.length_append, List.length_cons, List.length_nil, room, crl2] at *; omega)
          simp (maxSteps := 1000000) (disch := omega) only [h54, h55, h56, h6, hqt, iaddr_s hp, ← hy, load_cp1, len_s, e1, a1, a2, add_n, W_seq, W_region, W_cond, W_block, W_skip, W_label, W_exit, W_goto, W_ret, WO_cons, WO_consG, WO_nil, wantedA_eq, wantB, evOp, ev_tmp, ev_const, ev_fn, WN_some, WN_none, updO_some, updO_none, upd_eq,
 ↓reduceIte, Nat.reduceEqDiff, List.nil_append, List.cons_append, List.append_nil, List.map_cons, List.map_nil, env0_zero, env0_succ, env0_nil, Option.map_some, Option.map_none, seqQ_normal, seqQ_ret, seqQ_exit, seqQ_goto, blockQ_normal, blockQ_ret, blockQ_exit, blockQ_goto, condW_bool, loopQ_ret, loopQ_exit, loopQ_goto, endQ_ret, endQ_normal,
 lss_i, leq_i, gtr_i, geq_i, eql_i, neq_i, eql_8, neq_8, lss_8, leq_8, gtr_8, geq_8, eql_s, neq_s, eql_b, neq_b, not_b, by_bys, by_nils, load_cp1, beq_true, beq_false, Bool.not_eq_true', decide_eq_true_eq, decide_eq_false_iff_not, decide_true, decide_false,
 Int.toNat_natCast, Int.ofNat_lt, Int.ofNat_le, Int.natCast_inj, Bool.false_eq_true, Bool.true_eq_false, extPV, List.getElem?_cons_zero, List.getElem?_cons_succ, nilckPV, Int.reduceToNat, Int.reduceLE, true_and, and_true, reduceCtorEq, or_false, false_or, or_true, Option.some.injEq, exists_eq_left', Bool.not_true, Bool.not_false, ne_eq, Int.reduceEq, not_true_eq_false, not_false_eq_true, Int.reduceLT, UInt8.reduceLT, UInt8.reduceLE, UInt8.reduceToNat]
          refine loopQ_intro (m := ps.length - (q + 1)) (by omega) ?_
          rw [hII]
          refine ⟨q + 1, v2, p, rfl, by omega, k2, ?_, fun j hj => ?_, hp, h54, h55, rfl, rfl, h32, h33, h34⟩
          · rw [take_getD' hqt, ← hy, List.flatMap_append]
            simpa [crl2] using m2
          · by_cases hji : j = q
            · subst hji; rw [← hy]; simp [longX, hlo]
            · exact hlx j (by omega)
      · obtain rfl : q = ps.length := by omega
        rw [List.take_length, ← hsn] at hm
        simp (maxSteps := 1000000) (disch := omega) only [h54, h55, h56, h6, h34, hqt, add_n, W_seq, W_region, W_cond, W_block, W_skip, W_label, W_exit, W_goto, W_ret, WO_cons, WO_consG, WO_nil, wantedA_eq, wantB, evOp, ev_tmp, ev_const, ev_fn, WN_some, WN_none, updO_some, updO_none, upd_eq,
 ↓reduceIte, Nat.reduceEqDiff, List.nil_append, List.cons_append, List.append_nil, List.map_cons, List.map_nil, env0_zero, env0_succ, env0_nil, Option.map_some, Option.map_none, seqQ_normal, seqQ_ret, seqQ_exit, seqQ_goto, blockQ_normal, blockQ_ret, blockQ_exit, blockQ_goto, condW_bool, loopQ_ret, loopQ_exit, loopQ_goto, endQ_ret, endQ_normal,
 lss_i, leq_i, gtr_i, geq_i, eql_i, neq_i, eql_8, neq_8, lss_8, leq_8, gtr_8, geq_8, eql_s, neq_s, eql_b, neq_b, not_b, by_bys, by_nils, load_cp1, beq_true, beq_false, Bool.not_eq_true', decide_eq_true_eq, decide_eq_false_iff_not, decide_true, decide_false,
 Int.toNat_natCast, Int.ofNat_lt, Int.ofNat_le, Int.natCast_inj, Bool.false_eq_true, Bool.true_eq_false, extPV, List.getElem?_cons_zero, List.getElem?_cons_succ, nilckPV, Int.reduceToNat, Int.reduceLE, true_and, and_true, reduceCtorEq, or_false, false_or, or_true, Option.some.injEq, exists_eq_left', Bool.not_true, Bool.not_false, ne_eq, Int.reduceEq, not_true_eq_false, not_false_eq_true, Int.reduceLT, UInt8.reduceLT, UInt8.reduceLE, UInt8.reduceToNat]
        refine loopQ_intro (m := fs.length - (i + 1)) (by omega) ?_
        rw [hI2]
        refine ⟨i + 1, v, rfl, by omega, hk, hm, fun j hj => ?_, h6, h32, h33, rfl⟩
        by_cases hji : j = i
        · subst hji; rw [← hfe]
          unfold longF
          rw [← hps, List.any_eq_false]
          intro y hy
          obtain ⟨z, hz, rfl⟩ := List.mem_iff_getElem.1 hy
          have := hlx z hz
          simpa [List.getD, hz] using this
        · exact hlg j (by omega)
  · obtain rfl : i = fs.length := by omega
    rw [List.take_length] at hm hbl2
    have hnl : fs.any longF = false := by
      rw [List.any_eq_false]
      intro y hy
      obtain ⟨z, hz, rfl⟩ := List.mem_iff_getElem.1 hy
      have := hlg z hz
      simpa [List.getD, hz] using this
    obtain ⟨v1, S1, a1, k1, m1⟩ := hk.app8 (y := .str [13, 10]) (m := [13, 10]) hm rfl (by simp only [List.length_cons, List.length_nil, room]; omega)
    simp (maxSteps := 1000000) (disch := omega) only [h6, h32, h33, h34, hlt, a1, W_seq, W_region, W_cond, W_block, W_skip, W_label, W_exit, W_goto, W_ret, WO_cons, WO_consG, WO_nil, wantedA_eq, wantB, evOp, ev_tmp, ev_const, ev_fn, WN_some, WN_none, updO_some, updO_none, upd_eq,
 ↓reduceIte, Nat.reduceEqDiff, List.nil_append, List.cons_append, List.append_nil, List.map_cons, List.map_nil, env0_zero, env0_succ, env0_nil, Option.map_some, Option.map_none, seqQ_normal, seqQ_ret, seqQ_exit, seqQ_goto, blockQ_normal, blockQ_ret, blockQ_exit, blockQ_goto, condW_bool, loopQ_ret, loopQ_exit, loopQ_goto, endQ_ret, endQ_normal,
 lss_i, leq_i, gtr_i, geq_i, eql_i, neq_i, eql_8, neq_8, lss_8, leq_8, gtr_8, geq_8, eql_s, neq_s, eql_b, neq_b, not_b, by_bys, by_nils, load_cp1, beq_true, beq_false, Bool.not_eq_true', decide_eq_true_eq, decide_eq_false_iff_not, decide_true, decide_false,
 Int.toNat_natCast, Int.ofNat_lt, Int.ofNat_le, Int.natCast_inj, Bool.false_eq_true, Bool.true_eq_false, extPV, List.getElem?_cons_zero, List.getElem?_cons_succ, nilckPV, Int.reduceToNat, Int.reduceLE, true_and, and_true, reduceCtorEq, or_false, false_or, or_true, Option.some.injEq, exists_eq_left', Bool.not_true, Bool.not_false, ne_eq, Int.reduceEq, not_true_eq_false, not_false_eq_true, Int.reduceLT, UInt8.reduceLT, UInt8.reduceLE, UInt8.reduceToNat]
    refine ⟨.tup [v1, .int .i64 0], ?_, ?_⟩
    · have hnt : notTup v1 = true := by rcases m1.1 with ⟨rfl, _⟩ | ⟨i, rfl, _⟩ <;> rfl
      simp [resOf, rvAll, rv1, upd_eq, hnt, packRes]
      rfl
    · rw [show writeOf fs = (0, fs.flatMap fieldBytes ++ [13, 10]) by simp [writeOf, h128, hall, hnl]]
      exact leave_mine k1 m1 (by simp)
end Go.Ab
