/-
  What may be an address; its normal form; an address without a name.
-/
import Derived.Test.YteblngbleioncaaDoorA4
import Derived.Test.YteblngbleioncaaDoorA2
import Derived.Shelf.Bytes.SlIndexWhole
import Derived.Shelf.Bytes.IndexByte
import Derived.Shelf.Strings.Builder1
import Derived.Shelf.Strings.Search2
import Derived.Shelf.Small.Strs
import Derived.Shelf.Strings.Split
import Derived.HandedShaped
import Derived.LaidLaws
import Derived.Lay
namespace Go.Ab
set_option linter.unusedVariables false
set_option linter.unusedSimpArgs false
variable {st s : St} {e : Env}

theorem split_len {sep : UInt8} : ∀ (l acc : Bs), ∀ x ∈ splitOn sep acc l, x.length ≤ acc.length + l.length := by
  intro l
  induction l with
  | nil => intro acc x hx; simp [splitOn] at hx; subst hx; simp
  | cons d r ih =>
    intro acc x hx
    simp only [splitOn] at hx
    split at hx
    · rcases List.mem_cons.1 hx with rfl | hx
      · simp
      · have := ih [] x hx; simp at this ⊢; omega
    · have := ih (acc ++ [d]) x hx; simp at this ⊢; omega
theorem split_num {sep : UInt8} : ∀ (l acc : Bs), (splitOn sep acc l).length ≤ l.length + 1 := by
  intro l
  induction l with
  | nil => intro acc; simp [splitOn]
  | cons d r ih =>
    intro acc
    simp only [splitOn]
    split
    · have := ih []; simp; omega
    · have := ih (acc ++ [d]); simp; omega
theorem Split_spec {l : Bs} {c : UInt8} (hl : l.length ≤ 100000000) : call prog (.fn 133 []) [.str l, .str [c]] st = some (.sl 1 .no ((splitOn c [] l).map .str), st) := by
  rw [call_prim prog_133]
  simp [pStrSplit]
  omega
theorem iaddr_t {x : PV} {xs : List Bs} {k : IntKind} {c : Int} (h : x.vs 1 = some (xs.map .str)) (h1 : 0 ≤ c) (h2 : c.toNat < xs.length) : iaddrPV 1 x (.int k c) = some (.cp [.str (xs.getD c.toNat [])]) := by
  rw [iaddr_vs h h1 (by simpa using h2)]
  simp [List.getD, h2, PV.cells]
theorem all_getD' {p : Bs → Bool} {xs : List Bs} (h : ∀ j, j < xs.length → p (xs.getD j []) = true) : xs.all p = true := by
  rw [List.all_eq_true]
  intro x hx
  obtain ⟨i, hi, rfl⟩ := List.mem_iff_getElem.1 hx
  have := h i hi
  simpa [List.getD, hi] using this
theorem all_bad' {p : Bs → Bool} {xs : List Bs} {j : Nat} (hj : j < xs.length) (h : p (xs.getD j []) = false) : xs.all p = false := by
  rw [List.all_eq_false]
  exact ⟨xs.getD j [], by simp [List.getD, hj], by rw [h]; simp⟩

theorem parts_spec {l : Bs} {c : UInt8} {f : Nat} {p : Bs → Bool} (hl : l.length ≤ 100000000) (hf : ∀ (S : St) (x : Bs), x.length ≤ 100000000 → call prog (.fn f []) [.str x] S = some (.bool (p x), S)) :
    call prog (.fn 124 []) [.str l, .str [c], .fn f []] st = some (.bool (partsB c p l), st) := by
  refine call_of_W prog_124 ?_
  unfold F_addr_parts; dsimp only
  obtain ⟨xs, hxs⟩ : ∃ xs, xs = splitOn c [] l := ⟨_, rfl⟩
  have hsp : ∀ S : St, call prog (.fn 133 []) [.str l, .str [c]] S = some (.sl 1 .no (xs.map .str), S) := fun S => by rw [hxs]; exact Split_spec hl
  have hlen : lenPV false (.sl 1 .no (xs.map .str)) = some (.int .i64 (xs.length : Int)) := by simp [lenPV]
  have hvs : (PV.sl 1 .no (xs.map .str)).vs 1 = some (xs.map .str) := by simp [PV.vs]
  have hp : partsB c p l = xs.all p := by rw [hxs]; rfl
  have hxl : ∀ j, j < xs.length → (xs.getD j []).length ≤ 100000000 := fun j hj => by
    have hm : xs.getD j [] ∈ splitOn c [] l := by rw [← hxs]; simp [List.getD, hj]
    have := split_len l [] _ hm
    simp at this ⊢; omega
  have hnum : xs.length ≤ 100000001 := by
    have := split_num (sep := c) l []
    rw [← hxs] at this; omega
  rw [hp]
  simp (maxSteps := 1000000) (disch := omega) only [hsp, hlen, W_seq, W_region, W_cond, W_block, W_skip, W_label, W_exit, W_goto, W_ret, WO_cons, WO_consG3, guardV_bool, guardT_tt, guardT_ff, guardT_tf, guardT_ft, condW_imp, imp_tt, imp_ff, imp_tf, imp_ft, imp_F, imp_T, implies_true, Decidable.not_not, forall_const, and_self, Bool.not_eq_false', WO_nil, evOp, ev_tmp, ev_const, ev_fn, WN_some, WN_none, updO_some, updO_none, upd_eq,
 ↓reduceIte, Nat.reduceEqDiff, List.nil_append, List.cons_append, List.append_nil, List.map_cons, List.map_nil, env0_zero, env0_succ, env0_nil, Option.map_some, Option.map_none, seqQ_normal, seqQ_ret, seqQ_exit, seqQ_goto, blockQ_normal, blockQ_ret, blockQ_exit, blockQ_goto, loopQ_ret, loopQ_exit, loopQ_goto, endQ_ret, endQ_normal, keep_mk, keep_st,
 lss_i, leq_i, gtr_i, geq_i, eql_i, neq_i, eql_8, neq_8, lss_8, leq_8, gtr_8, geq_8, eql_s, neq_s, eql_b, neq_b, not_b, by_bys, by_nils, load_cp1, beq_true, beq_false, Bool.not_eq_true', decide_eq_true_eq, decide_eq_false_iff_not, decide_true, decide_false,
 Int.toNat_natCast, Int.ofNat_lt, Int.ofNat_le, Int.natCast_inj, Bool.false_eq_true, Bool.true_eq_false, extPV, List.getElem?_cons_zero, List.getElem?_cons_succ, nilckPV, Int.reduceToNat, Int.reduceLE, true_and, and_true, reduceCtorEq, or_false, false_or, or_true, Option.some.injEq, exists_eq_left', Bool.not_true, Bool.not_false, ne_eq, Int.reduceEq, not_true_eq_false, not_false_eq_true, Int.reduceLT, UInt8.reduceLT, UInt8.reduceLE, UInt8.reduceToNat]
  obtain ⟨I, hI⟩ : ∃ I : Nat → Env → St → Prop, I = fun k e s' => ∃ (i : Nat), k = xs.length - i ∧ i ≤ xs.length ∧ Kept st s' ∧ (∀ j, j < i → p (xs.getD j []) = true) ∧ e 2 = .fn f [] ∧ e 11 = .sl 1 .no (xs.map .str) ∧ e 12 = .int .i64 (xs.length : Int) ∧ e 13 = .int .i64 (i : Int) := ⟨_, rfl⟩
  refine W_loop I ?_ (n := xs.length) (by
    rw [hI]
    exact ⟨0, rfl, by omega, Kept.start, fun j h => by omega, rfl, rfl, rfl, rfl⟩)
  intro k e s' hh
  rw [hI] at hh
  obtain ⟨i, rfl, hi, hk, hall, h2, h11, h12, h13⟩ := hh
  by_cases hlt : i < xs.length
  · obtain ⟨x, hx⟩ : ∃ x, x = xs.getD i [] := ⟨_, rfl⟩
    have hfx := fun S : St => hf S x (by rw [hx]; exact hxl i hlt)
    cases hpx : p x with
    | false =>
      rw [hpx] at hfx
      simp (maxSteps := 1000000) (disch := omega) only [h2, h11, h12, h13, hlt, iaddr_t hvs, ← hx, load_cp1, hfx, W_seq, W_region, W_cond, W_block, W_skip, W_label, W_exit, W_goto, W_ret, WO_cons, WO_consG3, guardV_bool, guardT_tt, guardT_ff, guardT_tf, guardT_ft, condW_imp, imp_tt, imp_ff, imp_tf, imp_ft, imp_F, imp_T, implies_true, Decidable.not_not, forall_const, and_self, Bool.not_eq_false', WO_nil, evOp, ev_tmp, ev_const, ev_fn, WN_some, WN_none, updO_some, updO_none, upd_eq,
 ↓reduceIte, Nat.reduceEqDiff, List.nil_append, List.cons_append, List.append_nil, List.map_cons, List.map_nil, env0_zero, env0_succ, env0_nil, Option.map_some, Option.map_none, seqQ_normal, seqQ_ret, seqQ_exit, seqQ_goto, blockQ_normal, blockQ_ret, blockQ_exit, blockQ_goto, loopQ_ret, loopQ_exit, loopQ_goto, endQ_ret, endQ_normal, keep_mk, keep_st,
 lss_i, leq_i, gtr_i, geq_i, eql_i, neq_i, eql_8, neq_8, lss_8, leq_8, gtr_8, geq_8, eql_s, neq_s, eql_b, neq_b, not_b, by_bys, by_nils, load_cp1, beq_true, beq_false, Bool.not_eq_true', decide_eq_true_eq, decide_eq_false_iff_not, decide_true, decide_false,
 Int.toNat_natCast, Int.ofNat_lt, Int.ofNat_le, Int.natCast_inj, Bool.false_eq_true, Bool.true_eq_false, extPV, List.getElem?_cons_zero, List.getElem?_cons_succ, nilckPV, Int.reduceToNat, Int.reduceLE, true_and, and_true, reduceCtorEq, or_false, false_or, or_true, Option.some.injEq, exists_eq_left', Bool.not_true, Bool.not_false, ne_eq, Int.reduceEq, not_true_eq_false, not_false_eq_true, Int.reduceLT, UInt8.reduceLT, UInt8.reduceLE, UInt8.reduceToNat]
      exact retB rfl hk (all_bad' hlt (by rw [← hx]; exact hpx)).symm
    | true =>
      rw [hpx] at hfx
      simp (maxSteps := 1000000) (disch := omega) only [h2, h11, h12, h13, hlt, iaddr_t hvs, ← hx, load_cp1, hfx, add_n, W_seq, W_region, W_cond, W_block, W_skip, W_label, W_exit, W_goto, W_ret, WO_cons, WO_consG3, guardV_bool, guardT_tt, guardT_ff, guardT_tf, guardT_ft, condW_imp, imp_tt, imp_ff, imp_tf, imp_ft, imp_F, imp_T, implies_true, Decidable.not_not, forall_const, and_self, Bool.not_eq_false', WO_nil, evOp, ev_tmp, ev_const, ev_fn, WN_some, WN_none, updO_some, updO_none, upd_eq,
 ↓reduceIte, Nat.reduceEqDiff, List.nil_append, List.cons_append, List.append_nil, List.map_cons, List.map_nil, env0_zero, env0_succ, env0_nil, Option.map_some, Option.map_none, seqQ_normal, seqQ_ret, seqQ_exit, seqQ_goto, blockQ_normal, blockQ_ret, blockQ_exit, blockQ_goto, loopQ_ret, loopQ_exit, loopQ_goto, endQ_ret, endQ_normal, keep_mk, keep_st,
 lss_i, leq_i, gtr_i, geq_i, eql_i, neq_i, eql_8, neq_8, lss_8, leq_8, gtr_8, geq_8, eql_s, neq_s, eql_b, neq_b, not_b, by_bys, by_nils, load_cp1, beq_true, beq_false, Bool.not_eq_true', decide_eq_true_eq, decide_eq_false_iff_not, decide_true, decide_false,
 Int.toNat_natCast, Int.ofNat_lt, Int.ofNat_le, Int.natCast_inj, Bool.false_eq_true, Bool.true_eq_false, extPV, List.getElem?_cons_zero, List.getElem?_cons_succ, nilckPV, Int.reduceToNat, Int.reduceLE, true_and, and_true, reduceCtorEq, or_false, false_or, or_true, Option.some.injEq, exists_eq_left', Bool.not_true, Bool.not_false, ne_eq, Int.reduceEq, not_true_eq_false, not_false_eq_true, Int.reduceLT, UInt8.reduceLT, UInt8.reduceLE, UInt8.reduceToNat]
      refine loopQ_intro (m := xs.length - (i + 1)) (by omega) ?_
      rw [hI]
      refine ⟨i + 1, rfl, by omega, hk, fun j hj => ?_, h2, h11, h12, rfl⟩
      by_cases hji : j = i
      · subst hji; rw [← hx]; exact hpx
      · exact hall j (by omega)
  · obtain rfl : i = xs.length := by omega
    simp (maxSteps := 1000000) (disch := omega) only [h2, h11, h12, h13, hlt, W_seq, W_region, W_cond, W_block, W_skip, W_label, W_exit, W_goto, W_ret, WO_cons, WO_consG3, guardV_bool, guardT_tt, guardT_ff, guardT_tf, guardT_ft, condW_imp, imp_tt, imp_ff, imp_tf, imp_ft, imp_F, imp_T, implies_true, Decidable.not_not, forall_const, and_self, Bool.not_eq_false', WO_nil, evOp, ev_tmp, ev_const, ev_fn, WN_some, WN_none, updO_some, updO_none, upd_eq,
 ↓reduceIte, Nat.reduceEqDiff, List.nil_append, List.cons_append, List.append_nil, List.map_cons, List.map_nil, env0_zero, env0_succ, env0_nil, Option.map_some, Option.map_none, seqQ_normal, seqQ_ret, seqQ_exit, seqQ_goto, blockQ_normal, blockQ_ret, blockQ_exit, blockQ_goto, loopQ_ret, loopQ_exit, loopQ_goto, endQ_ret, endQ_normal, keep_mk, keep_st,
 lss_i, leq_i, gtr_i, geq_i, eql_i, neq_i, eql_8, neq_8, lss_8, leq_8, gtr_8, geq_8, eql_s, neq_s, eql_b, neq_b, not_b, by_bys, by_nils, load_cp1, beq_true, beq_false, Bool.not_eq_true', decide_eq_true_eq, decide_eq_false_iff_not, decide_true, decide_false,
 Int.toNat_natCast, Int.ofNat_lt, Int.ofNat_le, Int.natCast_inj, Bool.false_eq_true, Bool.true_eq_false, extPV, List.getElem?_cons_zero, List.getElem?_cons_succ, nilckPV, Int.reduceToNat, Int.reduceLE, true_and, and_true, reduceCtorEq, or_false, false_or, or_true, Option.some.injEq, exists_eq_left', Bool.not_true, Bool.not_false, ne_eq, Int.reduceEq, not_true_eq_false, not_false_eq_true, Int.reduceLT, UInt8.reduceLT, UInt8.reduceLE, UInt8.reduceToNat]
    exact retB rfl hk (all_getD' hall).symm

theorem atoms_spec {l : Bs} {c : UInt8} (hl : l.length ≤ 100000000) : call prog (.fn 124 []) [.str l, .str [c], .fn 125 []] st = some (.bool (partsB c atomB l), st) :=
  parts_spec hl (fun S x hx => isAtom_spec hx)
theorem labels_spec {l : Bs} {c : UInt8} (hl : l.length ≤ 100000000) : call prog (.fn 124 []) [.str l, .str [c], .fn 126 []] st = some (.bool (partsB c labB l), st) :=
  parts_spec hl (fun S x hx => isLabel_spec hx)

/-! ### Three texts in a box -/
variable {B : List (List PV)} {T : List Bool} {L : List LoopS} {lo : Nat} {a b c : Bs}
abbrev cA (a b c : Bs) : List PV := [.str a, .str b, .str c]
theorem inB_a {m : Nat} : (PV.agg [.str a, .str b, .str c]).inB m = true := rfl
theorem all_a : List.all [PV.str a, .str b, .str c] leafOk = true := rfl
theorem ld_a0 : loadPV ⟨B ++ [cA a b c], T, L, lo⟩ false 1 (.ptr B.length 0) = some (.str a) := by simp [loadPV, readCells]
theorem ld_a1 : loadPV ⟨B ++ [cA a b c], T, L, lo⟩ false 1 (.ptr B.length 1) = some (.str b) := by simp [loadPV, readCells]
theorem ld_a2 : loadPV ⟨B ++ [cA a b c], T, L, lo⟩ false 1 (.ptr B.length 2) = some (.str c) := by simp [loadPV, readCells]
theorem ld_aa : loadPV ⟨B ++ [cA a b c], T, L, lo⟩ true 3 (.ptr B.length 0) = some (.agg (cA a b c)) := by simp [loadPV, readCells]
theorem st_aa {a' b' c' : Bs} : storePV ⟨B ++ [cA a b c], T, L, lo⟩ 3 (.ptr B.length 0) (.agg (cA a' b' c')) = some ⟨B ++ [cA a' b' c'], T, L, lo⟩ := by
  simp [storePV, PV.cells, PV.inB, PV.inB.inBAll, setCells, hasTok, tokOf, leafOk]
theorem cells_agg {cs : List PV} : (PV.agg cs).cells = cs := rfl
theorem Kept.box1 {z : List PV} : Kept st ⟨st.boxes ++ [z], st.toks, st.loops, st.boxes.length⟩ := Kept.start.alloc

structure okA (a : Adr) : Prop where
  n : a.1.length ≤ 100000000
  l : a.2.1.length ≤ 100000000
  d : a.2.2.length ≤ 100000000

theorem Right_spec {a : Adr} (h : okA a) : call prog (.fn 111 []) [aV a] st = some (.bool (rightA a), st) := by
  refine call_of_W prog_111 ?_
  unfold F_addr_Right; dsimp only
  obtain ⟨n, l, d⟩ := a
  have hn := h.n; have hl := h.l; have hd := h.d
  simp only at hn hl hd
  have e64 : ((l.length : Int) ≤ 64) = (l.length ≤ 64) := by apply propext; omega
  have e253 : ((d.length : Int) ≤ 253) = (d.length ≤ 253) := by apply propext; omega
  have hA := fun S : St => atoms_spec (st := S) (c := 46) hl
  have hD := fun S : St => labels_spec (st := S) (c := 46) hd
  have hN := fun S : St => isNm_spec (st := S) hn
  simp (maxSteps := 1000000) (disch := omega) only [aV, inB_a, all_a, allocPV, cells_agg, faP, Nat.zero_add, ld_a0, ld_a1, ld_a2, len_s, e64, e253, hA, hD, hN, W_seq, W_region, W_cond, W_block, W_skip, W_label, W_exit, W_goto, W_ret, WO_cons, WO_consG3, guardV_bool, guardT_tt, guardT_ff, guardT_tf, guardT_ft, condW_imp, imp_tt, imp_ff, imp_tf, imp_ft, imp_F, imp_T, implies_true, Decidable.not_not, forall_const, and_self, Bool.not_eq_false', WO_nil, evOp, ev_tmp, ev_const, ev_fn, WN_some, WN_none, updO_some, updO_none, upd_eq,
 ↓reduceIte, Nat.reduceEqDiff, List.nil_append, List.cons_append, List.append_nil, List.map_cons, List.map_nil, env0_zero, env0_succ, env0_nil, Option.map_some, Option.map_none, seqQ_normal, seqQ_ret, seqQ_exit, seqQ_goto, blockQ_normal, blockQ_ret, blockQ_exit, blockQ_goto, loopQ_ret, loopQ_exit, loopQ_goto, endQ_ret, endQ_normal, keep_mk, keep_st,
 lss_i, leq_i, gtr_i, geq_i, eql_i, neq_i, eql_8, neq_8, lss_8, leq_8, gtr_8, geq_8, eql_s, neq_s, eql_b, neq_b, not_b, by_bys, by_nils, load_cp1, beq_true, beq_false, Bool.not_eq_true', decide_eq_true_eq, decide_eq_false_iff_not, decide_true, decide_false,
 Int.toNat_natCast, Int.ofNat_lt, Int.ofNat_le, Int.natCast_inj, Bool.false_eq_true, Bool.true_eq_false, extPV, List.getElem?_cons_zero, List.getElem?_cons_succ, nilckPV, Int.reduceToNat, Int.reduceLE, true_and, and_true, reduceCtorEq, or_false, false_or, or_true, Option.some.injEq, exists_eq_left', Bool.not_true, Bool.not_false, ne_eq, Int.reduceEq, not_true_eq_false, not_false_eq_true, Int.reduceLT, UInt8.reduceLT, UInt8.reduceLE, UInt8.reduceToNat]
  clear hA hD hN
  repeat' (first | refine And.intro ?_ ?_ | intro q)
  all_goals exact retB rfl Kept.box1 (by simp only [rightA, *, decide_true, decide_false, Bool.and_true, Bool.true_and, Bool.and_false, Bool.false_and, Bool.or_true, Bool.true_or, Bool.or_false, Bool.false_or, Bool.not_true, Bool.not_false, not_true_eq_false, not_false_eq_true])

theorem long_spec {a : Adr} (h1 : a.1.length ≤ 4000000000000000000) (h2 : a.2.1.length ≤ 4000000000000000000) : call prog (.fn 110 []) [aV a] st = some (.bool (decide (1000 < a.1.length + a.2.1.length) || decide (1000 < a.2.2.length)), st) := by
  refine call_of_W prog_110 ?_
  unfold F_posthornlaw07_long; dsimp only
  obtain ⟨n, l, d⟩ := a
  simp only at h1 h2
  have hadd : ∀ ek, binPV .add ek (.int .i64 (n.length : Int)) (.int .i64 (l.length : Int)) = some (.int .i64 ((n.length + l.length : Nat) : Int)) := fun ek => by
    rw [add_i (by omega) (by omega)]; simp
  have e1 : ((1000 : Int) < ((n.length + l.length : Nat) : Int)) = (1000 < n.length + l.length) := by apply propext; omega
  have e2 : ((1000 : Int) < (d.length : Int)) = (1000 < d.length) := by apply propext; omega
  simp (maxSteps := 1000000) (disch := omega) only [aV, inB_a, all_a, allocPV, cells_agg, faP, Nat.zero_add, ld_a0, ld_a1, ld_a2, len_s, hadd, e1, e2, W_seq, W_region, W_cond, W_block, W_skip, W_label, W_exit, W_goto, W_ret, WO_cons, WO_consG3, guardV_bool, guardT_tt, guardT_ff, guardT_tf, guardT_ft, condW_imp, imp_tt, imp_ff, imp_tf, imp_ft, imp_F, imp_T, implies_true, Decidable.not_not, forall_const, and_self, Bool.not_eq_false', WO_nil, evOp, ev_tmp, ev_const, ev_fn, WN_some, WN_none, updO_some, updO_none, upd_eq,
 ↓reduceIte, Nat.reduceEqDiff, List.nil_append, List.cons_append, List.append_nil, List.map_cons, List.map_nil, env0_zero, env0_succ, env0_nil, Option.map_some, Option.map_none, seqQ_normal, seqQ_ret, seqQ_exit, seqQ_goto, blockQ_normal, blockQ_ret, blockQ_exit, blockQ_goto, loopQ_ret, loopQ_exit, loopQ_goto, endQ_ret, endQ_normal, keep_mk, keep_st,
 lss_i, leq_i, gtr_i, geq_i, eql_i, neq_i, eql_8, neq_8, lss_8, leq_8, gtr_8, geq_8, eql_s, neq_s, eql_b, neq_b, not_b, by_bys, by_nils, load_cp1, beq_true, beq_false, Bool.not_eq_true', decide_eq_true_eq, decide_eq_false_iff_not, decide_true, decide_false,
 Int.toNat_natCast, Int.ofNat_lt, Int.ofNat_le, Int.natCast_inj, Bool.false_eq_true, Bool.true_eq_false, extPV, List.getElem?_cons_zero, List.getElem?_cons_succ, nilckPV, Int.reduceToNat, Int.reduceLE, true_and, and_true, reduceCtorEq, or_false, false_or, or_true, Option.some.injEq, exists_eq_left', Bool.not_true, Bool.not_false, ne_eq, Int.reduceEq, not_true_eq_false, not_false_eq_true, Int.reduceLT, UInt8.reduceLT, UInt8.reduceLE, UInt8.reduceToNat]
  repeat' (first | refine And.intro ?_ ?_ | intro q)
  all_goals exact retB rfl Kept.box1 (by simp only [*, decide_true, decide_false, Bool.and_true, Bool.true_and, Bool.and_false, Bool.false_and, Bool.or_true, Bool.true_or, Bool.or_false, Bool.false_or, Bool.not_true, Bool.not_false, not_true_eq_false, not_false_eq_true])

/-! ### The normal form -/
/-- Bytes of one's own behind another box. -/
def bst2 (st : St) (z : List PV) (l : Bs) : St := ⟨(st.boxes ++ [z]) ++ [l.map PV.b8], st.toks, st.loops, st.boxes.length⟩
theorem load_bst2 {z : List PV} {l : Bs} {i : Nat} (h : i < l.length) : loadPV (bst2 st z l) false 1 (.ptr (st.boxes.length + 1) i) = some (.b8 (l.getD i 0)) := by
  have hg : (st.boxes ++ [z] ++ [l.map PV.b8])[st.boxes.length + 1]? = some (l.map PV.b8) := by
    rw [List.getElem?_append_right (by simp)]; simp
  simp only [loadPV, bst2, hg]
  rw [← List.map_drop, drop_getD h]; rfl
theorem store_bst2 {z : List PV} {l : Bs} {i : Nat} {c : UInt8} (h : i < l.length) : storePV (bst2 st z l) 1 (.ptr (st.boxes.length + 1) i) (.b8 c) = some (bst2 st z (l.set i c)) := by
  have hg : (st.boxes ++ [z] ++ [l.map PV.b8])[st.boxes.length + 1]? = some (l.map PV.b8) := by
    rw [List.getElem?_append_right (by simp)]; simp
  have hs : ∀ y, (st.boxes ++ [z] ++ [l.map PV.b8]).set (st.boxes.length + 1) y = st.boxes ++ [z] ++ [y] := fun y => by
    rw [List.set_append_right _ _ (by simp)]; simp
  have h2 : i + 1 ≤ l.length := by omega
  simp only [storePV, bst2, hg, PV.cells]
  simp [h2, PV.inB, leafOk, setCells, hasTok, tokOf, List.map_set]
theorem b2s_bst2 {z : List PV} {l : Bs} {n : Nat} (h : n = l.length) : b2s true (bst2 st z l) (.ms (st.boxes.length + 1) 0 n) = some l := by
  subst h
  have hg : (st.boxes ++ [z] ++ [l.map PV.b8])[st.boxes.length + 1]? = some (l.map PV.b8) := by
    rw [List.getElem?_append_right (by simp)]; simp
  simp only [b2s, if_true, src8, bst2, hg]
  rw [if_pos (by simp), List.drop_zero, List.take_of_length_le (by simp), bytesOf_map]
theorem Kept.bst2 {z : List PV} {l : Bs} : Kept st (bst2 st z l) := by
  have := (Kept.box1 (st := st) (z := z)).alloc (z := l.map PV.b8)
  exact this

set_option maxHeartbeats 1000000 in
theorem Normal_spec {a : Adr} (h : okA a) : call prog (.fn 113 []) [aV a] st = some (.str (normalA a), st) := by
  refine call_of_W prog_113 ?_
  unfold F_addr_Normal; dsimp only
  obtain ⟨n, l, d⟩ := a
  have hn := h.n; have hl := h.l; have hd := h.d
  simp only at hn hl hd
  have hR := fun S : St => Right_spec (st := S) h
  simp only [aV] at hR
  cases hr : rightA (n, l, d) with
  | false =>
    rw [hr] at hR
    simp (maxSteps := 1000000) (disch := omega) only [aV, inB_a, all_a, allocPV, cells_agg, ld_aa, hR, W_seq, W_region, W_cond, W_block, W_skip, W_label, W_exit, W_goto, W_ret, WO_cons, WO_consG3, guardV_bool, guardT_tt, guardT_ff, guardT_tf, guardT_ft, condW_imp, imp_tt, imp_ff, imp_tf, imp_ft, imp_F, imp_T, implies_true, Decidable.not_not, forall_const, and_self, Bool.not_eq_false', WO_nil, evOp, ev_tmp, ev_const, ev_fn, WN_some, WN_none, updO_some, updO_none, upd_eq,
 ↓reduceIte, Nat.reduceEqDiff, List.nil_append, List.cons_append, List.append_nil, List.map_cons, List.map_nil, env0_zero, env0_succ, env0_nil, Option.map_some, Option.map_none, seqQ_normal, seqQ_ret, seqQ_exit, seqQ_goto, blockQ_normal, blockQ_ret, blockQ_exit, blockQ_goto, loopQ_ret, loopQ_exit, loopQ_goto, endQ_ret, endQ_normal, keep_mk, keep_st,
 lss_i, leq_i, gtr_i, geq_i, eql_i, neq_i, eql_8, neq_8, lss_8, leq_8, gtr_8, geq_8, eql_s, neq_s, eql_b, neq_b, not_b, by_bys, by_nils, load_cp1, beq_true, beq_false, Bool.not_eq_true', decide_eq_true_eq, decide_eq_false_iff_not, decide_true, decide_false,
 Int.toNat_natCast, Int.ofNat_lt, Int.ofNat_le, Int.natCast_inj, Bool.false_eq_true, Bool.true_eq_false, extPV, List.getElem?_cons_zero, List.getElem?_cons_succ, nilckPV, Int.reduceToNat, Int.reduceLE, true_and, and_true, reduceCtorEq, or_false, false_or, or_true, Option.some.injEq, exists_eq_left', Bool.not_true, Bool.not_false, ne_eq, Int.reduceEq, not_true_eq_false, not_false_eq_true, Int.reduceLT, UInt8.reduceLT, UInt8.reduceLE, UInt8.reduceToNat]
    exact retS rfl Kept.box1 (by simp [normalA, hr])
  | true =>
    rw [hr] at hR
    obtain ⟨s, hs⟩ : ∃ s, s = l ++ [64] ++ d := ⟨_, rfl⟩
    have hsl : s.length = l.length + 1 + d.length := by rw [hs]; simp <;> omega
    have ha1 : ∀ ek, binPV .add ek (.str l) (.str [64]) = some (.str (l ++ [64])) := fun ek => adds (by simp; omega)
    have ha2 : ∀ ek, binPV .add ek (.str (l ++ [64])) (.str d) = some (.str s) := fun ek => by rw [hs]; exact adds (by simp; omega)
    have hbl : (st.boxes ++ [cA n l d]).length = st.boxes.length + 1 := by simp
    have hbb : ({ boxes := st.boxes ++ [cA n l d] ++ [s.map PV.b8], toks := st.toks, loops := st.loops, low := st.boxes.length } : St) = bst2 st (cA n l d) s := rfl
    simp (maxSteps := 1000000) (disch := omega) only [aV, inB_a, all_a, allocPV, cells_agg, ld_aa, hR, faP, Nat.zero_add, ld_a1, ld_a2, ha1, ha2, hbl, hbb, len_ms, W_seq, W_region, W_cond, W_block, W_skip, W_label, W_exit, W_goto, W_ret, WO_cons, WO_consG3, guardV_bool, guardT_tt, guardT_ff, guardT_tf, guardT_ft, condW_imp, imp_tt, imp_ff, imp_tf, imp_ft, imp_F, imp_T, implies_true, Decidable.not_not, forall_const, and_self, Bool.not_eq_false', WO_nil, evOp, ev_tmp, ev_const, ev_fn, WN_some, WN_none, updO_some, updO_none, upd_eq,
 ↓reduceIte, Nat.reduceEqDiff, List.nil_append, List.cons_append, List.append_nil, List.map_cons, List.map_nil, env0_zero, env0_succ, env0_nil, Option.map_some, Option.map_none, seqQ_normal, seqQ_ret, seqQ_exit, seqQ_goto, blockQ_normal, blockQ_ret, blockQ_exit, blockQ_goto, loopQ_ret, loopQ_exit, loopQ_goto, endQ_ret, endQ_normal, keep_mk, keep_st,
 lss_i, leq_i, gtr_i, geq_i, eql_i, neq_i, eql_8, neq_8, lss_8, leq_8, gtr_8, geq_8, eql_s, neq_s, eql_b, neq_b, not_b, by_bys, by_nils, load_cp1, beq_true, beq_false, Bool.not_eq_true', decide_eq_true_eq, decide_eq_false_iff_not, decide_true, decide_false,
 Int.toNat_natCast, Int.ofNat_lt, Int.ofNat_le, Int.natCast_inj, Bool.false_eq_true, Bool.true_eq_false, extPV, List.getElem?_cons_zero, List.getElem?_cons_succ, nilckPV, Int.reduceToNat, Int.reduceLE, true_and, and_true, reduceCtorEq, or_false, false_or, or_true, Option.some.injEq, exists_eq_left', Bool.not_true, Bool.not_false, ne_eq, Int.reduceEq, not_true_eq_false, not_false_eq_true, Int.reduceLT, UInt8.reduceLT, UInt8.reduceLE, UInt8.reduceToNat]
    obtain ⟨I, hI⟩ : ∃ I : Nat → Env → St → Prop, I = fun n' e s' => ∃ (i : Nat) (m : Bs), n' = s.length - i ∧ i ≤ s.length ∧ m = lowOf (s.take i) ++ s.drop i ∧ s' = bst2 st (cA n l d) m ∧ e 3 = .ms (st.boxes.length + 1) 0 s.length ∧ e 16 = .ms (st.boxes.length + 1) 0 s.length ∧ e 17 = .int .i64 (s.length : Int) ∧ e 18 = .int .i64 (i : Int) := ⟨_, rfl⟩
    refine W_loop I ?_ (n := s.length) (by
      rw [hI]
      exact ⟨0, s, rfl, by omega, by simp [lowOf], rfl, rfl, rfl, rfl, rfl⟩)
    intro n' e s' hh
    rw [hI] at hh
    obtain ⟨i, m, rfl, hi, hm, rfl, h3, h16, h17, h18⟩ := hh
    have hml : m.length = s.length := by rw [hm]; simp [lowOf]; omega
    by_cases hlt : i < s.length
    · obtain ⟨c, hc⟩ : ∃ c, c = s.getD i 0 := ⟨_, rfl⟩
      have hlc : m.getD i 0 = c := by
        rw [hm, hc]
        simp only [List.getD]
        rw [List.getElem?_append_right (by simp [lowOf]; omega)]
        simp [lowOf, Nat.min_eq_left hi]
      have hnext : ∀ (E : Env) (m' : Bs), m' = m.set i (lowC c) → E 3 = .ms (st.boxes.length + 1) 0 s.length → E 16 = .ms (st.boxes.length + 1) 0 s.length → E 17 = .int .i64 (s.length : Int) → E 18 = .int .i64 ((i + 1 : Nat) : Int) → ∃ k, k < s.length - i ∧ I k E (bst2 st (cA n l d) m') := by
        intro E m' k0 k1 k2 k3 k4
        refine ⟨s.length - (i + 1), by omega, ?_⟩
        rw [hI]
        refine ⟨i + 1, m', rfl, by omega, ?_, rfl, k1, k2, k3, k4⟩
        rw [k0, hm, take_getD hlt, ← hc, drop_getD hlt]
        have hn : (lowOf (s.take i)).length = i := by simp [lowOf]; omega
        rw [List.set_append_right _ _ (by omega), hn]
        simp [lowOf]
      have hsm : m.set i c = m := by
        rw [← hlc, List.getD, List.getElem?_eq_getElem (by omega)]; simp
      simp (maxSteps := 1000000) (disch := omega) only [h3, h16, h17, h18, hlt, iaddr_ms, load_bst2 (st := st) (l := m) (i := i) (by omega), hlc, add_8, store_bst2 (st := st) (l := m) (i := i) (by omega), add_n, loopQ_normal, W_seq, W_region, W_cond, W_block, W_skip, W_label, W_exit, W_goto, W_ret, WO_cons, WO_consG3, guardV_bool, guardT_tt, guardT_ff, guardT_tf, guardT_ft, condW_imp, imp_tt, imp_ff, imp_tf, imp_ft, imp_F, imp_T, implies_true, Decidable.not_not, forall_const, and_self, Bool.not_eq_false', WO_nil, evOp, ev_tmp, ev_const, ev_fn, WN_some, WN_none, updO_some, updO_none, upd_eq,
 ↓reduceIte, Nat.reduceEqDiff, List.nil_append, List.cons_append, List.append_nil, List.map_cons, List.map_nil, env0_zero, env0_succ, env0_nil, Option.map_some, Option.map_none, seqQ_normal, seqQ_ret, seqQ_exit, seqQ_goto, blockQ_normal, blockQ_ret, blockQ_exit, blockQ_goto, loopQ_ret, loopQ_exit, loopQ_goto, endQ_ret, endQ_normal, keep_mk, keep_st,
 lss_i, leq_i, gtr_i, geq_i, eql_i, neq_i, eql_8, neq_8, lss_8, leq_8, gtr_8, geq_8, eql_s, neq_s, eql_b, neq_b, not_b, by_bys, by_nils, load_cp1, beq_true, beq_false, Bool.not_eq_true', decide_eq_true_eq, decide_eq_false_iff_not, decide_true, decide_false,
 Int.toNat_natCast, Int.ofNat_lt, Int.ofNat_le, Int.natCast_inj, Bool.false_eq_true, Bool.true_eq_false, extPV, List.getElem?_cons_zero, List.getElem?_cons_succ, nilckPV, Int.reduceToNat, Int.reduceLE, true_and, and_true, reduceCtorEq, or_false, false_or, or_true, Option.some.injEq, exists_eq_left', Bool.not_true, Bool.not_false, ne_eq, Int.reduceEq, not_true_eq_false, not_false_eq_true, Int.reduceLT, UInt8.reduceLT, UInt8.reduceLE, UInt8.reduceToNat]
      clear hI hm hlc hc
      refine ⟨fun q1 => ⟨fun q2 => ?_, fun q2 => ?_⟩, fun q1 => ?_⟩
      · exact hnext _ (m.set i (c + 32)) (by rw [lowC, if_pos ⟨q1, q2⟩]) h3 h16 h17 rfl
      · exact hnext _ m (by rw [lowC, if_neg (fun h => q2 h.2), hsm]) h3 h16 h17 rfl
      · exact hnext _ m (by rw [lowC, if_neg (fun h => q1 h.1), hsm]) h3 h16 h17 rfl
    · obtain rfl : i = s.length := by omega
      have hml2 : s.length = m.length := hml.symm
      simp (maxSteps := 1000000) (disch := omega) only [h3, h16, h17, h18, hlt, b2s_bst2 (st := st) (l := m) hml2, W_seq, W_region, W_cond, W_block, W_skip, W_label, W_exit, W_goto, W_ret, WO_cons, WO_consG3, guardV_bool, guardT_tt, guardT_ff, guardT_tf, guardT_ft, condW_imp, imp_tt, imp_ff, imp_tf, imp_ft, imp_F, imp_T, implies_true, Decidable.not_not, forall_const, and_self, Bool.not_eq_false', WO_nil, evOp, ev_tmp, ev_const, ev_fn, WN_some, WN_none, updO_some, updO_none, upd_eq,
 ↓reduceIte, Nat.reduceEqDiff, List.nil_append, List.cons_append, List.append_nil, List.map_cons, List.map_nil, env0_zero, env0_succ, env0_nil, Option.map_some, Option.map_none, seqQ_normal, seqQ_ret, seqQ_exit, seqQ_goto, blockQ_normal, blockQ_ret, blockQ_exit, blockQ_goto, loopQ_ret, loopQ_exit, loopQ_goto, endQ_ret, endQ_normal, keep_mk, keep_st,
 lss_i, leq_i, gtr_i, geq_i, eql_i, neq_i, eql_8, neq_8, lss_8, leq_8, gtr_8, geq_8, eql_s, neq_s, eql_b, neq_b, not_b, by_bys, by_nils, load_cp1, beq_true, beq_false, Bool.not_eq_true', decide_eq_true_eq, decide_eq_false_iff_not, decide_true, decide_false,
 Int.toNat_natCast, Int.ofNat_lt, Int.ofNat_le, Int.natCast_inj, Bool.false_eq_true, Bool.true_eq_false, extPV, List.getElem?_cons_zero, List.getElem?_cons_succ, nilckPV, Int.reduceToNat, Int.reduceLE, true_and, and_true, reduceCtorEq, or_false, false_or, or_true, Option.some.injEq, exists_eq_left', Bool.not_true, Bool.not_false, ne_eq, Int.reduceEq, not_true_eq_false, not_false_eq_true, Int.reduceLT, UInt8.reduceLT, UInt8.reduceLE, UInt8.reduceToNat]
      refine retS rfl Kept.bst2 ?_
      rw [hm, List.take_length, List.drop_length, List.append_nil, hs]
      simp [normalA, hr, atA]

theorem Plain_spec {s : Bs} (h : s.length ≤ 100000000) : call prog (.fn 115 []) [.str s] st = some (.tup [aV (plainA s).1, .int .i64 (plainA s).2], st) := by
  refine call_of_W prog_115 ?_
  unfold F_addr_Plain; dsimp only
  have hcut : ∀ S : St, call prog (.fn 128 []) [.str s, .str [64]] S = some (cutAt s [64], S) := fun S => Cut_spec (by omega) (by simp)
  obtain ⟨a, ha⟩ : ∃ a, a = cutA s := ⟨_, rfl⟩
  obtain ⟨t, hct⟩ : ∃ t, cutAt s [64] = .tup [.str a.2.1, .str a.2.2, .bool t] := by
    rw [ha]
    unfold cutAt cutA
    split
    · exact ⟨true, rfl⟩
    · exact ⟨false, rfl⟩
  have ha1 : a.1 = [] := by rw [ha]; unfold cutA; split <;> rfl
  have hok : okA a := by
    rw [ha]
    unfold cutA
    split
    · exact ⟨by simp, by simp; omega, by simp; omega⟩
    · exact ⟨by simp, h, by simp⟩
  rw [hct] at hcut
  obtain ⟨n, l, d⟩ := a
  simp only at ha1 hcut
  subst ha1
  have hR := fun S : St => Right_spec (st := S) hok
  simp only [aV] at hR
  have hbuild : buildCells [.str [], .str [], .str []] [(1, 1, .str l), (2, 1, .str d)] = some (cA [] l d) := rfl
  have hb0 : buildCells [.str [], .str [], .str []] [] = some (cA [] [] []) := rfl
  have hlen1 : (st.boxes ++ [cA [] [] []]).length = st.boxes.length + 1 := by simp
  have hs2 : ∀ T L lo, storePV ⟨st.boxes ++ [cA [] [] []] ++ [cA [] [] []], T, L, lo⟩ 3 (.ptr (st.boxes.length + 1) 0) (.agg (cA [] l d)) = some ⟨st.boxes ++ [cA [] [] []] ++ [cA [] l d], T, L, lo⟩ := fun T L lo => by
    have := st_aa (B := st.boxes ++ [cA [] [] []]) (T := T) (L := L) (lo := lo) (a := []) (b := []) (c := []) (a' := []) (b' := l) (c' := d)
    rw [hlen1] at this; exact this
  have hl2 : ∀ x T L lo, loadPV ⟨st.boxes ++ [x] ++ [cA [] l d], T, L, lo⟩ true 3 (.ptr (st.boxes.length + 1) 0) = some (.agg (cA [] l d)) := fun x T L lo => by
    have := ld_aa (B := st.boxes ++ [x]) (T := T) (L := L) (lo := lo) (a := []) (b := l) (c := d)
    simpa using this
  have hs0 : ∀ (x y z : Bs) (w : List PV) T L lo, storePV ⟨st.boxes ++ [cA [] [] []] ++ [w], T, L, lo⟩ 3 (.ptr st.boxes.length 0) (.agg (cA x y z)) = some ⟨st.boxes ++ [cA x y z] ++ [w], T, L, lo⟩ := fun x y z w T L lo => by
    simp [storePV, PV.cells, PV.inB, PV.inB.inBAll, setCells, hasTok, tokOf, leafOk]
  have fin : ∀ (E : Env) (x y z : Bs) (w : List PV) (c : Int), E 2 = .ptr st.boxes.length 0 → E 3 = .int .i64 c → plainA s = ((x, y, z), c) →
      ∃ rv, resOf E ⟨st.boxes ++ [cA x y z] ++ [w], st.toks, st.loops, st.boxes.length⟩ [.cell 2 true 3, .tmp 3] = some rv ∧ leave st ⟨st.boxes ++ [cA x y z] ++ [w], st.toks, st.loops, st.boxes.length⟩ rv = (.tup [aV (plainA s).1, .int .i64 (plainA s).2], st) := by
    intro E x y z w c k2 k3 hp
    have hk : Kept st ⟨st.boxes ++ [cA x y z] ++ [w], st.toks, st.loops, st.boxes.length⟩ := (Kept.box1 (st := st) (z := cA x y z)).alloc
    refine ⟨.tup [.agg (cA x y z), .int .i64 c], ?_, ?_⟩
    · simp [resOf, rvAll, rv1, k2, k3, loadPV, readCells, notTup, packRes]
    · rw [hp]; exact hk.leave rfl (fun _ _ => rfl)
  cases hr : rightA ([], l, d) with
  | true =>
    rw [hr] at hR
    simp (maxSteps := 1000000) (disch := omega) only [allocPV, hcut, hbuild, hlen1, hs2, hl2, hR, hs0, W_seq, W_region, W_cond, W_block, W_skip, W_label, W_exit, W_goto, W_ret, WO_cons, WO_consG3, guardV_bool, guardT_tt, guardT_ff, guardT_tf, guardT_ft, condW_imp, imp_tt, imp_ff, imp_tf, imp_ft, imp_F, imp_T, implies_true, Decidable.not_not, forall_const, and_self, Bool.not_eq_false', WO_nil, evOp, ev_tmp, ev_const, ev_fn, WN_some, WN_none, updO_some, updO_none, upd_eq,
 ↓reduceIte, Nat.reduceEqDiff, List.nil_append, List.cons_append, List.append_nil, List.map_cons, List.map_nil, env0_zero, env0_succ, env0_nil, Option.map_some, Option.map_none, seqQ_normal, seqQ_ret, seqQ_exit, seqQ_goto, blockQ_normal, blockQ_ret, blockQ_exit, blockQ_goto, loopQ_ret, loopQ_exit, loopQ_goto, endQ_ret, endQ_normal, keep_mk, keep_st,
 lss_i, leq_i, gtr_i, geq_i, eql_i, neq_i, eql_8, neq_8, lss_8, leq_8, gtr_8, geq_8, eql_s, neq_s, eql_b, neq_b, not_b, by_bys, by_nils, load_cp1, beq_true, beq_false, Bool.not_eq_true', decide_eq_true_eq, decide_eq_false_iff_not, decide_true, decide_false,
 Int.toNat_natCast, Int.ofNat_lt, Int.ofNat_le, Int.natCast_inj, Bool.false_eq_true, Bool.true_eq_false, extPV, List.getElem?_cons_zero, List.getElem?_cons_succ, nilckPV, Int.reduceToNat, Int.reduceLE, true_and, and_true, reduceCtorEq, or_false, false_or, or_true, Option.some.injEq, exists_eq_left', Bool.not_true, Bool.not_false, ne_eq, Int.reduceEq, not_true_eq_false, not_false_eq_true, Int.reduceLT, UInt8.reduceLT, UInt8.reduceLE, UInt8.reduceToNat]
    exact fin _ [] l d _ 0 rfl rfl (by simp [plainA, ← ha, hr])
  | false =>
    rw [hr] at hR
    simp (maxSteps := 1000000) (disch := omega) only [allocPV, hcut, hbuild, hb0, hlen1, hs2, hl2, hR, hs0, W_seq, W_region, W_cond, W_block, W_skip, W_label, W_exit, W_goto, W_ret, WO_cons, WO_consG3, guardV_bool, guardT_tt, guardT_ff, guardT_tf, guardT_ft, condW_imp, imp_tt, imp_ff, imp_tf, imp_ft, imp_F, imp_T, implies_true, Decidable.not_not, forall_const, and_self, Bool.not_eq_false', WO_nil, evOp, ev_tmp, ev_const, ev_fn, WN_some, WN_none, updO_some, updO_none, upd_eq,
 ↓reduceIte, Nat.reduceEqDiff, List.nil_append, List.cons_append, List.append_nil, List.map_cons, List.map_nil, env0_zero, env0_succ, env0_nil, Option.map_some, Option.map_none, seqQ_normal, seqQ_ret, seqQ_exit, seqQ_goto, blockQ_normal, blockQ_ret, blockQ_exit, blockQ_goto, loopQ_ret, loopQ_exit, loopQ_goto, endQ_ret, endQ_normal, keep_mk, keep_st,
 lss_i, leq_i, gtr_i, geq_i, eql_i, neq_i, eql_8, neq_8, lss_8, leq_8, gtr_8, geq_8, eql_s, neq_s, eql_b, neq_b, not_b, by_bys, by_nils, load_cp1, beq_true, beq_false, Bool.not_eq_true', decide_eq_true_eq, decide_eq_false_iff_not, decide_true, decide_false,
 Int.toNat_natCast, Int.ofNat_lt, Int.ofNat_le, Int.natCast_inj, Bool.false_eq_true, Bool.true_eq_false, extPV, List.getElem?_cons_zero, List.getElem?_cons_succ, nilckPV, Int.reduceToNat, Int.reduceLE, true_and, and_true, reduceCtorEq, or_false, false_or, or_true, Option.some.injEq, exists_eq_left', Bool.not_true, Bool.not_false, ne_eq, Int.reduceEq, not_true_eq_false, not_false_eq_true, Int.reduceLT, UInt8.reduceLT, UInt8.reduceLE, UInt8.reduceToNat]
    exact fin _ [] [] [] _ 60 rfl rfl (by simp [plainA, ← ha, hr, noA])
end Go.Ab

/-
  Layer 20: what must come of fixed calls; weekdays.
-/
namespace Go.Ab
set_option linter.unusedVariables false
set_option linter.unusedSimpArgs false
set_option maxRecDepth 20000
variable {st s : St} {e : Env}

theorem al20_0 : evV prog 400 (.fn 260 []) [] ⟨[], [], [], 0⟩ = some (.bool true, ⟨[], [], [], 0⟩) := by kernel_rfl

theorem retV2 {a b : Nat} {v w : PV} (ha : e a = v) (hb : e b = w) (h1 : notTup v = true) (h2 : notTup w = true) (hk : Kept st s) (hf : Flat (.tup [v, w])) : ∃ rv, resOf e s [.tmp a, .tmp b] = some rv ∧ leave st s rv = (.tup [v, w], st) :=
  ⟨.tup [v, w], by simp [resOf, rvAll, rv1, ha, hb, h1, h2, packRes], hk.leave' hf⟩
theorem retII {a b : Nat} {k l : IntKind} {t u : Int} {n m : Int} (ha : e a = .int k t) (hb : e b = .int l n) (hk : Kept st s) (h1 : t = u) (h2 : n = m) : ∃ rv, resOf e s [.tmp a, .tmp b] = some rv ∧ leave st s rv = (.tup [.int k u, .int l m], st) := by
  subst h1 h2; exact retV2 ha hb rfl rfl hk ⟨fun _ => rfl, fun _ _ => rfl⟩
theorem retTI {a b : Nat} {t u : Bs} {n m : Int} (ha : e a = .str t) (hb : e b = .int .i64 n) (hk : Kept st s) (h1 : t = u) (h2 : n = m) : ∃ rv, resOf e s [.tmp a, .tmp b] = some rv ∧ leave st s rv = (.tup [.str u, .int .i64 m], st) := by
  subst h1 h2; exact retV2 ha hb rfl rfl hk ⟨fun _ => rfl, fun _ _ => rfl⟩

/-- A day's weekday. -/
def wkOf (d : Int) : Int × Int := if d < 0 ∨ 2932896 < d then (0, 110) else ((d + 3) % 7, 0)
theorem rem_i {k : IntKind} {ek : EK} {a : Int} {c : Int} (h : c ≠ 0) : binPV .rem ek (.int k a) (.int k c) = some (.int k (a.tmod c)) := by simp [binPV, binI, h]
theorem quo_i {ek : EK} {a : Int} {c : Int} (h : 0 < c) (h1 : -9223372036854775808 < a) (h2 : a < 9223372036854775808) : binPV .quo ek (.int .i64 a) (.int .i64 c) = some (.int .i64 (a.tdiv c)) := by
  have h3 : c ≠ 0 := by omega
  simp only [binPV, binI, reduceIte, h3, Option.some.injEq]
  have : (a.tdiv c).natAbs ≤ a.natAbs := by rw [Int.natAbs_tdiv]; exact Nat.div_le_self _ _
  rw [wrap64 (by omega) (by omega)]

theorem Weekday_spec {d : Int} : call prog (.fn 258 []) [.int .i64 d] st = some (.tup [.int .i64 (wkOf d).1, .int .i64 (wkOf d).2], st) := by
  refine call_of_W prog_258 ?_
  unfold F_date_Weekday; dsimp only
  by_cases h : d < 0 ∨ 2932896 < d
  · have e1 : wkOf d = (0, 110) := by simp [wkOf, h]
    rw [e1]
    by_cases h1 : d < 0
    · simp (maxSteps := 1000000) (disch := omega) only [h1, W_seq, W_region, W_cond, W_block, W_skip, W_label, W_exit, W_goto, W_ret, WO_cons, WO_consG, WO_nil, wantedA_eq, wantB, evOp, ev_tmp, ev_const, ev_fn, WN_some, WN_none, updO_some, updO_none, upd_eq,
 ↓reduceIte, Nat.reduceEqDiff, List.nil_append, List.cons_append, List.append_nil, List.map_cons, List.map_nil, env0_zero, env0_succ, env0_nil, Option.map_some, Option.map_none, seqQ_normal, seqQ_ret, seqQ_exit, seqQ_goto, blockQ_normal, blockQ_ret, blockQ_exit, blockQ_goto, condW_bool, loopQ_ret, loopQ_exit, loopQ_goto, endQ_ret, endQ_normal, keep_mk, keep_st,
 lss_i, leq_i, gtr_i, geq_i, eql_i, neq_i, eql_8, neq_8, lss_8, leq_8, gtr_8, geq_8, eql_s, neq_s, eql_b, neq_b, not_b, by_bys, by_nils, load_cp1, beq_true, beq_false, Bool.not_eq_true', decide_eq_true_eq, decide_eq_false_iff_not, decide_true, decide_false,
 Int.toNat_natCast, Int.ofNat_lt, Int.ofNat_le, Int.natCast_inj, Bool.false_eq_true, Bool.true_eq_false, extPV, List.getElem?_cons_zero, List.getElem?_cons_succ, nilckPV, Int.reduceToNat, Int.reduceLE, true_and, and_true, reduceCtorEq, or_false, false_or, or_true, Option.some.injEq, exists_eq_left', Bool.not_true, Bool.not_false, ne_eq, Int.reduceEq, not_true_eq_false, not_false_eq_true, Int.reduceLT, UInt8.reduceLT, UInt8.reduceLE, UInt8.reduceToNat]
      exact retII rfl rfl Kept.start rfl rfl
    · have h2 : 2932896 < d := by omega
      simp (maxSteps := 1000000) (disch := omega) only [h1, h2, W_seq, W_region, W_cond, W_block, W_skip, W_label, W_exit, W_goto, W_ret, WO_cons, WO_consG, WO_nil, wantedA_eq, wantB, evOp, ev_tmp, ev_const, ev_fn, WN_some, WN_none, updO_some, updO_none, upd_eq,
 ↓reduceIte, Nat.reduceEqDiff, List.nil_append, List.cons_append, List.append_nil, List.map_cons, List.map_nil, env0_zero, env0_succ, env0_nil, Option.map_some, Option.map_none, seqQ_normal, seqQ_ret, seqQ_exit, seqQ_goto, blockQ_normal, blockQ_ret, blockQ_exit, blockQ_goto, condW_bool, loopQ_ret, loopQ_exit, loopQ_goto, endQ_ret, endQ_normal, keep_mk, keep_st,
 lss_i, leq_i, gtr_i, geq_i, eql_i, neq_i, eql_8, neq_8, lss_8, leq_8, gtr_8, geq_8, eql_s, neq_s, eql_b, neq_b, not_b, by_bys, by_nils, load_cp1, beq_true, beq_false, Bool.not_eq_true', decide_eq_true_eq, decide_eq_false_iff_not, decide_true, decide_false,
 Int.toNat_natCast, Int.ofNat_lt, Int.ofNat_le, Int.natCast_inj, Bool.false_eq_true, Bool.true_eq_false, extPV, List.getElem?_cons_zero, List.getElem?_cons_succ, nilckPV, Int.reduceToNat, Int.reduceLE, true_and, and_true, reduceCtorEq, or_false, false_or, or_true, Option.some.injEq, exists_eq_left', Bool.not_true, Bool.not_false, ne_eq, Int.reduceEq, not_true_eq_false, not_false_eq_true, Int.reduceLT, UInt8.reduceLT, UInt8.reduceLE, UInt8.reduceToNat]
      exact retII rfl rfl Kept.start rfl rfl
  · have e1 : wkOf d = ((d + 3) % 7, 0) := by simp [wkOf, h]
    rw [e1]
    have h1 : ¬ d < 0 := by omega
    have h2 : ¬ 2932896 < d := by omega
    simp (maxSteps := 1000000) (disch := omega) only [h1, h2, add_i, rem_i, Int.tmod_eq_emod_of_nonneg (show 0 ≤ d + 3 by omega), W_seq, W_region, W_cond, W_block, W_skip, W_label, W_exit, W_goto, W_ret, WO_cons, WO_consG, WO_nil, wantedA_eq, wantB, evOp, ev_tmp, ev_const, ev_fn, WN_some, WN_none, updO_some, updO_none, upd_eq,
 ↓reduceIte, Nat.reduceEqDiff, List.nil_append, List.cons_append, List.append_nil, List.map_cons, List.map_nil, env0_zero, env0_succ, env0_nil, Option.map_some, Option.map_none, seqQ_normal, seqQ_ret, seqQ_exit, seqQ_goto, blockQ_normal, blockQ_ret, blockQ_exit, blockQ_goto, condW_bool, loopQ_ret, loopQ_exit, loopQ_goto, endQ_ret, endQ_normal, keep_mk, keep_st,
 lss_i, leq_i, gtr_i, geq_i, eql_i, neq_i, eql_8, neq_8, lss_8, leq_8, gtr_8, geq_8, eql_s, neq_s, eql_b, neq_b, not_b, by_bys, by_nils, load_cp1, beq_true, beq_false, Bool.not_eq_true', decide_eq_true_eq, decide_eq_false_iff_not, decide_true, decide_false,
 Int.toNat_natCast, Int.ofNat_lt, Int.ofNat_le, Int.natCast_inj, Bool.false_eq_true, Bool.true_eq_false, extPV, List.getElem?_cons_zero, List.getElem?_cons_succ, nilckPV, Int.reduceToNat, Int.reduceLE, true_and, and_true, reduceCtorEq, or_false, false_or, or_true, Option.some.injEq, exists_eq_left', Bool.not_true, Bool.not_false, ne_eq, Int.reduceEq, not_true_eq_false, not_false_eq_true, Int.reduceLT, UInt8.reduceLT, UInt8.reduceLE, UInt8.reduceToNat]
    exact retII rfl rfl Kept.start rfl rfl

set_option maxHeartbeats 1000000 in
theorem law_DateWeeks {d : Int} : ∃ s', call prog (.fn 273 []) [.int .i64 d] ⟨[], [], [], 0⟩ = some (.bool true, s') := by
  refine law_of_W prog_273 rfl ?_
  unfold F_posthornlaw20_DateWeeks; dsimp only
  have hA := call_of al20_0
  by_cases h1 : d < 7
  · simp (maxSteps := 1000000) (disch := omega) only [h1, hA, List.length_nil, W_seq, W_region, W_cond, W_block, W_skip, W_label, W_exit, W_goto, W_ret, WO_cons, WO_consG, WO_nil, wantedA_eq, wantB, evOp, ev_tmp, ev_const, ev_fn, WN_some, WN_none, updO_some, updO_none, upd_eq,
 ↓reduceIte, Nat.reduceEqDiff, List.nil_append, List.cons_append, List.append_nil, List.map_cons, List.map_nil, env0_zero, env0_succ, env0_nil, Option.map_some, Option.map_none, seqQ_normal, seqQ_ret, seqQ_exit, seqQ_goto, blockQ_normal, blockQ_ret, blockQ_exit, blockQ_goto, condW_bool, loopQ_ret, loopQ_exit, loopQ_goto, endQ_ret, endQ_normal, keep_mk, keep_st,
 lss_i, leq_i, gtr_i, geq_i, eql_i, neq_i, eql_8, neq_8, lss_8, leq_8, gtr_8, geq_8, eql_s, neq_s, eql_b, neq_b, not_b, by_bys, by_nils, load_cp1, beq_true, beq_false, Bool.not_eq_true', decide_eq_true_eq, decide_eq_false_iff_not, decide_true, decide_false,
 Int.toNat_natCast, Int.ofNat_lt, Int.ofNat_le, Int.natCast_inj, Bool.false_eq_true, Bool.true_eq_false, extPV, List.getElem?_cons_zero, List.getElem?_cons_succ, nilckPV, Int.reduceToNat, Int.reduceLE, true_and, and_true, reduceCtorEq, or_false, false_or, or_true, Option.some.injEq, exists_eq_left', Bool.not_true, Bool.not_false, ne_eq, Int.reduceEq, not_true_eq_false, not_false_eq_true, Int.reduceLT, UInt8.reduceLT, UInt8.reduceLE, UInt8.reduceToNat]
  · by_cases h2 : 2932896 < d
    · simp (maxSteps := 1000000) (disch := omega) only [h1, h2, hA, List.length_nil, W_seq, W_region, W_cond, W_block, W_skip, W_label, W_exit, W_goto, W_ret, WO_cons, WO_consG, WO_nil, wantedA_eq, wantB, evOp, ev_tmp, ev_const, ev_fn, WN_some, WN_none, updO_some, updO_none, upd_eq,
 ↓reduceIte, Nat.reduceEqDiff, List.nil_append, List.cons_append, List.append_nil, List.map_cons, List.map_nil, env0_zero, env0_succ, env0_nil, Option.map_some, Option.map_none, seqQ_normal, seqQ_ret, seqQ_exit, seqQ_goto, blockQ_normal, blockQ_ret, blockQ_exit, blockQ_goto, condW_bool, loopQ_ret, loopQ_exit, loopQ_goto, endQ_ret, endQ_normal, keep_mk, keep_st,
 lss_i, leq_i, gtr_i, geq_i, eql_i, neq_i, eql_8, neq_8, lss_8, leq_8, gtr_8, geq_8, eql_s, neq_s, eql_b, neq_b, not_b, by_bys, by_nils, load_cp1, beq_true, beq_false, Bool.not_eq_true', decide_eq_true_eq, decide_eq_false_iff_not, decide_true, decide_false,
 Int.toNat_natCast, Int.ofNat_lt, Int.ofNat_le, Int.natCast_inj, Bool.false_eq_true, Bool.true_eq_false, extPV, List.getElem?_cons_zero, List.getElem?_cons_succ, nilckPV, Int.reduceToNat, Int.reduceLE, true_and, and_true, reduceCtorEq, or_false, false_or, or_true, Option.some.injEq, exists_eq_left', Bool.not_true, Bool.not_false, ne_eq, Int.reduceEq, not_true_eq_false, not_false_eq_true, Int.reduceLT, UInt8.reduceLT, UInt8.reduceLE, UInt8.reduceToNat]
    · have w0 := fun S : St => Weekday_spec (st := S) (d := d)
      have w1 := fun S : St => Weekday_spec (st := S) (d := d - 1)
      have w7 := fun S : St => Weekday_spec (st := S) (d := d - 7)
      rw [show wkOf d = ((d + 3) % 7, 0) by unfold wkOf; rw [if_neg (by omega)]] at w0
      rw [show wkOf (d - 1) = ((d - 1 + 3) % 7, 0) by unfold wkOf; rw [if_neg (by omega)]] at w1
      rw [show wkOf (d - 7) = ((d - 7 + 3) % 7, 0) by unfold wkOf; rw [if_neg (by omega)]] at w7
      have e1 : (d + 3) % 7 = (d - 7 + 3) % 7 := by omega
      have e2 : (d + 3) % 7 = ((d - 1 + 3) % 7 + 1) % 7 := by omega
      have e3 : 0 ≤ (d + 3) % 7 := by omega
      have e4 : (d + 3) % 7 < 7 := by omega
      have e5 : 0 ≤ (d - 1 + 3) % 7 + 1 := by omega
      simp (maxSteps := 1000000) (disch := omega) only [h1, h2, hA, List.length_nil, w0, w1, w7, add_i, sub_i, rem_i, Int.tmod_eq_emod_of_nonneg e5, eq_true e1, eq_true e2, eq_true e3, eq_true e4, W_seq, W_region, W_cond, W_block, W_skip, W_label, W_exit, W_goto, W_ret, WO_cons, WO_consG, WO_nil, wantedA_eq, wantB, evOp, ev_tmp, ev_const, ev_fn, WN_some, WN_none, updO_some, updO_none, upd_eq,
 ↓reduceIte, Nat.reduceEqDiff, List.nil_append, List.cons_append, List.append_nil, List.map_cons, List.map_nil, env0_zero, env0_succ, env0_nil, Option.map_some, Option.map_none, seqQ_normal, seqQ_ret, seqQ_exit, seqQ_goto, blockQ_normal, blockQ_ret, blockQ_exit, blockQ_goto, condW_bool, loopQ_ret, loopQ_exit, loopQ_goto, endQ_ret, endQ_normal, keep_mk, keep_st,
 lss_i, leq_i, gtr_i, geq_i, eql_i, neq_i, eql_8, neq_8, lss_8, leq_8, gtr_8, geq_8, eql_s, neq_s, eql_b, neq_b, not_b, by_bys, by_nils, load_cp1, beq_true, beq_false, Bool.not_eq_true', decide_eq_true_eq, decide_eq_false_iff_not, decide_true, decide_false,
 Int.toNat_natCast, Int.ofNat_lt, Int.ofNat_le, Int.natCast_inj, Bool.false_eq_true, Bool.true_eq_false, extPV, List.getElem?_cons_zero, List.getElem?_cons_succ, nilckPV, Int.reduceToNat, Int.reduceLE, true_and, and_true, reduceCtorEq, or_false, false_or, or_true, Option.some.injEq, exists_eq_left', Bool.not_true, Bool.not_false, ne_eq, Int.reduceEq, not_true_eq_false, not_false_eq_true, Int.reduceLT, UInt8.reduceLT, UInt8.reduceLE, UInt8.reduceToNat]
end Go.Ab

/-
  Ids are written.
-/
namespace Go.Ab
set_option linter.unusedVariables false
set_option linter.unusedSimpArgs false
set_option maxRecDepth 20000
variable {st s : St} {e : Env}

theorem wrapU {n : Int} (h1 : 0 ≤ n) (h2 : n < 18446744073709551616) : IntKind.u64.wrap n = n := by
  unfold IntKind.wrap
  simp only [IntKind.signed, IntKind.bits]
  simp
  omega
theorem and31 {ek : EK} {m : Nat} (h : m < 18446744073709551616) : binPV .and ek (.int .u64 (m : Int)) (.int .u64 31) = some (.int .u64 ((m % 32 : Nat) : Int)) := by
  simp only [binPV, binI, reduceIte, Option.some.injEq]
  have e1 : (BitVec.ofInt IntKind.u64.bits (m : Int) &&& BitVec.ofInt IntKind.u64.bits 31).toNat = m % 32 := by
    rw [BitVec.toNat_and]
    have a1 : (BitVec.ofInt IntKind.u64.bits (m : Int)).toNat = m := by
      simp only [IntKind.bits, BitVec.ofInt_natCast, BitVec.toNat_ofNat]
      exact Nat.mod_eq_of_lt h
    have a2 : (BitVec.ofInt IntKind.u64.bits 31).toNat = 31 := by decide
    rw [a1, a2]
    exact Nat.and_two_pow_sub_one_eq_mod m 5
  rw [e1, wrapU (by omega) (by omega)]
theorem shr5 {ek : EK} {m : Nat} (h : m < 18446744073709551616) : binPV .shr ek (.int .u64 (m : Int)) (.int .u64 5) = some (.int .u64 ((m / 32 : Nat) : Int)) := by
  have e1 : (m : Int).fdiv (2 ^ (min (5 : Int).toNat IntKind.u64.bits)) = ((m / 32 : Nat) : Int) := by
    rw [show (2 : Int) ^ (min (5 : Int).toNat IntKind.u64.bits) = 32 by decide]
    rw [Int.fdiv_eq_ediv_of_nonneg _ (by decide)]; omega
  simp only [binPV, shI, e1]
  rfl
theorem addU {ek : EK} {a : Nat} {c : Int} (h1 : 0 ≤ c) (h2 : a + c.toNat < 18446744073709551616) : binPV .add ek (.int .u64 (a : Int)) (.int .u64 c) = some (.int .u64 ((a + c.toNat : Nat) : Int)) := by
  simp only [binPV, binI, reduceIte, Option.some.injEq]
  rw [wrapU (by omega) (by omega)]
  congr 1; omega
def sgT : Bs := [48, 49, 50, 51, 52, 53, 54, 55, 56, 57, 97, 98, 99, 100, 101, 102, 103, 104, 105, 106, 107, 108, 109, 110, 111, 112, 113, 114, 115, 116, 117, 118]
theorem sgT_at {m : Nat} (h : m < 32) : slcPV 0 (.str sgT) (some (.int .u64 (m : Int))) (some (.int .u64 ((m + 1 : Nat) : Int))) none = some (.str [sgC m]) := by
  rw [slc_s (by omega) (by omega) (by simp [sgT]; omega)]
  have := List.all_eq_true.1 (show (List.range 32).all (fun m => (sgT.take (m + 1)).drop m == [sgC m]) = true by kernel_rfl) m (List.mem_range.2 h)
  simp only [beq_iff_eq] at this
  simp only [Int.toNat_natCast, this]

theorem five_spec {n : Nat} (hn : n < 9223372036854775808) : call prog (.fn 303 []) [.int .u64 (n : Int)] st = some (.str (sg32 n), st) := by
  refine call_of_W prog_303 ?_
  unfold F_date_five; dsimp only
  have hlen := sg_len 12 n (Nat.lt_of_lt_of_le hn (by decide))
  rw [show ([48, 49, 50, 51, 52, 53, 54, 55, 56, 57, 97, 98, 99, 100, 101, 102, 103, 104, 105, 106, 107, 108, 109, 110, 111, 112, 113, 114, 115, 116, 117, 118] : List UInt8) = sgT from rfl]
  simp (maxSteps := 1000000) (disch := omega) only [W_seq, W_region, W_cond, W_block, W_skip, W_label, W_exit, W_goto, W_ret, WO_cons, WO_consG3, guardV_bool, guardT_tt, guardT_ff, guardT_tf, guardT_ft, condW_imp, imp_tt, imp_ff, imp_tf, imp_ft, imp_F, imp_T, implies_true, Decidable.not_not, forall_const, and_self, Bool.not_eq_false', WO_nil, evOp, ev_tmp, ev_const, ev_fn, WN_some, WN_none, updO_some, updO_none, upd_eq,
 ↓reduceIte, Nat.reduceEqDiff, List.nil_append, List.cons_append, List.append_nil, List.map_cons, List.map_nil, env0_zero, env0_succ, env0_nil, Option.map_some, Option.map_none, seqQ_normal, seqQ_ret, seqQ_exit, seqQ_goto, blockQ_normal, blockQ_ret, blockQ_exit, blockQ_goto, loopQ_ret, loopQ_exit, loopQ_goto, endQ_ret, endQ_normal, keep_mk, keep_st,
 lss_i, leq_i, gtr_i, geq_i, eql_i, neq_i, eql_8, neq_8, lss_8, leq_8, gtr_8, geq_8, eql_s, neq_s, eql_b, neq_b, not_b, by_bys, by_nils, load_cp1, beq_true, beq_false, Bool.not_eq_true', decide_eq_true_eq, decide_eq_false_iff_not, decide_true, decide_false,
 Int.toNat_natCast, Int.ofNat_lt, Int.ofNat_le, Int.natCast_inj, Bool.false_eq_true, Bool.true_eq_false, extPV, List.getElem?_cons_zero, List.getElem?_cons_succ, nilckPV, Int.reduceToNat, Int.reduceLE, true_and, and_true, reduceCtorEq, or_false, false_or, or_true, Option.some.injEq, exists_eq_left', Bool.not_true, Bool.not_false, ne_eq, Int.reduceEq, not_true_eq_false, not_false_eq_true, Int.reduceLT, UInt8.reduceLT, UInt8.reduceLE, UInt8.reduceToNat]
  obtain ⟨I, hI⟩ : ∃ I : Nat → Env → St → Prop, I = fun k e s' => ∃ (acc : Bs), k ≤ n ∧ Kept st s' ∧ sg32 n = sg32 k ++ acc ∧ e 0 = .int .u64 (k : Int) ∧ e 3 = .str acc := ⟨_, rfl⟩
  refine W_loop I ?_ (n := n) (by
    rw [hI]
    exact ⟨[], Nat.le_refl _, Kept.start, by simp, rfl, rfl⟩)
  intro k e s' hh
  rw [hI] at hh
  obtain ⟨acc, hk, hke, hsg, h0, h3⟩ := hh
  have hl2 : acc.length ≤ 13 := by have := congrArg List.length hsg; simp at this; omega
  have hs := @sgT_at (k % 32) (Nat.mod_lt _ (by omega))
  have hone : ([sgC (k % 32)] : Bs).length = 1 := rfl
  have hz : ((k / 32 : Nat) : Int) = 0 ↔ k / 32 = 0 := by omega
  have fin : k / 32 = 0 → ∀ E : Env, E 2 = .str ([sgC (k % 32)] ++ acc) → ∃ rv, resOf E s' [.tmp 2] = some rv ∧ leave st s' rv = (.str (sg32 n), st) := fun h E k2 =>
    retS k2 hke (by rw [hsg, sg_lt (show k < 32 by omega), show k % 32 = k by omega])
  have next : ¬ k / 32 = 0 → ∀ E : Env, E 0 = .int .u64 ((k / 32 : Nat) : Int) → E 3 = .str ([sgC (k % 32)] ++ acc) → ∃ m, m < k ∧ I m E s' := fun h E k0 k3 =>
    ⟨k / 32, by omega, by
      rw [hI]
      exact ⟨_, by omega, hke, by rw [hsg, sg_ge (show ¬ k < 32 by omega)]; simp, k0, k3⟩⟩
  clear hI
  simp (maxSteps := 1000000) (disch := omega) only [h0, h3, and31, addU, shr5, Int.toNat_one, hs, adds, hone, hz, loopQ_normal, W_seq, W_region, W_cond, W_block, W_skip, W_label, W_exit, W_goto, W_ret, WO_cons, WO_consG3, guardV_bool, guardT_tt, guardT_ff, guardT_tf, guardT_ft, condW_imp, imp_tt, imp_ff, imp_tf, imp_ft, imp_F, imp_T, implies_true, Decidable.not_not, forall_const, and_self, Bool.not_eq_false', WO_nil, evOp, ev_tmp, ev_const, ev_fn, WN_some, WN_none, updO_some, updO_none, upd_eq,
 ↓reduceIte, Nat.reduceEqDiff, List.nil_append, List.cons_append, List.append_nil, List.map_cons, List.map_nil, env0_zero, env0_succ, env0_nil, Option.map_some, Option.map_none, seqQ_normal, seqQ_ret, seqQ_exit, seqQ_goto, blockQ_normal, blockQ_ret, blockQ_exit, blockQ_goto, loopQ_ret, loopQ_exit, loopQ_goto, endQ_ret, endQ_normal, keep_mk, keep_st,
 lss_i, leq_i, gtr_i, geq_i, eql_i, neq_i, eql_8, neq_8, lss_8, leq_8, gtr_8, geq_8, eql_s, neq_s, eql_b, neq_b, not_b, by_bys, by_nils, load_cp1, beq_true, beq_false, Bool.not_eq_true', decide_eq_true_eq, decide_eq_false_iff_not, decide_true, decide_false,
 Int.toNat_natCast, Int.ofNat_lt, Int.ofNat_le, Int.natCast_inj, Bool.false_eq_true, Bool.true_eq_false, extPV, List.getElem?_cons_zero, List.getElem?_cons_succ, nilckPV, Int.reduceToNat, Int.reduceLE, true_and, and_true, reduceCtorEq, or_false, false_or, or_true, Option.some.injEq, exists_eq_left', Bool.not_true, Bool.not_false, ne_eq, Int.reduceEq, not_true_eq_false, not_false_eq_true, Int.reduceLT, UInt8.reduceLT, UInt8.reduceLE, UInt8.reduceToNat]
  refine And.intro (fun q => ?_) (fun q => ?_)
  · exact fin q _ rfl
  · exact next q _ rfl rfl

theorem isDomain_spec {d : Bs} (h : d.length ≤ 100000000) : call prog (.fn 302 []) [.str d] st = some (.bool (rightA ([], [120], d)), st) := by
  refine call_of_W prog_302 ?_
  unfold F_date_isDomain; dsimp only
  have hR := fun S : St => Right_spec (st := S) (a := ([], [120], d)) ⟨by simp, by simp, h⟩
  simp only [aV] at hR
  have hb : buildCells [.str [], .str [], .str []] [(1, 1, .str [120]), (2, 1, .str d)] = some [.str [], .str [120], .str d] := by
    simp [buildCells, PV.cells, setCells, leafOk]
  simp (maxSteps := 1000000) (disch := omega) only [hb, hR, W_seq, W_region, W_cond, W_block, W_skip, W_label, W_exit, W_goto, W_ret, WO_cons, WO_consG, WO_nil, wantedA_eq, wantB, evOp, ev_tmp, ev_const, ev_fn, WN_some, WN_none, updO_some, updO_none, upd_eq,
 ↓reduceIte, Nat.reduceEqDiff, List.nil_append, List.cons_append, List.append_nil, List.map_cons, List.map_nil, env0_zero, env0_succ, env0_nil, Option.map_some, Option.map_none, seqQ_normal, seqQ_ret, seqQ_exit, seqQ_goto, blockQ_normal, blockQ_ret, blockQ_exit, blockQ_goto, condW_bool, loopQ_ret, loopQ_exit, loopQ_goto, endQ_ret, endQ_normal, keep_mk, keep_st,
 lss_i, leq_i, gtr_i, geq_i, eql_i, neq_i, eql_8, neq_8, lss_8, leq_8, gtr_8, geq_8, eql_s, neq_s, eql_b, neq_b, not_b, by_bys, by_nils, load_cp1, beq_true, beq_false, Bool.not_eq_true', decide_eq_true_eq, decide_eq_false_iff_not, decide_true, decide_false,
 Int.toNat_natCast, Int.ofNat_lt, Int.ofNat_le, Int.natCast_inj, Bool.false_eq_true, Bool.true_eq_false, extPV, List.getElem?_cons_zero, List.getElem?_cons_succ, nilckPV, Int.reduceToNat, Int.reduceLE, true_and, and_true, reduceCtorEq, or_false, false_or, or_true, Option.some.injEq, exists_eq_left', Bool.not_true, Bool.not_false, ne_eq, Int.reduceEq, not_true_eq_false, not_false_eq_true, Int.reduceLT, UInt8.reduceLT, UInt8.reduceLE, UInt8.reduceToNat]
  exact retB rfl Kept.start rfl

theorem cU64 {n : Nat} (h : n < 9223372036854775808) : cIntPV .u64 (.int .i64 (n : Int)) = some (.int .u64 (n : Int)) := by
  simp only [cIntPV, Option.some.injEq]
  rw [wrapU (by omega) (by omega)]
theorem Right_w {t : Int} : call prog (.fn 199 []) [.int .i64 t] st = some (.bool (decide (0 ≤ t ∧ t ≤ 253402300799)), st) := by
  refine call_of_W prog_199 ?_
  unfold F_when_Right; dsimp only
  by_cases h1 : 0 ≤ t
  · by_cases h2 : t ≤ 253402300799
    · simp (maxSteps := 1000000) (disch := omega) only [h1, h2, W_seq, W_region, W_cond, W_block, W_skip, W_label, W_exit, W_goto, W_ret, WO_cons, WO_consG, WO_nil, wantedA_eq, wantB, evOp, ev_tmp, ev_const, ev_fn, WN_some, WN_none, updO_some, updO_none, upd_eq,
 ↓reduceIte, Nat.reduceEqDiff, List.nil_append, List.cons_append, List.append_nil, List.map_cons, List.map_nil, env0_zero, env0_succ, env0_nil, Option.map_some, Option.map_none, seqQ_normal, seqQ_ret, seqQ_exit, seqQ_goto, blockQ_normal, blockQ_ret, blockQ_exit, blockQ_goto, condW_bool, loopQ_ret, loopQ_exit, loopQ_goto, endQ_ret, endQ_normal, keep_mk, keep_st,
 lss_i, leq_i, gtr_i, geq_i, eql_i, neq_i, eql_8, neq_8, lss_8, leq_8, gtr_8, geq_8, eql_s, neq_s, eql_b, neq_b, not_b, by_bys, by_nils, load_cp1, beq_true, beq_false, Bool.not_eq_true', decide_eq_true_eq, decide_eq_false_iff_not, decide_true, decide_false,
 Int.toNat_natCast, Int.ofNat_lt, Int.ofNat_le, Int.natCast_inj, Bool.false_eq_true, Bool.true_eq_false, extPV, List.getElem?_cons_zero, List.getElem?_cons_succ, nilckPV, Int.reduceToNat, Int.reduceLE, true_and, and_true, reduceCtorEq, or_false, false_or, or_true, Option.some.injEq, exists_eq_left', Bool.not_true, Bool.not_false, ne_eq, Int.reduceEq, not_true_eq_false, not_false_eq_true, Int.reduceLT, UInt8.reduceLT, UInt8.reduceLE, UInt8.reduceToNat]
      exact retB rfl Kept.start (by simp [h1, h2])
    · simp (maxSteps := 1000000) (disch := omega) only [h1, h2, W_seq, W_region, W_cond, W_block, W_skip, W_label, W_exit, W_goto, W_ret, WO_cons, WO_consG, WO_nil, wantedA_eq, wantB, evOp, ev_tmp, ev_const, ev_fn, WN_some, WN_none, updO_some, updO_none, upd_eq,
 ↓reduceIte, Nat.reduceEqDiff, List.nil_append, List.cons_append, List.append_nil, List.map_cons, List.map_nil, env0_zero, env0_succ, env0_nil, Option.map_some, Option.map_none, seqQ_normal, seqQ_ret, seqQ_exit, seqQ_goto, blockQ_normal, blockQ_ret, blockQ_exit, blockQ_goto, condW_bool, loopQ_ret, loopQ_exit, loopQ_goto, endQ_ret, endQ_normal, keep_mk, keep_st,
 lss_i, leq_i, gtr_i, geq_i, eql_i, neq_i, eql_8, neq_8, lss_8, leq_8, gtr_8, geq_8, eql_s, neq_s, eql_b, neq_b, not_b, by_bys, by_nils, load_cp1, beq_true, beq_false, Bool.not_eq_true', decide_eq_true_eq, decide_eq_false_iff_not, decide_true, decide_false,
 Int.toNat_natCast, Int.ofNat_lt, Int.ofNat_le, Int.natCast_inj, Bool.false_eq_true, Bool.true_eq_false, extPV, List.getElem?_cons_zero, List.getElem?_cons_succ, nilckPV, Int.reduceToNat, Int.reduceLE, true_and, and_true, reduceCtorEq, or_false, false_or, or_true, Option.some.injEq, exists_eq_left', Bool.not_true, Bool.not_false, ne_eq, Int.reduceEq, not_true_eq_false, not_false_eq_true, Int.reduceLT, UInt8.reduceLT, UInt8.reduceLE, UInt8.reduceToNat]
      exact retB rfl Kept.start (by simp [h1, h2])
  · simp (maxSteps := 1000000) (disch := omega) only [h1, W_seq, W_region, W_cond, W_block, W_skip, W_label, W_exit, W_goto, W_ret, WO_cons, WO_consG, WO_nil, wantedA_eq, wantB, evOp, ev_tmp, ev_const, ev_fn, WN_some, WN_none, updO_some, updO_none, upd_eq,
 ↓reduceIte, Nat.reduceEqDiff, List.nil_append, List.cons_append, List.append_nil, List.map_cons, List.map_nil, env0_zero, env0_succ, env0_nil, Option.map_some, Option.map_none, seqQ_normal, seqQ_ret, seqQ_exit, seqQ_goto, blockQ_normal, blockQ_ret, blockQ_exit, blockQ_goto, condW_bool, loopQ_ret, loopQ_exit, loopQ_goto, endQ_ret, endQ_normal, keep_mk, keep_st,
 lss_i, leq_i, gtr_i, geq_i, eql_i, neq_i, eql_8, neq_8, lss_8, leq_8, gtr_8, geq_8, eql_s, neq_s, eql_b, neq_b, not_b, by_bys, by_nils, load_cp1, beq_true, beq_false, Bool.not_eq_true', decide_eq_true_eq, decide_eq_false_iff_not, decide_true, decide_false,
 Int.toNat_natCast, Int.ofNat_lt, Int.ofNat_le, Int.natCast_inj, Bool.false_eq_true, Bool.true_eq_false, extPV, List.getElem?_cons_zero, List.getElem?_cons_succ, nilckPV, Int.reduceToNat, Int.reduceLE, true_and, and_true, reduceCtorEq, or_false, false_or, or_true, Option.some.injEq, exists_eq_left', Bool.not_true, Bool.not_false, ne_eq, Int.reduceEq, not_true_eq_false, not_false_eq_true, Int.reduceLT, UInt8.reduceLT, UInt8.reduceLE, UInt8.reduceToNat]
    exact retB rfl Kept.start (by simp [h1])

def idV (t c : Int) (d : Bs) : Bs × Int := if (0 ≤ t ∧ t ≤ 253402300799) ∧ 0 ≤ c ∧ rightA ([], [120], d) = true then (idT t.toNat c.toNat d, 0) else ([], 1)
theorem ID_spec {t c : Int} {d : Bs} (h : d.length ≤ 100000000) (hc : c < 9223372036854775808) : call prog (.fn 265 []) [.int .i64 t, .int .i64 c, .str d] st = some (.tup [.str (idV t c d).1, .int .i64 (idV t c d).2], st) := by
  refine call_of_W prog_265 ?_
  unfold F_date_ID; dsimp only
  have hR := fun S : St => Right_w (st := S) (t := t)
  have hD := fun S : St => isDomain_spec (st := S) h
  by_cases h1 : 0 ≤ t ∧ t ≤ 253402300799
  · rw [show decide (0 ≤ t ∧ t ≤ 253402300799) = true from decide_eq_true h1] at hR
    by_cases h2 : c < 0
    · rw [show idV t c d = ([], 1) by unfold idV; rw [if_neg (by omega)]]
      simp (maxSteps := 1000000) (disch := omega) only [hR, h2, W_seq, W_region, W_cond, W_block, W_skip, W_label, W_exit, W_goto, W_ret, WO_cons, WO_consG, WO_nil, wantedA_eq, wantB, evOp, ev_tmp, ev_const, ev_fn, WN_some, WN_none, updO_some, updO_none, upd_eq,
 ↓reduceIte, Nat.reduceEqDiff, List.nil_append, List.cons_append, List.append_nil, List.map_cons, List.map_nil, env0_zero, env0_succ, env0_nil, Option.map_some, Option.map_none, seqQ_normal, seqQ_ret, seqQ_exit, seqQ_goto, blockQ_normal, blockQ_ret, blockQ_exit, blockQ_goto, condW_bool, loopQ_ret, loopQ_exit, loopQ_goto, endQ_ret, endQ_normal, keep_mk, keep_st,
 lss_i, leq_i, gtr_i, geq_i, eql_i, neq_i, eql_8, neq_8, lss_8, leq_8, gtr_8, geq_8, eql_s, neq_s, eql_b, neq_b, not_b, by_bys, by_nils, load_cp1, beq_true, beq_false, Bool.not_eq_true', decide_eq_true_eq, decide_eq_false_iff_not, decide_true, decide_false,
 Int.toNat_natCast, Int.ofNat_lt, Int.ofNat_le, Int.natCast_inj, Bool.false_eq_true, Bool.true_eq_false, extPV, List.getElem?_cons_zero, List.getElem?_cons_succ, nilckPV, Int.reduceToNat, Int.reduceLE, true_and, and_true, reduceCtorEq, or_false, false_or, or_true, Option.some.injEq, exists_eq_left', Bool.not_true, Bool.not_false, ne_eq, Int.reduceEq, not_true_eq_false, not_false_eq_true, Int.reduceLT, UInt8.reduceLT, UInt8.reduceLE, UInt8.reduceToNat]
      exact retTI rfl rfl Kept.start rfl rfl
    · cases h3 : rightA ([], [120], d) with
      | false =>
        rw [h3] at hD
        rw [show idV t c d = ([], 1) by unfold idV; rw [if_neg (by rw [h3]; simp)]]
        simp (maxSteps := 1000000) (disch := omega) only [hR, h2, hD, W_seq, W_region, W_cond, W_block, W_skip, W_label, W_exit, W_goto, W_ret, WO_cons, WO_consG, WO_nil, wantedA_eq, wantB, evOp, ev_tmp, ev_const, ev_fn, WN_some, WN_none, updO_some, updO_none, upd_eq,
 ↓reduceIte, Nat.reduceEqDiff, List.nil_append, List.cons_append, List.append_nil, List.map_cons, List.map_nil, env0_zero, env0_succ, env0_nil, Option.map_some, Option.map_none, seqQ_normal, seqQ_ret, seqQ_exit, seqQ_goto, blockQ_normal, blockQ_ret, blockQ_exit, blockQ_goto, condW_bool, loopQ_ret, loopQ_exit, loopQ_goto, endQ_ret, endQ_normal, keep_mk, keep_st,
 lss_i, leq_i, gtr_i, geq_i, eql_i, neq_i, eql_8, neq_8, lss_8, leq_8, gtr_8, geq_8, eql_s, neq_s, eql_b, neq_b, not_b, by_bys, by_nils, load_cp1, beq_true, beq_false, Bool.not_eq_true', decide_eq_true_eq, decide_eq_false_iff_not, decide_true, decide_false,
 Int.toNat_natCast, Int.ofNat_lt, Int.ofNat_le, Int.natCast_inj, Bool.false_eq_true, Bool.true_eq_false, extPV, List.getElem?_cons_zero, List.getElem?_cons_succ, nilckPV, Int.reduceToNat, Int.reduceLE, true_and, and_true, reduceCtorEq, or_false, false_or, or_true, Option.some.injEq, exists_eq_left', Bool.not_true, Bool.not_false, ne_eq, Int.reduceEq, not_true_eq_false, not_false_eq_true, Int.reduceLT, UInt8.reduceLT, UInt8.reduceLE, UInt8.reduceToNat]
        exact retTI rfl rfl Kept.start rfl rfl
      | true =>
        rw [h3] at hD
        rw [show idV t c d = (idT t.toNat c.toNat d, 0) by unfold idV; rw [if_pos ⟨h1, by omega, h3⟩]]
        obtain ⟨tn, rfl⟩ : ∃ n : Nat, t = (n : Int) := ⟨t.toNat, by omega⟩
        obtain ⟨cn, rfl⟩ : ∃ n : Nat, c = (n : Int) := ⟨c.toNat, by omega⟩
        have l1 := sg_len 12 tn (Nat.lt_of_lt_of_le (show tn < 9223372036854775808 by omega) (by decide))
        have l2 := sg_len 12 cn (Nat.lt_of_lt_of_le (show cn < 9223372036854775808 by omega) (by decide))
        simp (maxSteps := 1000000) (disch := first | omega | (simp only [List.length_append, List.length_cons, List.length_nil]; omega)) only [hR, h2, hD, cU64, five_spec, adds, W_seq, W_region, W_cond, W_block, W_skip, W_label, W_exit, W_goto, W_ret, WO_cons, WO_consG, WO_nil, wantedA_eq, wantB, evOp, ev_tmp, ev_const, ev_fn, WN_some, WN_none, updO_some, updO_none, upd_eq,
 ↓reduceIte, Nat.reduceEqDiff, List.nil_append, List.cons_append, List.append_nil, List.map_cons, List.map_nil, env0_zero, env0_succ, env0_nil, Option.map_some, Option.map_none, seqQ_normal, seqQ_ret, seqQ_exit, seqQ_goto, blockQ_normal, blockQ_ret, blockQ_exit, blockQ_goto, condW_bool, loopQ_ret, loopQ_exit, loopQ_goto, endQ_ret, endQ_normal, keep_mk, keep_st,
 lss_i, leq_i, gtr_i, geq_i, eql_i, neq_i, eql_8, neq_8, lss_8, leq_8, gtr_8, geq_8, eql_s, neq_s, eql_b, neq_b, not_b, by_bys, by_nils, load_cp1, beq_true, beq_false, Bool.not_eq_true', decide_eq_true_eq, decide_eq_false_iff_not, decide_true, decide_false,
 Int.toNat_natCast, Int.ofNat_lt, Int.ofNat_le, Int.natCast_inj, Bool.false_eq_true, Bool.true_eq_false, extPV, List.getElem?_cons_zero, List.getElem?_cons_succ, nilckPV, Int.reduceToNat, Int.reduceLE, true_and, and_true, reduceCtorEq, or_false, false_or, or_true, Option.some.injEq, exists_eq_left', Bool.not_true, Bool.not_false, ne_eq, Int.reduceEq, not_true_eq_false, not_false_eq_true, Int.reduceLT, UInt8.reduceLT, UInt8.reduceLE, UInt8.reduceToNat]
        exact retTI rfl rfl Kept.start (by simp [idT, locT]) rfl
  · rw [show decide (0 ≤ t ∧ t ≤ 253402300799) = false from decide_eq_false h1] at hR
    rw [show idV t c d = ([], 1) by unfold idV; rw [if_neg (fun q => h1 q.1)]]
    simp (maxSteps := 1000000) (disch := omega) only [hR, W_seq, W_region, W_cond, W_block, W_skip, W_label, W_exit, W_goto, W_ret, WO_cons, WO_consG, WO_nil, wantedA_eq, wantB, evOp, ev_tmp, ev_const, ev_fn, WN_some, WN_none, updO_some, updO_none, upd_eq,
 ↓reduceIte, Nat.reduceEqDiff, List.nil_append, List.cons_append, List.append_nil, List.map_cons, List.map_nil, env0_zero, env0_succ, env0_nil, Option.map_some, Option.map_none, seqQ_normal, seqQ_ret, seqQ_exit, seqQ_goto, blockQ_normal, blockQ_ret, blockQ_exit, blockQ_goto, condW_bool, loopQ_ret, loopQ_exit, loopQ_goto, endQ_ret, endQ_normal, keep_mk, keep_st,
 lss_i, leq_i, gtr_i, geq_i, eql_i, neq_i, eql_8, neq_8, lss_8, leq_8, gtr_8, geq_8, eql_s, neq_s, eql_b, neq_b, not_b, by_bys, by_nils, load_cp1, beq_true, beq_false, Bool.not_eq_true', decide_eq_true_eq, decide_eq_false_iff_not, decide_true, decide_false,
 Int.toNat_natCast, Int.ofNat_lt, Int.ofNat_le, Int.natCast_inj, Bool.false_eq_true, Bool.true_eq_false, extPV, List.getElem?_cons_zero, List.getElem?_cons_succ, nilckPV, Int.reduceToNat, Int.reduceLE, true_and, and_true, reduceCtorEq, or_false, false_or, or_true, Option.some.injEq, exists_eq_left', Bool.not_true, Bool.not_false, ne_eq, Int.reduceEq, not_true_eq_false, not_false_eq_true, Int.reduceLT, UInt8.reduceLT, UInt8.reduceLE, UInt8.reduceToNat]
    exact retTI rfl rfl Kept.start rfl rfl
end Go.Ab

/-
  Rows of one's own in a state that keeps what the caller has.
-/
namespace Go.Ab
set_option linter.unusedVariables false
set_option linter.unusedSimpArgs false
variable {st s : St} {e : Env}

/-! ### Rows of one's own in a state that keeps what the caller has -/
theorem Kept.appV {esz : Nat} {v u w : PV} {xs : List PV} (hk : Kept st s) (h : Own st s esz v xs) (hl : xs.length + 1 ≤ room) :
    ∃ v' s', Ab.appV esz s.tok1 v (.sl esz (.own s.toks.length) [u]) = some (v', s') ∧ Kept st s' ∧ Own st s' esz v' (xs ++ [u]) ∧ s'.boxes = s.boxes := by
  have hk1 := hk.tok1
  have hg : GrewAt s.tok1.boxes st.toks s.tok1.loops s.tok1.low s.tok1 := ⟨rfl, rfl, rfl, hk1.tk⟩
  have h1 := h.tok1
  obtain ⟨g2, o2⟩ := Own.app (ys := xs ++ [u]) hg h1
  refine ⟨_, _, appV_own h1 hl, ⟨?_, ?_, ?_, g2.tk⟩, o2, g2.bx⟩
  · rw [g2.bx]; exact hk1.bx
  · rw [g2.lp]; exact hk1.lp
  · rw [g2.lw]; exact hk1.lw
theorem Kept.leaveOwn {esz : Nat} {v : PV} {xs : List PV} {k : IntKind} {n : Int} (hk : Kept st s) (h : Own st s esz v xs) (hne : xs = [] → v = .nils) :
    Ab.leave st s (.tup [v, .int k n]) = (.tup [newSl st esz xs, .int k n], newS st xs.isEmpty) := by
  have e1 := hk.bx; have e2 := hk.lp; have e3 := hk.tk
  rcases h with ⟨rfl, rfl⟩ | ⟨i, rfl, h2, h3⟩
  · simp [Ab.leave, PV.inB, PV.inB.inBAll, hk.lw, keepRes, keepVals, keepVal, keepLeaf, newSl, newS, e1, e2, e3]
  · by_cases hx : xs = []
    · have := hne hx; cases this
    · simp [Ab.leave, PV.inB, PV.inB.inBAll, hk.lw, keepRes, keepVals, keepVal, keepLeaf, keepTok, newSl, newS, hx, h3, show ¬ i < st.toks.length by omega, e1, e2, e3, St.tok1]
theorem Kept.leaveOwn1 {esz : Nat} {v : PV} {xs : List PV} (hk : Kept st s) (h : Own st s esz v xs) (hne : xs = [] → v = .nils) : Ab.leave st s v = (newSl st esz xs, newS st xs.isEmpty) := by
  have e1 := hk.bx; have e2 := hk.lp; have e3 := hk.tk
  rcases h with ⟨rfl, rfl⟩ | ⟨i, rfl, h2, h3⟩
  · simp [Ab.leave, PV.inB, hk.lw, keepRes, keepVal, keepLeaf, newSl, newS, e1, e2, e3]
  · by_cases hx : xs = []
    · have := hne hx; cases this
    · simp [Ab.leave, PV.inB, hk.lw, keepRes, keepVal, keepLeaf, keepTok, newSl, newS, hx, h3, show ¬ i < st.toks.length by omega, e1, e2, e3, St.tok1]
theorem own_nt {esz : Nat} {v : PV} {xs : List PV} (h : Own st s esz v xs) : notTup v = true := by rcases h with ⟨rfl, _⟩ | ⟨i, rfl, _⟩ <;> rfl
theorem lit_s {x : Bs} : litFill 1 (List.replicate 1 (.str [])) [(0, .str x)] = some [.str x] := rfl
end Go.Ab

/-
  Ids are read; the law DateUnlike.
-/
namespace Go.Ab
set_option linter.unusedVariables false
set_option linter.unusedSimpArgs false
set_option maxRecDepth 20000
variable {st s : St} {e : Env}

theorem ret2sb {a b : Nat} {t u : Bs} {p q : Bool} (ha : e a = .str t) (hb : e b = .bool p) (hk : Kept st s) (h1 : t = u) (h2 : p = q) : ∃ rv, resOf e s [.tmp a, .tmp b] = some rv ∧ leave st s rv = (.tup [.str u, .bool q], st) := by
  subst h1 h2; exact retV2 ha hb rfl rfl hk ⟨fun _ => rfl, fun _ _ => rfl⟩

theorem hasPrefix_c {a : Bs} {c : UInt8} : decide ([c] <+: a) = decide (a.head? = some c) := by
  cases a with
  | nil => simp
  | cons x r => simp [List.cons_prefix_cons, eq_comm]

theorem sCutPrefix_spec {a : Bs} {c : UInt8} (h : a.length < 4294967281) : call prog (.fn 314 []) [.str a, .str [c]] st = some (.tup [.str (if a.head? = some c then a.drop 1 else a), .bool (decide (a.head? = some c))], st) := by
  refine call_of_W prog_314 ?_
  unfold F_internal_stringslite_CutPrefix; dsimp only
  have hP := fun S : St => slHasPrefix_spec (st := S) (a := a) (b := [c])
  have hl1 : ((([c] : Bs).length : Nat) : Int) = 1 := rfl
  by_cases hc : a.head? = some c
  · have h0 : 1 ≤ a.length := by cases a with | nil => simp at hc | cons x r => simp
    rw [if_pos hc]
    simp only [hasPrefix_c, hc, decide_true] at hP
    simp (maxSteps := 1000000) (disch := omega) only [hP, hc, len_s, hl1, Int.toNat_one, slc_s_lo, W_seq, W_region, W_cond, W_block, W_skip, W_label, W_exit, W_goto, W_ret, WO_cons, WO_consG, WO_nil, wantedA_eq, wantB, evOp, ev_tmp, ev_const, ev_fn, WN_some, WN_none, updO_some, updO_none, upd_eq,
 ↓reduceIte, Nat.reduceEqDiff, List.nil_append, List.cons_append, List.append_nil, List.map_cons, List.map_nil, env0_zero, env0_succ, env0_nil, Option.map_some, Option.map_none, seqQ_normal, seqQ_ret, seqQ_exit, seqQ_goto, blockQ_normal, blockQ_ret, blockQ_exit, blockQ_goto, condW_bool, loopQ_ret, loopQ_exit, loopQ_goto, endQ_ret, endQ_normal, keep_mk, keep_st,
 lss_i, leq_i, gtr_i, geq_i, eql_i, neq_i, eql_8, neq_8, lss_8, leq_8, gtr_8, geq_8, eql_s, neq_s, eql_b, neq_b, not_b, by_bys, by_nils, load_cp1, beq_true, beq_false, Bool.not_eq_true', decide_eq_true_eq, decide_eq_false_iff_not, decide_true, decide_false,
 Int.toNat_natCast, Int.ofNat_lt, Int.ofNat_le, Int.natCast_inj, Bool.false_eq_true, Bool.true_eq_false, extPV, List.getElem?_cons_zero, List.getElem?_cons_succ, nilckPV, Int.reduceToNat, Int.reduceLE, true_and, and_true, reduceCtorEq, or_false, false_or, or_true, Option.some.injEq, exists_eq_left', Bool.not_true, Bool.not_false, ne_eq, Int.reduceEq, not_true_eq_false, not_false_eq_true, Int.reduceLT, UInt8.reduceLT, UInt8.reduceLE, UInt8.reduceToNat]
    exact ret2sb rfl rfl Kept.start rfl rfl
  · rw [if_neg hc]
    simp only [hasPrefix_c, hc, decide_false] at hP
    simp (maxSteps := 1000000) (disch := omega) only [hP, hc, W_seq, W_region, W_cond, W_block, W_skip, W_label, W_exit, W_goto, W_ret, WO_cons, WO_consG, WO_nil, wantedA_eq, wantB, evOp, ev_tmp, ev_const, ev_fn, WN_some, WN_none, updO_some, updO_none, upd_eq,
 ↓reduceIte, Nat.reduceEqDiff, List.nil_append, List.cons_append, List.append_nil, List.map_cons, List.map_nil, env0_zero, env0_succ, env0_nil, Option.map_some, Option.map_none, seqQ_normal, seqQ_ret, seqQ_exit, seqQ_goto, blockQ_normal, blockQ_ret, blockQ_exit, blockQ_goto, condW_bool, loopQ_ret, loopQ_exit, loopQ_goto, endQ_ret, endQ_normal, keep_mk, keep_st,
 lss_i, leq_i, gtr_i, geq_i, eql_i, neq_i, eql_8, neq_8, lss_8, leq_8, gtr_8, geq_8, eql_s, neq_s, eql_b, neq_b, not_b, by_bys, by_nils, load_cp1, beq_true, beq_false, Bool.not_eq_true', decide_eq_true_eq, decide_eq_false_iff_not, decide_true, decide_false,
 Int.toNat_natCast, Int.ofNat_lt, Int.ofNat_le, Int.natCast_inj, Bool.false_eq_true, Bool.true_eq_false, extPV, List.getElem?_cons_zero, List.getElem?_cons_succ, nilckPV, Int.reduceToNat, Int.reduceLE, true_and, and_true, reduceCtorEq, or_false, false_or, or_true, Option.some.injEq, exists_eq_left', Bool.not_true, Bool.not_false, ne_eq, Int.reduceEq, not_true_eq_false, not_false_eq_true, Int.reduceLT, UInt8.reduceLT, UInt8.reduceLE, UInt8.reduceToNat]
    exact ret2sb rfl rfl Kept.start rfl rfl
theorem CutPrefix_spec {a : Bs} {c : UInt8} (h : a.length < 4294967281) : call prog (.fn 305 []) [.str a, .str [c]] st = some (.tup [.str (if a.head? = some c then a.drop 1 else a), .bool (decide (a.head? = some c))], st) := by
  refine call_of_W prog_305 ?_
  unfold F_strings_CutPrefix; dsimp only
  have hP := fun S : St => sCutPrefix_spec (st := S) (c := c) h
  simp (maxSteps := 1000000) (disch := omega) only [hP, W_seq, W_region, W_cond, W_block, W_skip, W_label, W_exit, W_goto, W_ret, WO_cons, WO_consG, WO_nil, wantedA_eq, wantB, evOp, ev_tmp, ev_const, ev_fn, WN_some, WN_none, updO_some, updO_none, upd_eq,
 ↓reduceIte, Nat.reduceEqDiff, List.nil_append, List.cons_append, List.append_nil, List.map_cons, List.map_nil, env0_zero, env0_succ, env0_nil, Option.map_some, Option.map_none, seqQ_normal, seqQ_ret, seqQ_exit, seqQ_goto, blockQ_normal, blockQ_ret, blockQ_exit, blockQ_goto, condW_bool, loopQ_ret, loopQ_exit, loopQ_goto, endQ_ret, endQ_normal, keep_mk, keep_st,
 lss_i, leq_i, gtr_i, geq_i, eql_i, neq_i, eql_8, neq_8, lss_8, leq_8, gtr_8, geq_8, eql_s, neq_s, eql_b, neq_b, not_b, by_bys, by_nils, load_cp1, beq_true, beq_false, Bool.not_eq_true', decide_eq_true_eq, decide_eq_false_iff_not, decide_true, decide_false,
 Int.toNat_natCast, Int.ofNat_lt, Int.ofNat_le, Int.natCast_inj, Bool.false_eq_true, Bool.true_eq_false, extPV, List.getElem?_cons_zero, List.getElem?_cons_succ, nilckPV, Int.reduceToNat, Int.reduceLE, true_and, and_true, reduceCtorEq, or_false, false_or, or_true, Option.some.injEq, exists_eq_left', Bool.not_true, Bool.not_false, ne_eq, Int.reduceEq, not_true_eq_false, not_false_eq_true, Int.reduceLT, UInt8.reduceLT, UInt8.reduceLE, UInt8.reduceToNat]
  exact ret2sb rfl rfl Kept.start rfl rfl

theorem ids_cut {inner rest : Bs} {acc : List Bs} {m : Nat} (hn : ∀ c ∈ inner, c ≠ 62) : idsGo (m + 1) (60 :: (inner ++ 62 :: rest)) acc = if (plainA inner).2 = 0 then idsGo m rest (acc ++ [60 :: (inner ++ [62])]) else ([], 3) := by
  have hix : Lib.index (60 :: (inner ++ 62 :: rest)) [62] = ((60 :: inner).length : Int) := by
    rw [show 60 :: (inner ++ 62 :: rest) = (60 :: inner) ++ 62 :: rest by simp]
    refine index_chr _ _ fun c hc => ?_
    rcases List.mem_cons.1 hc with h | h
    · rw [h]; decide
    · exact hn c h
  have e1 : (Int.toNat ((60 :: inner).length : Int)) = inner.length + 1 := by simp
  have e2 : ((60 :: (inner ++ 62 :: rest)).take (inner.length + 1)).drop 1 = inner := by simp
  have e3 : (60 :: (inner ++ 62 :: rest)).drop (inner.length + 1 + 1) = rest := by simp [List.drop_append]
  have e4 : (60 :: (inner ++ 62 :: rest)).take (inner.length + 1) ++ [62] = 60 :: (inner ++ [62]) := by simp
  rw [idsGo, if_neg (by decide), hix, e1, e2, e3, e4]
  by_cases h : (plainA inner).2 = 0
  · rw [if_pos ⟨by omega, rfl, h⟩, if_pos h]
  · rw [if_neg (fun q => h q.2.2), if_neg h]
theorem ids_no {c : UInt8} {t : Bs} {acc : List Bs} {m : Nat} (h1 : ¬ (c = 32 ∨ c = 9)) (h2 : Lib.index (c :: t) [62] < 0 ∨ c ≠ 60) : idsGo (m + 1) (c :: t) acc = ([], 3) := by
  rw [idsGo, if_neg h1, if_neg]
  rintro ⟨q1, q2, _⟩
  rcases h2 with h | h
  · omega
  · exact h q2

set_option maxHeartbeats 2000000 in
theorem IDs_spec {s : Bs} (hl : s.length ≤ 100000000) : call prog (.fn 267 []) [.str s] st = some (.tup [newSl st 1 ((idsOf s).1.map .str), .int .i64 (idsOf s).2], newS st ((idsOf s).1.map PV.str).isEmpty) := by
  refine call_of_W prog_267 ?_
  unfold F_date_IDs; dsimp only
  obtain ⟨T, hT⟩ : ∃ T, T = idsOf s := ⟨_, rfl⟩
  rw [← hT]
  simp (maxSteps := 1000000) (disch := omega) only [W_seq, W_region, W_cond, W_block, W_skip, W_label, W_exit, W_goto, W_ret, WO_cons, WO_consG, WO_nil, wantedA_eq, wantB, evOp, ev_tmp, ev_const, ev_fn, WN_some, WN_none, updO_some, updO_none, upd_eq,
 ↓reduceIte, Nat.reduceEqDiff, List.nil_append, List.cons_append, List.append_nil, List.map_cons, List.map_nil, env0_zero, env0_succ, env0_nil, Option.map_some, Option.map_none, seqQ_normal, seqQ_ret, seqQ_exit, seqQ_goto, blockQ_normal, blockQ_ret, blockQ_exit, blockQ_goto, condW_bool, loopQ_ret, loopQ_exit, loopQ_goto, endQ_ret, endQ_normal, keep_mk, keep_st,
 lss_i, leq_i, gtr_i, geq_i, eql_i, neq_i, eql_8, neq_8, lss_8, leq_8, gtr_8, geq_8, eql_s, neq_s, eql_b, neq_b, not_b, by_bys, by_nils, load_cp1, beq_true, beq_false, Bool.not_eq_true', decide_eq_true_eq, decide_eq_false_iff_not, decide_true, decide_false,
 Int.toNat_natCast, Int.ofNat_lt, Int.ofNat_le, Int.natCast_inj, Bool.false_eq_true, Bool.true_eq_false, extPV, List.getElem?_cons_zero, List.getElem?_cons_succ, nilckPV, Int.reduceToNat, Int.reduceLE, true_and, and_true, reduceCtorEq, or_false, false_or, or_true, Option.some.injEq, exists_eq_left', Bool.not_true, Bool.not_false, ne_eq, Int.reduceEq, not_true_eq_false, not_false_eq_true, Int.reduceLT, UInt8.reduceLT, UInt8.reduceLE, UInt8.reduceToNat]
  obtain ⟨Q0, hQ0⟩ : ∃ Q0 : Ex → Env → St → Prop, Q0 = endQ st [.tmp 2, .tmp 3] (.tup [newSl st 1 (T.1.map .str), .int .i64 T.2], newS st (T.1.map PV.str).isEmpty) := ⟨_, rfl⟩
  rw [← hQ0]
  obtain ⟨I, hI⟩ : ∃ I : Nat → Env → St → Prop, I = fun k E S => ∃ (r : Bs) (j : Nat) (v : PV) (acc : List Bs), k = r.length ∧ Kept st S ∧ Own st S 1 v (acc.map .str) ∧ (acc = [] → v = .nils) ∧ acc.length + r.length ≤ s.length ∧ T = idsGo (r.length + j + 1) r acc ∧ E 0 = .str r ∧ E 4 = v := ⟨_, rfl⟩
  refine W_loop I ?_ (n := s.length) (by
    rw [hI]
    exact ⟨s, 0, .nils, [], rfl, Kept.start, .inl ⟨rfl, rfl⟩, fun _ => rfl, by simp, hT, rfl, rfl⟩)
  intro k E S hh
  rw [hI] at hh
  obtain ⟨r, j, v, acc, rfl, hk, ho, hne, hal, hTT, h0, h4⟩ := hh
  have hlen : lenPV false v = some (.int .i64 (acc.length : Int)) := by 
    rcases ho with ⟨rfl, h⟩ | ⟨i, rfl, _⟩
    · simp at h; subst h; rfl
    · simp [lenPV]
  have hst : ∀ (n l d : Bs) (B : List (List PV)) T L lo, storePV ⟨B ++ [cA [] [] []], T, L, lo⟩ 3 (.ptr B.length 0) (.agg [.str n, .str l, .str d]) = some ⟨B ++ [cA n l d], T, L, lo⟩ := fun n l d B T L lo => st_aa
  have bad : T = ([], 3) → ∀ (E : Env) (z : List PV), E 2 = .nils → E 3 = .int .i64 3 → Q0 .ret E ⟨S.boxes ++ [z], S.toks, S.loops, S.low⟩ := fun h E z k2 k3 => by
    rw [hQ0, endQ_ret, h]
    exact ⟨.tup [.nils, .int .i64 3], by simp [resOf, rvAll, rv1, k2, k3, notTup, packRes], hk.alloc.leave rfl (fun _ _ => rfl)⟩
  match r, hTT, h0, hal with
  | [], hTT, h0, hal =>
    have e0 : ¬ (([] : Bs) ≠ []) := by simp
    by_cases h64 : 64 < acc.length
    · have e64 : (64 : Int) < (acc.length : Int) := by omega
      have hr : T = ([], 2) := by rw [hTT]; simp [idsGo, h64]
      simp (maxSteps := 1000000) (disch := omega) only [h0, h4, e0, hlen, e64, W_seq, W_region, W_cond, W_block, W_skip, W_label, W_exit, W_goto, W_ret, WO_cons, WO_consG, WO_nil, wantedA_eq, wantB, evOp, ev_tmp, ev_const, ev_fn, WN_some, WN_none, updO_some, updO_none, upd_eq,
 ↓reduceIte, Nat.reduceEqDiff, List.nil_append, List.cons_append, List.append_nil, List.map_cons, List.map_nil, env0_zero, env0_succ, env0_nil, Option.map_some, Option.map_none, seqQ_normal, seqQ_ret, seqQ_exit, seqQ_goto, blockQ_normal, blockQ_ret, blockQ_exit, blockQ_goto, condW_bool, loopQ_ret, loopQ_exit, loopQ_goto, endQ_ret, endQ_normal, keep_mk, keep_st,
 lss_i, leq_i, gtr_i, geq_i, eql_i, neq_i, eql_8, neq_8, lss_8, leq_8, gtr_8, geq_8, eql_s, neq_s, eql_b, neq_b, not_b, by_bys, by_nils, load_cp1, beq_true, beq_false, Bool.not_eq_true', decide_eq_true_eq, decide_eq_false_iff_not, decide_true, decide_false,
 Int.toNat_natCast, Int.ofNat_lt, Int.ofNat_le, Int.natCast_inj, Bool.false_eq_true, Bool.true_eq_false, extPV, List.getElem?_cons_zero, List.getElem?_cons_succ, nilckPV, Int.reduceToNat, Int.reduceLE, true_and, and_true, reduceCtorEq, or_false, false_or, or_true, Option.some.injEq, exists_eq_left', Bool.not_true, Bool.not_false, ne_eq, Int.reduceEq, not_true_eq_false, not_false_eq_true, Int.reduceLT, UInt8.reduceLT, UInt8.reduceLE, UInt8.reduceToNat]
      rw [hQ0, endQ_ret, hr]
      exact ⟨.tup [.nils, .int .i64 2], by simp [resOf, rvAll, rv1, upd_eq, notTup, packRes], hk.leave rfl (fun _ _ => rfl)⟩
    · have e64 : ¬ (64 : Int) < (acc.length : Int) := by omega
      have hr : T = (acc, 0) := by rw [hTT]; simp [idsGo, h64]
      simp (maxSteps := 1000000) (disch := omega) only [h0, h4, e0, hlen, e64, W_seq, W_region, W_cond, W_block, W_skip, W_label, W_exit, W_goto, W_ret, WO_cons, WO_consG, WO_nil, wantedA_eq, wantB, evOp, ev_tmp, ev_const, ev_fn, WN_some, WN_none, updO_some, updO_none, upd_eq,
 ↓reduceIte, Nat.reduceEqDiff, List.nil_append, List.cons_append, List.append_nil, List.map_cons, List.map_nil, env0_zero, env0_succ, env0_nil, Option.map_some, Option.map_none, seqQ_normal, seqQ_ret, seqQ_exit, seqQ_goto, blockQ_normal, blockQ_ret, blockQ_exit, blockQ_goto, condW_bool, loopQ_ret, loopQ_exit, loopQ_goto, endQ_ret, endQ_normal, keep_mk, keep_st,
 lss_i, leq_i, gtr_i, geq_i, eql_i, neq_i, eql_8, neq_8, lss_8, leq_8, gtr_8, geq_8, eql_s, neq_s, eql_b, neq_b, not_b, by_bys, by_nils, load_cp1, beq_true, beq_false, Bool.not_eq_true', decide_eq_true_eq, decide_eq_false_iff_not, decide_true, decide_false,
 Int.toNat_natCast, Int.ofNat_lt, Int.ofNat_le, Int.natCast_inj, Bool.false_eq_true, Bool.true_eq_false, extPV, List.getElem?_cons_zero, List.getElem?_cons_succ, nilckPV, Int.reduceToNat, Int.reduceLE, true_and, and_true, reduceCtorEq, or_false, false_or, or_true, Option.some.injEq, exists_eq_left', Bool.not_true, Bool.not_false, ne_eq, Int.reduceEq, not_true_eq_false, not_false_eq_true, Int.reduceLT, UInt8.reduceLT, UInt8.reduceLE, UInt8.reduceToNat]
      rw [hQ0, endQ_ret, hr]
      refine ⟨.tup [v, .int .i64 0], by rcases ho with ⟨hv, _⟩ | ⟨j, hv, _⟩ <;> simp [resOf, rvAll, rv1, upd_eq, h4, hv, notTup, packRes], ?_⟩
      exact hk.leaveOwn ho (fun h => hne (by simpa using h))
  | c :: t, hTT, h0, hal =>
    have e0 : (c :: t) ≠ [] := by simp
    have hi0 : idxSPV (.str (c :: t)) (.int .i64 0) = some (.b8 c) := by simp [idxSPV, intOf]
    have hlt : (c :: t).length ≤ s.length := by omega
    have hs1 : slcPV 0 (.str (c :: t)) (some (.int .i64 1)) none none = some (.str t) := by
      rw [slc_s_lo (by omega) (by simp)]; rfl
    have next : ∀ (r' : Bs) (v' : PV) (acc' : List Bs) (S' : St) (j' : Nat), r'.length < (c :: t).length → Kept st S' → Own st S' 1 v' (acc'.map .str) → (acc' = [] → v' = .nils) → acc'.length + r'.length ≤ s.length → T = idsGo (r'.length + j' + 1) r' acc' → ∀ E : Env, E 0 = .str r' → E 4 = v' → ∃ m, m < (c :: t).length ∧ I m E S' := fun r' v' acc' S' j' q1 q2 q3 q4 q5 q6 E k0 k4 =>
      ⟨r'.length, q1, by rw [hI]; exact ⟨r', j', v', acc', rfl, q2, q3, q4, q5, q6, k0, k4⟩⟩
    by_cases hb : c = 32 ∨ c = 9
    · have hnx : T = idsGo (t.length + j + 1) t acc := by
        rw [hTT, show (c :: t).length + j + 1 = (t.length + j + 1) + 1 by simp; omega, ids_blank hb]
      by_cases h32 : c = 32
      · have e32 : (c = 32) = True := eq_true h32
        simp (maxSteps := 1000000) (disch := omega) only [h0, h4, eq_true e0, hi0, e32, hs1, loopQ_normal, W_seq, W_region, W_cond, W_block, W_skip, W_label, W_exit, W_goto, W_ret, WO_cons, WO_consG, WO_nil, wantedA_eq, wantB, evOp, ev_tmp, ev_const, ev_fn, WN_some, WN_none, updO_some, updO_none, upd_eq,
 ↓reduceIte, Nat.reduceEqDiff, List.nil_append, List.cons_append, List.append_nil, List.map_cons, List.map_nil, env0_zero, env0_succ, env0_nil, Option.map_some, Option.map_none, seqQ_normal, seqQ_ret, seqQ_exit, seqQ_goto, blockQ_normal, blockQ_ret, blockQ_exit, blockQ_goto, condW_bool, loopQ_ret, loopQ_exit, loopQ_goto, endQ_ret, endQ_normal, keep_mk, keep_st,
 lss_i, leq_i, gtr_i, geq_i, eql_i, neq_i, eql_8, neq_8, lss_8, leq_8, gtr_8, geq_8, eql_s, neq_s, eql_b, neq_b, not_b, by_bys, by_nils, load_cp1, beq_true, beq_false, Bool.not_eq_true', decide_eq_true_eq, decide_eq_false_iff_not, decide_true, decide_false,
 Int.toNat_natCast, Int.ofNat_lt, Int.ofNat_le, Int.natCast_inj, Bool.false_eq_true, Bool.true_eq_false, extPV, List.getElem?_cons_zero, List.getElem?_cons_succ, nilckPV, Int.reduceToNat, Int.reduceLE, true_and, and_true, reduceCtorEq, or_false, false_or, or_true, Option.some.injEq, exists_eq_left', Bool.not_true, Bool.not_false, ne_eq, Int.reduceEq, not_true_eq_false, not_false_eq_true, Int.reduceLT, UInt8.reduceLT, UInt8.reduceLE, UInt8.reduceToNat]
        exact next t v acc S j (by simp) hk ho hne (by simp at hal; omega) hnx _ rfl h4
      · have e9 : (c = 9) = True := eq_true (by rcases hb with h | h; exact absurd h h32; exact h)
        simp (maxSteps := 1000000) (disch := omega) only [h0, h4, eq_true e0, hi0, h32, e9, hs1, loopQ_normal, W_seq, W_region, W_cond, W_block, W_skip, W_label, W_exit, W_goto, W_ret, WO_cons, WO_consG, WO_nil, wantedA_eq, wantB, evOp, ev_tmp, ev_const, ev_fn, WN_some, WN_none, updO_some, updO_none, upd_eq,
 ↓reduceIte, Nat.reduceEqDiff, List.nil_append, List.cons_append, List.append_nil, List.map_cons, List.map_nil, env0_zero, env0_succ, env0_nil, Option.map_some, Option.map_none, seqQ_normal, seqQ_ret, seqQ_exit, seqQ_goto, blockQ_normal, blockQ_ret, blockQ_exit, blockQ_goto, condW_bool, loopQ_ret, loopQ_exit, loopQ_goto, endQ_ret, endQ_normal, keep_mk, keep_st,
 lss_i, leq_i, gtr_i, geq_i, eql_i, neq_i, eql_8, neq_8, lss_8, leq_8, gtr_8, geq_8, eql_s, neq_s, eql_b, neq_b, not_b, by_bys, by_nils, load_cp1, beq_true, beq_false, Bool.not_eq_true', decide_eq_true_eq, decide_eq_false_iff_not, decide_true, decide_false,
 Int.toNat_natCast, Int.ofNat_lt, Int.ofNat_le, Int.natCast_inj, Bool.false_eq_true, Bool.true_eq_false, extPV, List.getElem?_cons_zero, List.getElem?_cons_succ, nilckPV, Int.reduceToNat, Int.reduceLE, true_and, and_true, reduceCtorEq, or_false, false_or, or_true, Option.some.injEq, exists_eq_left', Bool.not_true, Bool.not_false, ne_eq, Int.reduceEq, not_true_eq_false, not_false_eq_true, Int.reduceLT, UInt8.reduceLT, UInt8.reduceLE, UInt8.reduceToNat]
        exact next t v acc S j (by simp) hk ho hne (by simp at hal; omega) hnx _ rfl h4
    · have n32 : ¬ c = 32 := fun h => hb (.inl h)
      have n9 : ¬ c = 9 := fun h => hb (.inr h)
      have hcut : ∀ S : St, call prog (.fn 128 []) [.str (c :: t), .str [62]] S = some (cutAt (c :: t) [62], S) := fun S => Cut_spec (by omega) (by simp)
      have fuel : (c :: t).length + j + 1 = (t.length + j + 1) + 1 := by simp; omega
      rw [fuel] at hTT
      rcases chr_split 62 (c :: t) with ⟨q1, q2⟩ | ⟨n, r, q1, q2⟩
      · have hc1 : cutAt (c :: t) [62] = .tup [.str (c :: t), .str [], .bool false] := by unfold cutAt; rw [q2, if_neg (by decide)]
        rw [hc1] at hcut
        have hT3 : T = ([], 3) := by rw [hTT]; exact ids_no hb (.inl (by rw [q2]; decide))
        have hcp := fun S : St => CutPrefix_spec (st := S) (a := c :: t) (c := 60) (by omega)
        obtain ⟨x, hx⟩ : ∃ x, x = (if (c :: t).head? = some 60 then (c :: t).drop 1 else (c :: t)) := ⟨_, rfl⟩
        have hxl : x.length ≤ 100000000 := by rw [hx]; split <;> simp at hlt ⊢ <;> omega
        rw [← hx] at hcp
        have hP := fun S : St => Plain_spec (st := S) hxl
        obtain ⟨⟨⟨a1, a2, a3⟩, a4⟩, ha⟩ : ∃ q, q = plainA x := ⟨_, rfl⟩
        rw [← ha] at hP
        simp only [aV] at hP
        simp (maxSteps := 1000000) (disch := omega) only [h0, h4, eq_true e0, hi0, n32, n9, hcut, hcp, hP, allocPV, hst, W_seq, W_region, W_cond, W_block, W_skip, W_label, W_exit, W_goto, W_ret, WO_cons, WO_consG, WO_nil, wantedA_eq, wantB, evOp, ev_tmp, ev_const, ev_fn, WN_some, WN_none, updO_some, updO_none, upd_eq,
 ↓reduceIte, Nat.reduceEqDiff, List.nil_append, List.cons_append, List.append_nil, List.map_cons, List.map_nil, env0_zero, env0_succ, env0_nil, Option.map_some, Option.map_none, seqQ_normal, seqQ_ret, seqQ_exit, seqQ_goto, blockQ_normal, blockQ_ret, blockQ_exit, blockQ_goto, condW_bool, loopQ_ret, loopQ_exit, loopQ_goto, endQ_ret, endQ_normal, keep_mk, keep_st,
 lss_i, leq_i, gtr_i, geq_i, eql_i, neq_i, eql_8, neq_8, lss_8, leq_8, gtr_8, geq_8, eql_s, neq_s, eql_b, neq_b, not_b, by_bys, by_nils, load_cp1, beq_true, beq_false, Bool.not_eq_true', decide_eq_true_eq, decide_eq_false_iff_not, decide_true, decide_false,
 Int.toNat_natCast, Int.ofNat_lt, Int.ofNat_le, Int.natCast_inj, Bool.false_eq_true, Bool.true_eq_false, extPV, List.getElem?_cons_zero, List.getElem?_cons_succ, nilckPV, Int.reduceToNat, Int.reduceLE, true_and, and_true, reduceCtorEq, or_false, false_or, or_true, Option.some.injEq, exists_eq_left', Bool.not_true, Bool.not_false, ne_eq, Int.reduceEq, not_true_eq_false, not_false_eq_true, Int.reduceLT, UInt8.reduceLT, UInt8.reduceLE, UInt8.reduceToNat]
        exact bad hT3 _ _ rfl rfl
      · have hix : Lib.index (c :: t) [62] = (n.length : Int) := by rw [q1]; exact index_chr _ _ q2
        have hn62 : n.length + 1 + r.length = (c :: t).length := by rw [q1]; simp; omega
        have hc1 : cutAt (c :: t) [62] = .tup [.str n, .str r, .bool true] := by
          unfold cutAt
          rw [hix, if_pos (by omega), Int.toNat_natCast, q1]
          simp [List.drop_append]
        rw [hc1] at hcut
        have hcp := fun S : St => CutPrefix_spec (st := S) (a := n) (c := 60) (by omega)
        by_cases hh : n.head? = some 60
        · obtain ⟨inner, rfl⟩ : ∃ inner, n = 60 :: inner := by
            cases n with
            | nil => simp at hh
            | cons y z => simp at hh; exact ⟨z, by rw [hh]⟩
          simp only [List.head?_cons, if_true, List.drop_succ_cons, List.drop_zero, decide_true] at hcp
          have hin : ∀ x ∈ inner, x ≠ 62 := fun x hx => q2 x (by simp [hx])
          simp only [List.cons_append, List.cons.injEq] at q1
          obtain ⟨rfl, rfl⟩ := q1
          rw [ids_cut hin] at hTT
          have hxl : inner.length ≤ 100000000 := by simp at hn62 hlt; omega
          have hP := fun S : St => Plain_spec (st := S) hxl
          obtain ⟨⟨⟨a1, a2, a3⟩, a4⟩, ha⟩ : ∃ q, q = plainA inner := ⟨_, rfl⟩
          rw [← ha] at hP hTT
          simp only [aV] at hP
          by_cases h40 : a4 = 0
          · subst h40
            simp only [if_true] at hTT
            have hkb : Kept st ⟨S.boxes ++ [cA a1 a2 a3], S.toks, S.loops, S.low⟩ := hk.alloc
            have hob : Own st ⟨S.boxes ++ [cA a1 a2 a3], S.toks, S.loops, S.low⟩ 1 v (acc.map .str) := ho
            have hx62 : ((60 :: inner).length + ([62] : Bs).length) ≤ 9223372036854775807 := by simp at hn62 hlt ⊢; omega
            obtain ⟨v1, S1, b1, k1, o1, _⟩ := hkb.appV (u := .str (60 :: (inner ++ [62]))) (w := v) hob (by simp only [List.length_map, room]; omega)
            simp (maxSteps := 1000000) (disch := omega) only [h0, h4, eq_true e0, hi0, n32, n9, hcut, hcp, hP, allocPV, hst, adds hx62, lit_s, freshT_eq, b1, loopQ_normal, W_seq, W_region, W_cond, W_block, W_skip, W_label, W_exit, W_goto, W_ret, WO_cons, WO_consG, WO_nil, wantedA_eq, wantB, evOp, ev_tmp, ev_const, ev_fn, WN_some, WN_none, updO_some, updO_none, upd_eq,
 ↓reduceIte, Nat.reduceEqDiff, List.nil_append, List.cons_append, List.append_nil, List.map_cons, List.map_nil, env0_zero, env0_succ, env0_nil, Option.map_some, Option.map_none, seqQ_normal, seqQ_ret, seqQ_exit, seqQ_goto, blockQ_normal, blockQ_ret, blockQ_exit, blockQ_goto, condW_bool, loopQ_ret, loopQ_exit, loopQ_goto, endQ_ret, endQ_normal, keep_mk, keep_st,
 lss_i, leq_i, gtr_i, geq_i, eql_i, neq_i, eql_8, neq_8, lss_8, leq_8, gtr_8, geq_8, eql_s, neq_s, eql_b, neq_b, not_b, by_bys, by_nils, load_cp1, beq_true, beq_false, Bool.not_eq_true', decide_eq_true_eq, decide_eq_false_iff_not, decide_true, decide_false,
 Int.toNat_natCast, Int.ofNat_lt, Int.ofNat_le, Int.natCast_inj, Bool.false_eq_true, Bool.true_eq_false, extPV, List.getElem?_cons_zero, List.getElem?_cons_succ, nilckPV, Int.reduceToNat, Int.reduceLE, true_and, and_true, reduceCtorEq, or_false, false_or, or_true, Option.some.injEq, exists_eq_left', Bool.not_true, Bool.not_false, ne_eq, Int.reduceEq, not_true_eq_false, not_false_eq_true, Int.reduceLT, UInt8.reduceLT, UInt8.reduceLE, UInt8.reduceToNat]
            exact next r v1 (acc ++ [60 :: (inner ++ [62])]) S1 ((inner ++ 62 :: r).length + j - r.length) (by simp at hn62 ⊢; omega) k1 (by rw [List.map_append]; exact o1) (fun h => by simp at h) (by simp at hal hn62 ⊢; omega) (by rw [hTT]; congr 1; simp at hn62 ⊢; omega) _ rfl rfl
          · rw [if_neg h40] at hTT
            simp (maxSteps := 1000000) (disch := omega) only [h0, h4, eq_true e0, hi0, n32, n9, hcut, hcp, hP, allocPV, hst, h40, W_seq, W_region, W_cond, W_block, W_skip, W_label, W_exit, W_goto, W_ret, WO_cons, WO_consG, WO_nil, wantedA_eq, wantB, evOp, ev_tmp, ev_const, ev_fn, WN_some, WN_none, updO_some, updO_none, upd_eq,
 ↓reduceIte, Nat.reduceEqDiff, List.nil_append, List.cons_append, List.append_nil, List.map_cons, List.map_nil, env0_zero, env0_succ, env0_nil, Option.map_some, Option.map_none, seqQ_normal, seqQ_ret, seqQ_exit, seqQ_goto, blockQ_normal, blockQ_ret, blockQ_exit, blockQ_goto, condW_bool, loopQ_ret, loopQ_exit, loopQ_goto, endQ_ret, endQ_normal, keep_mk, keep_st,
 lss_i, leq_i, gtr_i, geq_i, eql_i, neq_i, eql_8, neq_8, lss_8, leq_8, gtr_8, geq_8, eql_s, neq_s, eql_b, neq_b, not_b, by_bys, by_nils, load_cp1, beq_true, beq_false, Bool.not_eq_true', decide_eq_true_eq, decide_eq_false_iff_not, decide_true, decide_false,
 Int.toNat_natCast, Int.ofNat_lt, Int.ofNat_le, Int.natCast_inj, Bool.false_eq_true, Bool.true_eq_false, extPV, List.getElem?_cons_zero, List.getElem?_cons_succ, nilckPV, Int.reduceToNat, Int.reduceLE, true_and, and_true, reduceCtorEq, or_false, false_or, or_true, Option.some.injEq, exists_eq_left', Bool.not_true, Bool.not_false, ne_eq, Int.reduceEq, not_true_eq_false, not_false_eq_true, Int.reduceLT, UInt8.reduceLT, UInt8.reduceLE, UInt8.reduceToNat]
            exact bad hTT _ _ rfl rfl
        · rw [if_neg hh, show decide (n.head? = some 60) = false from decide_eq_false hh] at hcp
          have hT3 : T = ([], 3) := by
            rw [hTT]
            refine ids_no hb (.inr ?_)
            rintro rfl
            cases n with
            | nil => simp at q1
            | cons y z => simp at q1 hh; exact hh q1.1.symm
          have hP := fun S : St => Plain_spec (st := S) (s := n) (by omega)
          obtain ⟨⟨⟨a1, a2, a3⟩, a4⟩, ha⟩ : ∃ q, q = plainA n := ⟨_, rfl⟩
          rw [← ha] at hP
          simp only [aV] at hP
          simp (maxSteps := 1000000) (disch := omega) only [h0, h4, eq_true e0, hi0, n32, n9, hcut, hcp, hP, allocPV, hst, W_seq, W_region, W_cond, W_block, W_skip, W_label, W_exit, W_goto, W_ret, WO_cons, WO_consG, WO_nil, wantedA_eq, wantB, evOp, ev_tmp, ev_const, ev_fn, WN_some, WN_none, updO_some, updO_none, upd_eq,
 ↓reduceIte, Nat.reduceEqDiff, List.nil_append, List.cons_append, List.append_nil, List.map_cons, List.map_nil, env0_zero, env0_succ, env0_nil, Option.map_some, Option.map_none, seqQ_normal, seqQ_ret, seqQ_exit, seqQ_goto, blockQ_normal, blockQ_ret, blockQ_exit, blockQ_goto, condW_bool, loopQ_ret, loopQ_exit, loopQ_goto, endQ_ret, endQ_normal, keep_mk, keep_st,
 lss_i, leq_i, gtr_i, geq_i, eql_i, neq_i, eql_8, neq_8, lss_8, leq_8, gtr_8, geq_8, eql_s, neq_s, eql_b, neq_b, not_b, by_bys, by_nils, load_cp1, beq_true, beq_false, Bool.not_eq_true', decide_eq_true_eq, decide_eq_false_iff_not, decide_true, decide_false,
 Int.toNat_natCast, Int.ofNat_lt, Int.ofNat_le, Int.natCast_inj, Bool.false_eq_true, Bool.true_eq_false, extPV, List.getElem?_cons_zero, List.getElem?_cons_succ, nilckPV, Int.reduceToNat, Int.reduceLE, true_and, and_true, reduceCtorEq, or_false, false_or, or_true, Option.some.injEq, exists_eq_left', Bool.not_true, Bool.not_false, ne_eq, Int.reduceEq, not_true_eq_false, not_false_eq_true, Int.reduceLT, UInt8.reduceLT, UInt8.reduceLE, UInt8.reduceToNat]
          exact bad hT3 _ _ rfl rfl

theorem ids_two {a b c k : Nat} {d : Bs} {m : Nat} (ha : a < 2 ^ 63) (hb : b < 2 ^ 63) (hc : c < 2 ^ 63) (hk : k < 2 ^ 63) (hd : rightA ([], [120], d) = true) :
    idsOf (idT a b d ++ idT c k d) = ([idT a b d, idT c k d], 0) ∧ idsOf (32 :: (idT a b d ++ [9] ++ idT c k d ++ [32])) = ([idT a b d, idT c k d], 0) := by
  have l1 : 0 < (idT a b d).length := by simp [idT]
  have l2 : 0 < (idT c k d).length := by simp [idT]
  constructor
  · unfold idsOf
    obtain ⟨p, hp⟩ : ∃ p, (idT a b d ++ idT c k d).length + 1 = (p + 1) + 1 + 1 := ⟨(idT a b d).length + (idT c k d).length - 2, by simp; omega⟩
    rw [hp, ids_one ha hb hd, show idT c k d = idT c k d ++ [] by simp, ids_one hc hk hd]
    simp [idsGo]
  · unfold idsOf
    obtain ⟨p, hp⟩ : ∃ p, (32 :: (idT a b d ++ [9] ++ idT c k d ++ [32])).length + 1 = p + 1 + 1 + 1 + 1 + 1 + 1 := ⟨(idT a b d).length + (idT c k d).length - 2, by simp; omega⟩
    rw [hp, show (32 :: (idT a b d ++ [9] ++ idT c k d ++ [32]) : Bs) = 32 :: (idT a b d ++ (9 :: (idT c k d ++ [32]))) by simp, ids_blank (.inl rfl), ids_one ha hb hd, ids_blank (.inr rfl), ids_one hc hk hd, ids_blank (.inl rfl)]
    simp [idsGo]

theorem al20_2 : evV prog 400 (.fn 260 []) [] ⟨[], [true, true], [], 0⟩ = some (.bool true, ⟨[], [true, true], [], 0⟩) := by kernel_rfl

set_option maxHeartbeats 2000000 in
theorem law_DateUnlike {t u m n : Int} {d : Bs} (hm : m < 9223372036854775808) (hn : n < 9223372036854775808) :
    ∃ s', call prog (.fn 272 []) [.int .i64 t, .int .i64 u, .int .i64 m, .int .i64 n, .str d] ⟨[], [], [], 0⟩ = some (.bool true, s') := by
  refine law_of_W prog_272 rfl ?_
  unfold F_posthornlaw20_DateUnlike; dsimp only
  have hA := call_of al20_0
  have hA2 := call_of al20_2
  by_cases h6 : 600 < d.length
  · have e6 : (600 : Int) < (d.length : Int) := by omega
    simp (maxSteps := 1000000) (disch := omega) only [len_s, e6, hA, List.length_nil, W_seq, W_region, W_cond, W_block, W_skip, W_label, W_exit, W_goto, W_ret, WO_cons, WO_consG, WO_nil, wantedA_eq, wantB, evOp, ev_tmp, ev_const, ev_fn, WN_some, WN_none, updO_some, updO_none, upd_eq,
 ↓reduceIte, Nat.reduceEqDiff, List.nil_append, List.cons_append, List.append_nil, List.map_cons, List.map_nil, env0_zero, env0_succ, env0_nil, Option.map_some, Option.map_none, seqQ_normal, seqQ_ret, seqQ_exit, seqQ_goto, blockQ_normal, blockQ_ret, blockQ_exit, blockQ_goto, condW_bool, loopQ_ret, loopQ_exit, loopQ_goto, endQ_ret, endQ_normal, keep_mk, keep_st,
 lss_i, leq_i, gtr_i, geq_i, eql_i, neq_i, eql_8, neq_8, lss_8, leq_8, gtr_8, geq_8, eql_s, neq_s, eql_b, neq_b, not_b, by_bys, by_nils, load_cp1, beq_true, beq_false, Bool.not_eq_true', decide_eq_true_eq, decide_eq_false_iff_not, decide_true, decide_false,
 Int.toNat_natCast, Int.ofNat_lt, Int.ofNat_le, Int.natCast_inj, Bool.false_eq_true, Bool.true_eq_false, extPV, List.getElem?_cons_zero, List.getElem?_cons_succ, nilckPV, Int.reduceToNat, Int.reduceLE, true_and, and_true, reduceCtorEq, or_false, false_or, or_true, Option.some.injEq, exists_eq_left', Bool.not_true, Bool.not_false, ne_eq, Int.reduceEq, not_true_eq_false, not_false_eq_true, Int.reduceLT, UInt8.reduceLT, UInt8.reduceLE, UInt8.reduceToNat]
  have e6 : ¬ (600 : Int) < (d.length : Int) := by omega
  have hI1 := fun S : St => ID_spec (st := S) (t := t) (c := m) (d := d) (by omega) hm
  have hI2 := fun S : St => ID_spec (st := S) (t := u) (c := n) (d := d) (by omega) hn
  by_cases g1 : (0 ≤ t ∧ t ≤ 253402300799) ∧ 0 ≤ m ∧ rightA ([], [120], d) = true
  · rw [show idV t m d = (idT t.toNat m.toNat d, 0) by unfold idV; rw [if_pos g1]] at hI1
    by_cases g2 : (0 ≤ u ∧ u ≤ 253402300799) ∧ 0 ≤ n ∧ rightA ([], [120], d) = true
    · rw [show idV u n d = (idT u.toNat n.toNat d, 0) by unfold idV; rw [if_pos g2]] at hI2
      obtain ⟨p1, p2⟩ := ids_two (a := t.toNat) (b := m.toNat) (c := u.toNat) (k := n.toNat) (d := d) (m := 0) (by omega) (by omega) (by omega) (by omega) g1.2.2
      have hAB : (idT t.toNat m.toNat d = idT u.toNat n.toNat d) = (t = u ∧ m = n) := by
        rw [id_inj]; apply propext; omega
      have lA : (idT t.toNat m.toNat d).length ≤ 700 := by
        have := sg_len 12 t.toNat (Nat.lt_of_lt_of_le (show t.toNat < 9223372036854775808 by omega) (by decide))
        have := sg_len 12 m.toNat (Nat.lt_of_lt_of_le (show m.toNat < 9223372036854775808 by omega) (by decide))
        simp [idT, locT]; omega
      have lB : (idT u.toNat n.toNat d).length ≤ 700 := by
        have := sg_len 12 u.toNat (Nat.lt_of_lt_of_le (show u.toNat < 9223372036854775808 by omega) (by decide))
        have := sg_len 12 n.toNat (Nat.lt_of_lt_of_le (show n.toNat < 9223372036854775808 by omega) (by decide))
        simp [idT, locT]; omega
      obtain ⟨A, hAe⟩ : ∃ A, A = idT t.toNat m.toNat d := ⟨_, rfl⟩
      obtain ⟨B, hBe⟩ : ∃ B, B = idT u.toNat n.toNat d := ⟨_, rfl⟩
      rw [← hAe] at hI1 p1 p2 hAB lA
      rw [← hBe] at hI2 p1 p2 hAB lB
      have q1 := fun S : St => IDs_spec (st := S) (s := A ++ B) (by simp; omega)
      have q2 := fun S : St => IDs_spec (st := S) (s := 32 :: (A ++ [9] ++ B ++ [32])) (by simp; omega)
      simp only [p1, p2, List.map_cons, List.map_nil, List.isEmpty_cons, newS_eq, newSl, reduceCtorEq, if_false] at q1 q2
      have z1 : ∀ i : Nat, lenPV false (.sl 1 (.own i) [.str A, .str B]) = some (.int .i64 2) := fun _ => rfl
      have z2 : ∀ i : Nat, iaddrPV 1 (.sl 1 (.own i) [.str A, .str B]) (.int .i64 0) = some (.cp [.str A]) := fun _ => rfl
      have z3 : ∀ i : Nat, iaddrPV 1 (.sl 1 (.own i) [.str A, .str B]) (.int .i64 1) = some (.cp [.str B]) := fun _ => rfl
      have s1 : ∀ T L lo, call prog (.fn 267 []) [.str (A ++ B)] ⟨[], T, L, lo⟩ = some (.tup [.sl 1 (.own T.length) [.str A, .str B], .int .i64 0], ⟨[], T ++ [true], L, lo⟩) := fun T L lo => by rw [q1]; rfl
      have s2 : ∀ T L lo, call prog (.fn 267 []) [.str (32 :: (A ++ [9] ++ B ++ [32]))] ⟨[], T, L, lo⟩ = some (.tup [.sl 1 (.own T.length) [.str A, .str B], .int .i64 0], ⟨[], T ++ [true], L, lo⟩) := fun T L lo => by rw [q2]; rfl
      have a1 : binPV .add .no (.str A) (.str B) = some (.str (A ++ B)) := adds (by omega)
      have a2 : binPV .add .no (.str [32]) (.str A) = some (.str (32 :: A)) := adds (by simp; omega)
      have a3 : binPV .add .no (.str (32 :: A)) (.str [9]) = some (.str (32 :: (A ++ [9]))) := adds (by simp; omega)
      have a4 : binPV .add .no (.str (32 :: (A ++ [9]))) (.str B) = some (.str (32 :: (A ++ [9] ++ B))) := adds (by simp; omega)
      have a5 : binPV .add .no (.str (32 :: (A ++ [9] ++ B))) (.str [32]) = some (.str (32 :: (A ++ [9] ++ B ++ [32]))) := adds (by simp; omega)
      clear q1 q2 hAe hBe p1 p2
      by_cases w1 : t = u
      · by_cases w2 : m = n
        · have hABt : A = B := by rw [hAB]; exact ⟨w1, w2⟩
          simp (maxSteps := 1000000) (disch := omega) only [len_s, e6, hI1, hI2, a1, a2, a3, a4, a5, s1, s2, z1, z2, z3, eq_true w1, eq_true w2, eq_true hABt, hA2, List.length_nil, List.length_cons, Nat.zero_add, W_seq, W_region, W_cond, W_block, W_skip, W_label, W_exit, W_goto, W_ret, WO_cons, WO_consG, WO_nil, wantedA_eq, wantB, evOp, ev_tmp, ev_const, ev_fn, WN_some, WN_none, updO_some, updO_none, upd_eq,
 ↓reduceIte, Nat.reduceEqDiff, List.nil_append, List.cons_append, List.append_nil, List.map_cons, List.map_nil, env0_zero, env0_succ, env0_nil, Option.map_some, Option.map_none, seqQ_normal, seqQ_ret, seqQ_exit, seqQ_goto, blockQ_normal, blockQ_ret, blockQ_exit, blockQ_goto, condW_bool, loopQ_ret, loopQ_exit, loopQ_goto, endQ_ret, endQ_normal, keep_mk, keep_st,
 lss_i, leq_i, gtr_i, geq_i, eql_i, neq_i, eql_8, neq_8, lss_8, leq_8, gtr_8, geq_8, eql_s, neq_s, eql_b, neq_b, not_b, by_bys, by_nils, load_cp1, beq_true, beq_false, Bool.not_eq_true', decide_eq_true_eq, decide_eq_false_iff_not, decide_true, decide_false,
 Int.toNat_natCast, Int.ofNat_lt, Int.ofNat_le, Int.natCast_inj, Bool.false_eq_true, Bool.true_eq_false, extPV, List.getElem?_cons_zero, List.getElem?_cons_succ, nilckPV, Int.reduceToNat, Int.reduceLE, true_and, and_true, reduceCtorEq, or_false, false_or, or_true, Option.some.injEq, exists_eq_left', Bool.not_true, Bool.not_false, ne_eq, Int.reduceEq, not_true_eq_false, not_false_eq_true, Int.reduceLT, UInt8.reduceLT, UInt8.reduceLE, UInt8.reduceToNat]
        · have hABf : ¬ A = B := fun h => w2 (hAB ▸ h).2
          simp (maxSteps := 1000000) (disch := omega) only [len_s, e6, hI1, hI2, a1, a2, a3, a4, a5, s1, s2, z1, z2, z3, eq_true w1, w2, hABf, hA2, List.length_nil, List.length_cons, Nat.zero_add, W_seq, W_region, W_cond, W_block, W_skip, W_label, W_exit, W_goto, W_ret, WO_cons, WO_consG, WO_nil, wantedA_eq, wantB, evOp, ev_tmp, ev_const, ev_fn, WN_some, WN_none, updO_some, updO_none, upd_eq,
 ↓reduceIte, Nat.reduceEqDiff, List.nil_append, List.cons_append, List.append_nil, List.map_cons, List.map_nil, env0_zero, env0_succ, env0_nil, Option.map_some, Option.map_none, seqQ_normal, seqQ_ret, seqQ_exit, seqQ_goto, blockQ_normal, blockQ_ret, blockQ_exit, blockQ_goto, condW_bool, loopQ_ret, loopQ_exit, loopQ_goto, endQ_ret, endQ_normal, keep_mk, keep_st,
 lss_i, leq_i, gtr_i, geq_i, eql_i, neq_i, eql_8, neq_8, lss_8, leq_8, gtr_8, geq_8, eql_s, neq_s, eql_b, neq_b, not_b, by_bys, by_nils, load_cp1, beq_true, beq_false, Bool.not_eq_true', decide_eq_true_eq, decide_eq_false_iff_not, decide_true, decide_false,
 Int.toNat_natCast, Int.ofNat_lt, Int.ofNat_le, Int.natCast_inj, Bool.false_eq_true, Bool.true_eq_false, extPV, List.getElem?_cons_zero, List.getElem?_cons_succ, nilckPV, Int.reduceToNat, Int.reduceLE, true_and, and_true, reduceCtorEq, or_false, false_or, or_true, Option.some.injEq, exists_eq_left', Bool.not_true, Bool.not_false, ne_eq, Int.reduceEq, not_true_eq_false, not_false_eq_true, Int.reduceLT, UInt8.reduceLT, UInt8.reduceLE, UInt8.reduceToNat]
      · have hABf : ¬ A = B := fun h => w1 (hAB ▸ h).1
        simp (maxSteps := 1000000) (disch := omega) only [len_s, e6, hI1, hI2, a1, a2, a3, a4, a5, s1, s2, z1, z2, z3, w1, hABf, hA2, List.length_nil, List.length_cons, Nat.zero_add, W_seq, W_region, W_cond, W_block, W_skip, W_label, W_exit, W_goto, W_ret, WO_cons, WO_consG, WO_nil, wantedA_eq, wantB, evOp, ev_tmp, ev_const, ev_fn, WN_some, WN_none, updO_some, updO_none, upd_eq,
 ↓reduceIte, Nat.reduceEqDiff, List.nil_append, List.cons_append, List.append_nil, List.map_cons, List.map_nil, env0_zero, env0_succ, env0_nil, Option.map_some, Option.map_none, seqQ_normal, seqQ_ret, seqQ_exit, seqQ_goto, blockQ_normal, blockQ_ret, blockQ_exit, blockQ_goto, condW_bool, loopQ_ret, loopQ_exit, loopQ_goto, endQ_ret, endQ_normal, keep_mk, keep_st,
 lss_i, leq_i, gtr_i, geq_i, eql_i, neq_i, eql_8, neq_8, lss_8, leq_8, gtr_8, geq_8, eql_s, neq_s, eql_b, neq_b, not_b, by_bys, by_nils, load_cp1, beq_true, beq_false, Bool.not_eq_true', decide_eq_true_eq, decide_eq_false_iff_not, decide_true, decide_false,
 Int.toNat_natCast, Int.ofNat_lt, Int.ofNat_le, Int.natCast_inj, Bool.false_eq_true, Bool.true_eq_false, extPV, List.getElem?_cons_zero, List.getElem?_cons_succ, nilckPV, Int.reduceToNat, Int.reduceLE, true_and, and_true, reduceCtorEq, or_false, false_or, or_true, Option.some.injEq, exists_eq_left', Bool.not_true, Bool.not_false, ne_eq, Int.reduceEq, not_true_eq_false, not_false_eq_true, Int.reduceLT, UInt8.reduceLT, UInt8.reduceLE, UInt8.reduceToNat]
    · rw [show idV u n d = ([], 1) by unfold idV; rw [if_neg g2]] at hI2
      simp (maxSteps := 1000000) (disch := omega) only [len_s, e6, hI1, hI2, hA, List.length_nil, W_seq, W_region, W_cond, W_block, W_skip, W_label, W_exit, W_goto, W_ret, WO_cons, WO_consG, WO_nil, wantedA_eq, wantB, evOp, ev_tmp, ev_const, ev_fn, WN_some, WN_none, updO_some, updO_none, upd_eq,
 ↓reduceIte, Nat.reduceEqDiff, List.nil_append, List.cons_append, List.append_nil, List.map_cons, List.map_nil, env0_zero, env0_succ, env0_nil, Option.map_some, Option.map_none, seqQ_normal, seqQ_ret, seqQ_exit, seqQ_goto, blockQ_normal, blockQ_ret, blockQ_exit, blockQ_goto, condW_bool, loopQ_ret, loopQ_exit, loopQ_goto, endQ_ret, endQ_normal, keep_mk, keep_st,
 lss_i, leq_i, gtr_i, geq_i, eql_i, neq_i, eql_8, neq_8, lss_8, leq_8, gtr_8, geq_8, eql_s, neq_s, eql_b, neq_b, not_b, by_bys, by_nils, load_cp1, beq_true, beq_false, Bool.not_eq_true', decide_eq_true_eq, decide_eq_false_iff_not, decide_true, decide_false,
 Int.toNat_natCast, Int.ofNat_lt, Int.ofNat_le, Int.natCast_inj, Bool.false_eq_true, Bool.true_eq_false, extPV, List.getElem?_cons_zero, List.getElem?_cons_succ, nilckPV, Int.reduceToNat, Int.reduceLE, true_and, and_true, reduceCtorEq, or_false, false_or, or_true, Option.some.injEq, exists_eq_left', Bool.not_true, Bool.not_false, ne_eq, Int.reduceEq, not_true_eq_false, not_false_eq_true, Int.reduceLT, UInt8.reduceLT, UInt8.reduceLE, UInt8.reduceToNat]
  · rw [show idV t m d = ([], 1) by unfold idV; rw [if_neg g1]] at hI1
    simp (maxSteps := 1000000) (disch := omega) only [len_s, e6, hI1, hI2, hA, List.length_nil, W_seq, W_region, W_cond, W_block, W_skip, W_label, W_exit, W_goto, W_ret, WO_cons, WO_consG, WO_nil, wantedA_eq, wantB, evOp, ev_tmp, ev_const, ev_fn, WN_some, WN_none, updO_some, updO_none, upd_eq,
 ↓reduceIte, Nat.reduceEqDiff, List.nil_append, List.cons_append, List.append_nil, List.map_cons, List.map_nil, env0_zero, env0_succ, env0_nil, Option.map_some, Option.map_none, seqQ_normal, seqQ_ret, seqQ_exit, seqQ_goto, blockQ_normal, blockQ_ret, blockQ_exit, blockQ_goto, condW_bool, loopQ_ret, loopQ_exit, loopQ_goto, endQ_ret, endQ_normal, keep_mk, keep_st,
 lss_i, leq_i, gtr_i, geq_i, eql_i, neq_i, eql_8, neq_8, lss_8, leq_8, gtr_8, geq_8, eql_s, neq_s, eql_b, neq_b, not_b, by_bys, by_nils, load_cp1, beq_true, beq_false, Bool.not_eq_true', decide_eq_true_eq, decide_eq_false_iff_not, decide_true, decide_false,
 Int.toNat_natCast, Int.ofNat_lt, Int.ofNat_le, Int.natCast_inj, Bool.false_eq_true, Bool.true_eq_false, extPV, List.getElem?_cons_zero, List.getElem?_cons_succ, nilckPV, Int.reduceToNat, Int.reduceLE, true_and, and_true, reduceCtorEq, or_false, false_or, or_true, Option.some.injEq, exists_eq_left', Bool.not_true, Bool.not_false, ne_eq, Int.reduceEq, not_true_eq_false, not_false_eq_true, Int.reduceLT, UInt8.reduceLT, UInt8.reduceLE, UInt8.reduceToNat]
end Go.Ab

/-
  The library's searches as primitives, out of the shelf's contracts.
-/
namespace Go.Ab
open Go.Shelf Go.Proofs
set_option linter.unusedVariables false
set_option linter.unusedSimpArgs false
variable {P : Program} {g : GMap} {ρ : Go.Shelf.Ren}

def numsOf (a : List UInt8) : List Int := a.map fun b => (b.toNat : Int)
theorem bytesOf_nums (a : List UInt8) : Lib.bytesOf (numsOf a) = a := by
  simp [Lib.bytesOf, numsOf, Function.comp_def]
theorem nums_range (a : List UInt8) : ∀ x ∈ numsOf a, 0 ≤ x ∧ x < 256 := by
  intro x hx
  simp only [numsOf, List.mem_map] at hx
  obtain ⟨b, _, rfl⟩ := hx
  have := b.toNat_lt
  omega
theorem nums_getD (a : List UInt8) {i : Nat} (h : i < a.length) : (numsOf a).getD i 0 = ((a[i]).toNat : Int) := by
  simp [numsOf, List.getD, h]

theorem cells_of {κ : K} {w : World} (hC : ∀ b i u, κ.C b i = some u → w.cell? ⟨b, i, none⟩ = some u) {blk off : Nat} {a : List UInt8} (hb : ∀ (i : Nat) (b : UInt8), a[i]? = some b → κ.C blk (off + i) = some (.int .u8 b.toNat)) :
    ∀ i, i < a.length → w.cell? ((⟨blk, off, none⟩ : Addr).add i) = some (.int .u8 ((numsOf a).getD i 0)) := by
  intro i hi
  rw [add_eq, nums_getD a hi]
  exact hC _ _ _ (hb i _ (by simp [hi]))

theorem primIndex (L : Lays.n185 P ρ) (hm : ∀ κ, g.inv κ → ∃ m, κ.C (ρ.g 1) 0 = some (.int .i64 m)) {pf : Func} (hpf : P.funcs[ρ.f 185]? = some pf) (hb : pf.body.isSome = true) (hn : pf.name ≠ "runtime.NumGoroutine") : PrimOK P g (ρ.f 185) pBytesIndex := by
  refine prim_of_calls hpf hb hn (fun κ w args ps v hi hC hsz hargs hp => ?_)
  obtain ⟨m, hm⟩ := hm κ hi
  have hmc := hC _ _ _ hm
  match ps, hp with
  | [x, y], hp =>
    simp only [pBytesIndex] at hp
    cases hx : x.by with
    | none => simp [hx] at hp
    | some a =>
      cases hy : y.by with
      | none => simp [hx, hy] at hp
      | some b =>
        simp only [hx, hy] at hp
        split at hp
        · rename_i hlen
          cases hp
          obtain ⟨u1, u2, rfl⟩ : ∃ u1 u2, args = #[u1, u2] := by
            obtain ⟨l⟩ := args
            match l, hsz with
            | [u1, u2], _ => exact ⟨u1, u2, rfl⟩
          have r1 := hargs 0 u1 x rfl rfl
          have r2 := hargs 1 u2 y rfl rfl
          have post : ∀ (n : Int), n = Lib.index a b → ∀ (e : Ending) (w' : World), (e = .returned (.int .i64 n) ∧ ∃ q, w' = w.drewN q) → ∃ z, e = .returned z ∧ (∀ κ', R g κ' z (.int .i64 (Lib.index a b))) ∧ w'.heap = w.heap ∧ w'.os = w.os ∧ w'.tape = w.tape ∧ w'.output = w.output := by
            rintro n rfl e w' ⟨rfl, q, rfl⟩
            exact ⟨_, rfl, fun κ' => .int .i64 _ (by decide), rfl, rfl, rfl, rfl⟩
          have post0 : ∀ (n : Int), n = Lib.index a b → ∀ (e : Ending) (w' : World), (e = .returned (.int .i64 n) ∧ w' = w) → ∃ z, e = .returned z ∧ (∀ κ', R g κ' z (.int .i64 (Lib.index a b))) ∧ w'.heap = w.heap ∧ w'.os = w.os ∧ w'.tape = w.tape ∧ w'.output = w.output := by
            rintro n rfl e w' ⟨rfl, rfl⟩
            exact ⟨_, rfl, fun κ' => .int .i64 _ (by decide), rfl, rfl, rfl, rfl⟩
          rcases by_cases' hx with ⟨rfl, rfl⟩ | ⟨t, rfl⟩
          · cases r1
            rcases by_cases' hy with ⟨rfl, rfl⟩ | ⟨t2, rfl⟩
            · cases r2
              exact (Any.bytes_Index_none L none none 0 0 0 w).mono (post0 0 (by simp [Lib.index]))
            · cases r2 with
              | bys blk off n c _ _ h1 h2 h3 h4 _ =>
                subst h1
                refine (Any.bytes_Index_nil L (some ⟨blk, off, none⟩) b.length c w (by omega) (fun h1 => ?_)).mono (post0 _ ?_)
                · have := cells_of hC h3 0 (by omega)
                  rw [add_eq] at this
                  exact ⟨blk, off, _, rfl, this⟩
                · cases b <;> simp [Lib.index]
          · cases r1 with
            | bys blk off n c _ _ h1 h2 h3 h4 _ =>
              subst h1
              rcases by_cases' hy with ⟨rfl, rfl⟩ | ⟨t2, rfl⟩
              · cases r2
                exact (Any.bytes_Index_none L (some ⟨blk, off, none⟩) none a.length c 0 w).mono (post0 0 (Lib.index_empty a).symm)
              · cases r2 with
                | bys blk2 off2 n2 c2 _ _ k1 k2 k3 k4 _ =>
                  subst k1
                  refine (Any.bytes_Index_at L ⟨blk, off, none⟩ ⟨blk2, off2, none⟩ a.length c b.length c2 (numsOf a) (numsOf b) m w (by simp [numsOf]) (by simp [numsOf]) (nums_range a) (nums_range b) (cells_of hC h3) (cells_of hC k3) h2 hlen.1 (by omega) hmc).mono (post _ ?_)
                  rw [bytesOf_nums, bytesOf_nums]
        · cases hp
  | [], hp => simp [pBytesIndex] at hp
  | [_], hp => simp [pBytesIndex] at hp
  | _ :: _ :: _ :: _, hp => simp [pBytesIndex] at hp
end Go.Ab

/-
  A Builder's text: the walk of the library's function, its end said whole (after the shelf's own proof).
-/
namespace Go.Proofs
open Go.Shelf Go.RowKit
set_option linter.unusedVariables false
variable {P : Program} {ρ : Ren}

set_option maxHeartbeats 2000000 in
set_option maxRecDepth 100000 in
/-- A Builder's text, and all that turns: the shelf's proof, its end turned. -/
theorem bstring_walk (L : Lays.n169 P ρ) (X : Builder.Extra P ρ) (b g cap cells : Nat) (l : List UInt8) (w : World) (h0 : l ≠ []) (hcap : l.length ≤ cap) (hcc : l.length ≤ cells) (hmax : l.length ≤ 9223372036854775807)
    (hb : w.cell? ⟨b, 1, none⟩ = some (.slice (some ⟨g, 0, none⟩) l.length cap)) (hsh : w.shape? g = some (ρ.t 5, cells)) (hcell : ∀ j x, l[j]? = some x → w.cell? ⟨g, j, none⟩ = some (.int .u8 x.toNat)) :
    Calls P (ρ.f 169) #[.pointer (some ⟨b, 0, none⟩)] w fun e w' => e = .returned (.string ⟨l.toArray⟩) ∧ w' = w.drew.freeze ⟨g, 0, none⟩ l.length := by
  have hl0 : l.length ≠ 0 := by simpa using h0
  have c1 : w.drew.cell? ⟨b, 1, none⟩ = some (.slice (some ⟨g, 0, none⟩) l.length cap) := hb
  have hSD : (Builtin.unsafeSliceData_ #[(ρ.t 37)] (ρ.t 127) #[.slice (some ⟨g, 0, none⟩) l.length cap]).run P w.drew = .ok (.pointer (some ⟨g, 0, none⟩)) w.drew :=
    Lib.run_unsafeSliceData_row _ _ _ _ _ _ (by omega)
  have hUS : (Builtin.unsafeString_ #[(ρ.t 127), (ρ.t 3)] (ρ.t 9) #[.pointer (some ⟨g, 0, none⟩), .int .i64 l.length]).run P w.drew = .ok (.string ⟨l.toArray⟩) (w.drew.freeze ⟨g, 0, none⟩ l.length) := by
    refine Lib.run_unsafeString_row w.drew (ρ.t 127) (ρ.t 3) (ρ.t 9) (ρ.t 5) L.t127 X.cellsByte g cells hsh l h0 hcc hmax ?_
    intro j x hx
    have := hcell j x hx
    simp only [Addr.add]
    split
    · rename_i h; subst h; exact this
    · simpa using this
  clear hcell hsh hb
  have mixed := L.mixed
  have t72 := L.t72; have a72 := L.a72; have z72 := L.z72; have v72 := L.v72; have u72 := run_underlying L.t72
  have t70 := L.t70; have a70 := L.a70; have z70 := L.z70; have v70 := L.v70; have u70 := run_underlying L.t70
  have t37 := L.t37; have a37 := L.a37; have z37 := L.z37; have v37 := L.v37; have u37 := run_underlying L.t37
  have t127 := L.t127; have a127 := L.a127; have z127 := L.z127; have v127 := L.v127; have u127 := run_underlying L.t127
  have t3 := L.t3; have a3 := L.a3; have z3 := L.z3; have v3 := L.v3; have u3 := run_underlying L.t3
  have t9 := L.t9; have a9 := L.a9; have z9 := L.z9; have v9 := L.v9; have u9 := run_underlying L.t9
  have t5 := X.t5; have a5 := X.a5; have z5 := X.z5; have v5 := X.v5; have u5 := run_underlying X.t5
  go_enter L.f169, Body.n169_ntmps ρ
  go_wp2
  go_region_o
  all_goals (go_wp2; go_ret; exact ⟨rfl, rfl⟩)

set_option maxHeartbeats 2000000 in
set_option maxRecDepth 100000 in
theorem bstring_nil (L : Lays.n169 P ρ) (X : Builder.Extra P ρ) (b : Nat) (w : World) (hb : w.cell? ⟨b, 1, none⟩ = some (.slice none 0 0)) :
    Calls P (ρ.f 169) #[.pointer (some ⟨b, 0, none⟩)] w fun e w' => e = .returned (.string ⟨#[]⟩) ∧ w' = w.drew := by
  have hUS := Any.unsafeString_none L X
  have hSD : (Builtin.unsafeSliceData_ #[(ρ.t 37)] (ρ.t 127) #[.slice none 0 0]).run P w.drew = .ok (.pointer none) w.drew := rfl
  have c1 : w.drew.cell? ⟨b, 1, none⟩ = some (.slice none 0 0) := hb
  have mixed := L.mixed
  have t72 := L.t72; have a72 := L.a72; have z72 := L.z72; have v72 := L.v72; have u72 := run_underlying L.t72
  have t70 := L.t70; have a70 := L.a70; have z70 := L.z70; have v70 := L.v70; have u70 := run_underlying L.t70
  have t37 := L.t37; have a37 := L.a37; have z37 := L.z37; have v37 := L.v37; have u37 := run_underlying L.t37
  have t127 := L.t127; have a127 := L.a127; have z127 := L.z127; have v127 := L.v127; have u127 := run_underlying L.t127
  have t3 := L.t3; have a3 := L.a3; have z3 := L.z3; have v3 := L.v3; have u3 := run_underlying L.t3
  have t9 := L.t9; have a9 := L.a9; have z9 := L.z9; have v9 := L.v9; have u9 := run_underlying L.t9
  have t5 := X.t5; have a5 := X.a5; have z5 := X.z5; have v5 := X.v5; have u5 := run_underlying X.t5
  go_enter L.f169, Body.n169_ntmps ρ
  go_wp2
  go_region_o
  all_goals (go_wp2; go_ret; exact ⟨rfl, rfl⟩)

/-- What copyCheck names. -/
structure CCLay (P : Program) (ρ : Ren) : Prop where
  mixed : P.follows .mixedOrders = true
  f240 : P.funcs[ρ.f 240]? = some (Body.n240 ρ)
  f276 : P.funcs[ρ.f 276]? = some (Body.n276 ρ)
  t4 : P.underlying (ρ.t 4) = some (TypeDesc.bool)
  a4 : ∀ w, (isAgg (ρ.t 4)).run P w = .ok false w
  z4 : ∀ w, (Go.sizeOf (ρ.t 4)).run P w = .ok 1 w
  v4 : ∀ w, (zeroValue (ρ.t 4)).run P w = .ok (Value.bool false) w
  t70 : P.underlying (ρ.t 70) = some (TypeDesc.pointer (ρ.t 72))
  a70 : ∀ w, (isAgg (ρ.t 70)).run P w = .ok false w
  z70 : ∀ w, (Go.sizeOf (ρ.t 70)).run P w = .ok 1 w
  v70 : ∀ w, (zeroValue (ρ.t 70)).run P w = .ok (Value.pointer none) w
  t72 : P.underlying (ρ.t 72) = some (TypeDesc.struct #[{ name := "addr", type := ρ.t 70, offset := 0, embedded := false, tag := "", pkgPath := "strings", byteOffset := 0 }, { name := "buf", type := ρ.t 37, offset := 1, embedded := false, tag := "", pkgPath := "strings", byteOffset := 8 }])
  a72 : ∀ w, (isAgg (ρ.t 72)).run P w = .ok true w
  z72 : ∀ w, (Go.sizeOf (ρ.t 72)).run P w = .ok 2 w
  v72 : ∀ w, (zeroValue (ρ.t 72)).run P w = .ok (Value.agg #[Value.pointer none, Value.slice none 0 0]) w
  t164 : P.underlying (ρ.t 164) = some (TypeDesc.unsafePointer)
  a164 : ∀ w, (isAgg (ρ.t 164)).run P w = .ok false w
  z164 : ∀ w, (Go.sizeOf (ρ.t 164)).run P w = .ok 1 w
  v164 : ∀ w, (zeroValue (ρ.t 164)).run P w = .ok (Value.pointer none) w

set_option maxHeartbeats 1000000 in
set_option maxRecDepth 100000 in
/-- copyCheck at a builder that has been used: nothing turns (after the shelf's proof). -/
theorem cc_used (L : CCLay P ρ) (X : Builder.X72 P ρ) (b : Nat) (w : World) (h0 : w.cell? ⟨b, 0, none⟩ = some (.pointer (some ⟨b, 0, none⟩))) :
    Calls P (ρ.f 240) #[.pointer (some ⟨b, 0, none⟩)] w fun e w' => e = .returned (.tuple #[]) ∧ w' = w := by
  obtain ⟨j, hj, _⟩ := Option.map_eq_some_iff.1 X.sizeBuilder
  have mixed := L.mixed
  have t72 := L.t72; have a72 := L.a72; have z72 := L.z72; have v72 := L.v72; have u72 := run_underlying L.t72
  have t70 := L.t70; have a70 := L.a70; have z70 := L.z70; have v70 := L.v70; have u70 := run_underlying L.t70
  have t4 := L.t4; have a4 := L.a4; have z4 := L.z4; have v4 := L.v4; have u4 := run_underlying L.t4
  have t164 := L.t164; have a164 := L.a164; have z164 := L.z164; have v164 := L.v164; have u164 := run_underlying L.t164
  go_enter L.f240, Body.n240_ntmps ρ
  go_wp2
  rw [Lib.run_neq_ptr_same w _ L.t70 hj]
  go_wp2
  go_end0
  exact ⟨rfl, rfl⟩

set_option maxHeartbeats 1000000 in
set_option maxRecDepth 100000 in
/-- copyCheck at a fresh builder: it stores its own address (after the shelf's proof). -/
theorem cc_fresh (L : CCLay P ρ) (X : Builder.X72 P ρ) (b : Nat) (w : World) (h0 : w.cell? ⟨b, 0, none⟩ = some (.pointer none)) (hsh : w.shape? b = some ((ρ.t 72), 2)) (hfz : w.frozen? ⟨b, 0, none⟩ = false) :
    Calls P (ρ.f 240) #[.pointer (some ⟨b, 0, none⟩)] w fun e w' => e = .returned (.tuple #[]) ∧ w' = w.setCell ⟨b, 0, none⟩ (.pointer (some ⟨b, 0, none⟩)) := by
  obtain ⟨j, hj, hjs⟩ := Option.map_eq_some_iff.1 X.sizeBuilder
  have mixed := L.mixed
  have t72 := L.t72; have a72 := L.a72; have z72 := L.z72; have v72 := L.v72; have u72 := run_underlying L.t72
  have t70 := L.t70; have a70 := L.a70; have z70 := L.z70; have v70 := L.v70; have u70 := run_underlying L.t70
  have t4 := L.t4; have a4 := L.a4; have z4 := L.z4; have v4 := L.v4; have u4 := run_underlying L.t4
  have t164 := L.t164; have a164 := L.a164; have z164 := L.z164; have v164 := L.v164; have u164 := run_underlying L.t164
  go_enter L.f240, Body.n240_ntmps ρ
  go_wp2
  rw [Lib.run_to_unsafe w ⟨b, 0, none⟩ L.t70 L.t164 hj (by rw [hjs]; decide) hsh (Nat.zero_lt_succ 1)]
  simp only [Result.andThen]
  rw [Oper.upon_value]
  go_wp2
  rw [run_callFunc_extern L.f276 (by kernel_rfl) (by kernel_rfl) (by kernel_rfl) (e := Extern.AbiNoEscape.same) (by kernel_rfl)]
  rw [Lib.run_noEscape]
  simp only [Result.andThen]
  rw [Oper.upon_value]
  go_wp2
  rw [Lib.run_from_unsafe w ⟨b, 0, none⟩ L.t164 L.t70 hj hsh X.liesBuilder]
  simp only [Result.andThen]
  rw [Oper.upon_value]
  go_wp2
  go_end0
  exact ⟨rfl, rfl⟩
end Go.Proofs

/-
  The library's functions on texts as primitives, out of the shelf's contracts.
-/
namespace Go.Ab
open Go.Shelf Go.Proofs
set_option linter.unusedVariables false
set_option linter.unusedSimpArgs false
variable {P : Program} {g : GMap} {ρ : Go.Shelf.Ren}

theorem primStrIndex (L : Lays.n219 P ρ) (hm : ∀ κ, g.inv κ → ∃ m, κ.C (ρ.g 1) 0 = some (.int .i64 m)) {pf : Func} (hpf : P.funcs[ρ.f 219]? = some pf) (hb : pf.body.isSome = true) (hn : pf.name ≠ "runtime.NumGoroutine") : PrimOK P g (ρ.f 219) pStrIndex := by
  refine prim_of_calls hpf hb hn (fun κ w args ps v hi hC hsz hargs hp => ?_)
  obtain ⟨m, hm⟩ := hm κ hi
  have hmc := hC _ _ _ hm
  unfold pStrIndex at hp
  split at hp
  · rename_i a b
    split at hp
    · rename_i hlen
      cases hp
      obtain ⟨u1, u2, rfl⟩ : ∃ u1 u2, args = #[u1, u2] := by
        obtain ⟨l⟩ := args
        match l, hsz with
        | [u1, u2], _ => exact ⟨u1, u2, rfl⟩
      have r1 := hargs 0 u1 _ rfl rfl
      have r2 := hargs 1 u2 _ rfl rfl
      cases r1 with | str sa _ ha => cases r2 with | str sb _ hb =>
      refine (Any.stringslite_Index L sa sb m w (by rw [← ha] at hlen; simpa using hlen) hmc).mono ?_
      rintro e w' ⟨rfl, rfl⟩
      exact ⟨_, rfl, fun κ' => by rw [ha, hb]; exact .int .i64 _ (by decide), rfl, rfl, rfl, rfl⟩
    · cases hp
  · cases hp

theorem primStrIndexByte (L : Lays.n137 P ρ) {pf : Func} (hpf : P.funcs[ρ.f 137]? = some pf) (hb : pf.body.isSome = true) (hn : pf.name ≠ "runtime.NumGoroutine") : PrimOK P g (ρ.f 137) pStrIndexByte := by
  refine prim_of_calls hpf hb hn (fun κ w args ps v hi hC hsz hargs hp => ?_)
  unfold pStrIndexByte at hp
  split at hp
  · rename_i a c
    cases hp
    obtain ⟨u1, u2, rfl⟩ : ∃ u1 u2, args = #[u1, u2] := by
      obtain ⟨l⟩ := args
      match l, hsz with
      | [u1, u2], _ => exact ⟨u1, u2, rfl⟩
    have r1 := hargs 0 u1 _ rfl rfl
    have r2 := hargs 1 u2 _ rfl rfl
    cases r1 with | str sa _ ha => cases r2 with | b8 _ n hn =>
    refine (Any.strings_IndexByte L sa n w).mono ?_
    rintro e w' ⟨rfl, rfl⟩
    refine ⟨_, rfl, fun κ' => ?_, rfl, rfl, rfl, rfl⟩
    have : n.toNat.toUInt8 = c := by rw [hn]; simp
    rw [ha, this]; exact .int .i64 _ (by decide)
  · cases hp

/-- A primitive that may put a cell, out of a contract. -/
theorem primS_of_calls {f' : FuncId} {p : List PV → List (List PV) → Option (PV × Upd)} {pf : Func} (hpf : P.funcs[f']? = some pf) (hb : pf.body.isSome = true) (hn : pf.name ≠ "runtime.NumGoroutine")
    (h : ∀ (base : Nat) (κ : K) (w : World) (st : St) (args : Array Value) (ps : List PV) (v : PV) (u : Upd) (st' : St), SR P g base κ w st → args.size = ps.length → (∀ (i : Nat) (u : Value) (q : PV), args[i]? = some u → ps[i]? = some q → R g κ u q) → p ps st.boxes = some (v, u) → updS st u = some st' →
      Calls P f' args w fun e w' => ∃ z, e = .returned z ∧ R g κ z v ∧ SR P g base κ w' st' ∧ Fr base κ.lam w w') : PrimSOK P g f' p := by
  intro base κ w st args ps v u st' hsr hsz hargs hp hu F hF nn o a next Q hnext
  have hrun : (callFunc f' args).run P w = .ok (.enter f' args) w := by
    have hb2 : pf.body.isNone = false := by
      cases hbb : pf.body with
      | none => rw [hbb] at hb; cases hb
      | some c => rfl
    have hn2 : (pf.name == "runtime.NumGoroutine") = false := by simpa using hn
    unfold callFunc
    simp only [Sem.run_bind, Go.program, Sem.run, Result.andThen, hpf, hn2, hb2]
    rfl
  rw [hrun]
  refine ⟨hF.deep, callsIn_of_calls hF ?_⟩
  refine (h base κ w st args ps v u st' hsr hsz hargs hp hu).mono ?_
  rintro e w' ⟨z, rfl, hz, hs, hf⟩
  exact hnext κ z w' (K.le.refl κ) rfl hs hz hf

theorem setCell_eq {w : World} {blk off : Nat} {v : Value} {rs : Array Value} {el : TypeId} {fz : Nat × Nat} (hw : w.heap[blk]? = some (.cells rs el fz)) : w.setCell ⟨blk, off, none⟩ v = setBlk w blk (setA rs off [v]) el fz := by
  have hlt := (Array.getElem?_eq_some_iff.1 hw).1
  simp only [World.setCell, setBlk]
  congr 1
  apply Array.ext_getElem?
  intro j
  rw [Array.getElem?_modify]
  by_cases hj : blk = j
  · subst hj
    rw [if_pos rfl, hw]
    simp [hlt, setA]
  · rw [if_neg hj, Array.getElem?_setIfInBounds_ne hj]

theorem primCopyCheck (L : CCLay P ρ) (X : Builder.X72 P ρ) (htB : g.tB = ρ.t 72) {pf : Func} (hpf : P.funcs[ρ.f 240]? = some pf) (hb : pf.body.isSome = true) (hn : pf.name ≠ "runtime.NumGoroutine") : PrimSOK P g (ρ.f 240) pCopyCheck := by
  refine primS_of_calls hpf hb hn (fun base κ w st args ps v u st' hsr hsz hargs hp hu => ?_)
  unfold pCopyCheck at hp
  split at hp
  · rename_i bs b
    obtain ⟨u1, rfl⟩ : ∃ u1, args = #[u1] := by
      obtain ⟨l⟩ := args
      match l, hsz with
      | [u1], _ => exact ⟨u1, rfl⟩
    have r1 := hargs 0 u1 _ rfl rfl
    cases r1 with | ptr _ _ blk hφ =>
    split at hp
    · -- fresh
      rename_i x hbx
      simp only [Option.some.injEq, Prod.mk.injEq] at hp
      obtain ⟨rfl, rfl⟩ := hp
      have hB := hsr.bx b blk _ hbx hφ
      obtain ⟨rs, ⟨el, lo, hi, hw, hf⟩, hl, hr⟩ := hB.ex
      obtain ⟨v0, h0, hr0⟩ := hr 0 .bslot rfl
      cases hr0
      have hsh := hB.sb (by simp)
      rw [htB] at hsh
      have hc0 : w.cell? ⟨blk, 0, none⟩ = some (.pointer none) := by simp [World.cell?, hw, h0]
      have hrs : rs.size = 2 := by
        simp only [World.shape?, hw, Option.some.injEq, Prod.mk.injEq] at hsh; exact hsh.2
      have hfz : w.frozen? ⟨blk, 0, none⟩ = false := by
        simp only [World.frozen?, hw, Bool.and_eq_false_iff, decide_eq_false_iff_not]
        rcases hf with h | h
        · subst h; omega
        · left; omega
      refine (cc_fresh L X blk w hc0 hsh hfz).mono ?_
      rintro e w' ⟨rfl, rfl⟩
      -- the store's own law
      have hst : storePV st 1 (.ptr b 0) (.ptr b 0) = some st' := hu
      simp only [storePV, hbx] at hst
      split at hst
      · cases hst
        refine ⟨_, rfl, .tup #[] [] rfl rfl (fun i v p a => by simp at a), ?_, ?_⟩
        · rw [setCell_eq hw]
          have := hsr.setBox (rs' := setA rs 0 [.pointer (some ⟨blk, 0, none⟩)]) (cs' := setCells [.bslot, x] 0 [.ptr b 0]) (if hasTok [PV.ptr b 0] then min st.low b else st.low) hbx hφ hw hf (setA_size _ _ _) (by rw [setCells_length]; exact hl) (fun i c hc => ?_) ?_ (fun c hc => ?_) (fun hm => ?_)
          · exact this
          · simp only [setCells, List.set_cons_zero] at hc
            match i with
            | 0 =>
              simp at hc; subst hc
              exact ⟨.pointer (some ⟨blk, 0, none⟩), by simp [setA, hrs], .ptr b 0 blk hφ⟩
            | i + 1 =>
              have hc' : [PV.bslot, x][i + 1]? = some c := by simpa using hc
              obtain ⟨v1, h1, hr1⟩ := hr (i + 1) c hc'
              refine ⟨v1, ?_, hr1⟩
              simp [setA]; exact h1
          · have := hB.lf
            simp only [setCells, List.set_cons_zero, List.all_cons, leafB] at this ⊢
            simpa using this
          · simp only [setCells, List.set_cons_zero, List.mem_cons, List.not_mem_nil, or_false] at hc
            rcases hc with rfl | rfl
            · simp [PV.inB]
            · exact hB.lw _ (by simp)
          · simp
        · rw [setCell_eq hw]
          exact Fr.setBlk hw hB.ge
      · cases hst
    · -- used
      rename_i b' x hbx
      split at hp
      · rename_i hbb
        subst hbb
        simp only [Option.some.injEq, Prod.mk.injEq] at hp
        obtain ⟨rfl, rfl⟩ := hp
        simp only [updS, Option.some.injEq] at hu
        subst hu
        have hB := hsr.bx b' blk _ hbx hφ
        obtain ⟨rs, ⟨el, lo, hi, hw, hf⟩, hl, hr⟩ := hB.ex
        obtain ⟨v0, h0, hr0⟩ := hr 0 _ rfl
        cases hr0 with | ptr _ _ blk' hφ' =>
        rw [hφ] at hφ'; cases hφ'
        have hc0 : w.cell? ⟨blk, 0, none⟩ = some (.pointer (some ⟨blk, 0, none⟩)) := by simp [World.cell?, hw, h0]
        refine (cc_used L X blk w hc0).mono ?_
        rintro e w' ⟨rfl, rfl⟩
        exact ⟨_, rfl, .tup #[] [] rfl rfl (fun i v p a => by simp at a), hsr, Fr.refl _ _⟩
      · cases hp
    · cases hp
  · cases hp


/-- A room that is nobody's more: its row may be frozen. -/
theorem SR.kill {base : Nat} {κ : K} {w w' : World} {st : St} (h : SR P g base κ w st) {i blk e ce : Nat} {rs : Array Value} {el : TypeId} {fz fz' : Nat × Nat} (hi : st.toks[i]? = some true) (hτ : κ.τ[i]? = some (blk, e, ce))
    (hw : w.heap[blk]? = some (.cells rs el fz)) (hw' : w'.heap = (setBlk w blk rs el fz').heap) : SR P g base κ w' { st with toks := st.toks.set i false } := by
  have hk := h.tk i blk e ce hi hτ
  suffices hs : SR P g base κ (setBlk w blk rs el fz') { st with toks := st.toks.set i false } from hs.heap hw'
  have hcell : ∀ b i, (setBlk w blk rs el fz').cell? ⟨b, i, none⟩ = w.cell? ⟨b, i, none⟩ := fun b i => by
    by_cases hb : b = blk
    · subst hb
      have hlt := (Array.getElem?_eq_some_iff.1 hw).1
      have h2 : (setBlk w b rs el fz').heap[b]? = some (.cells rs el fz') := by simp [setBlk, hlt]
      simp only [World.cell?]
      rw [h2, hw]
    · exact cell_setBlk_other hb
  have hobj : ∀ (k : Nat) (o : Obj), w.heap[k]? = some o → isCells o = false → (setBlk w blk rs el fz').heap[k]? = some o := fun k o ho hc => by
    rw [setBlk_other]
    · exact ho
    · rintro rfl; rw [hw] at ho; cases ho; simp [isCells] at hc
  have hset : ∀ j : Nat, (st.toks.set i false)[j]? = some true → st.toks[j]? = some true ∧ j ≠ i := fun j hj => by
    by_cases hji : j = i
    · subst hji
      rw [List.getElem?_set] at hj
      simp at hj
    · rw [List.getElem?_set_ne (fun h => hji h.symm)] at hj
      exact ⟨hj, hji⟩
  refine { cC := fun b i v hc => by rw [hcell]; exact h.cC b i v hc, sh := fun b t hb => (h.sh b t hb).imp fun n hn => (by rw [shape_setBlk hw rfl]; exact hn), bl := h.bl, bn := h.bn, bx := fun b k cs h1 h2 => ?_, tl := by simp [h.tl], tk := fun j k e ce h1 h2 => ?_,
           td := fun a b ba ea ca bb eb cb h1 h2 h3 h4 h5 => h.td a b ba ea ca bb eb cb (hset a h1).1 (hset b h2).1 h3 h4 h5, ll := h.ll, ln := h.ln, lb := h.lb, lp := fun k l D r h1 h2 => (h.lp k l D r h1 h2).mono (K.le.refl _) hobj, hb := by simpa [setBlk] using h.hb, gv := h.gv }
  · have hx := h.bx b k cs h1 h2
    have hne : k ≠ blk := by rintro rfl; exact hk.nb (List.mem_of_getElem? h2)
    obtain ⟨rs', hc, h3, h4⟩ := hx.ex
    exact ⟨hx.ge, hx.nc, ⟨rs', hc.congr (setBlk_other hne), h3, h4⟩, hx.lf, hx.lw, fun hm => by rw [← hx.sb hm]; exact shape_congr (setBlk_other hne)⟩
  · obtain ⟨q1, q2⟩ := hset j h1
    have hx := h.tk j k e ce q1 h2
    have hne : k ≠ blk := h.td j i k e ce blk _ _ q1 hi h2 hτ q2
    obtain ⟨rs', hc, h3⟩ := hx.ex
    exact ⟨hx.ge, hx.nb, hx.nc, ⟨rs', hc.congr (setBlk_other hne), h3⟩⟩

theorem primBuilderString (L : Lays.n169 P ρ) (X : Builder.Extra P ρ) (htU : g.tU = ρ.t 5) {pf : Func} (hpf : P.funcs[ρ.f 169]? = some pf) (hb : pf.body.isSome = true) (hn : pf.name ≠ "runtime.NumGoroutine") : PrimSOK P g (ρ.f 169) pBuilderString := by
  refine primS_of_calls hpf hb hn (fun base κ w st args ps v u st' hsr hsz hargs hp hu => ?_)
  unfold pBuilderString at hp
  split at hp
  · rename_i bs b
    obtain ⟨u1, rfl⟩ : ∃ u1, args = #[u1] := by
      obtain ⟨l⟩ := args
      match l, hsz with
      | [u1], _ => exact ⟨u1, rfl⟩
    have r1 := hargs 0 u1 _ rfl rfl
    cases r1 with | ptr _ _ blk hφ =>
    split at hp
    · -- nothing was written
      rename_i c0 hbx
      simp only [Option.some.injEq, Prod.mk.injEq] at hp
      obtain ⟨rfl, rfl⟩ := hp
      simp only [updS, Option.some.injEq] at hu
      subst hu
      have hB := hsr.bx b blk _ hbx hφ
      obtain ⟨rs, ⟨el, lo, hi, hw, hf⟩, hl, hr⟩ := hB.ex
      obtain ⟨v0, h0, hr0⟩ := hr 1 .nils rfl
      cases hr0
      have hc : w.cell? ⟨blk, 1, none⟩ = some (.slice none 0 0) := by simp [World.cell?, hw, h0]
      refine (bstring_nil L X blk w hc).mono ?_
      rintro e w' ⟨rfl, rfl⟩
      exact ⟨_, rfl, .str _ _ rfl, hsr.heap rfl, Fr.same rfl rfl rfl rfl⟩
    · rename_i c0 i l hbx
      split at hp
      · cases hp
      · rename_i hne0
        obtain ⟨hne, hrm⟩ : l ≠ [] ∧ l.length ≤ room := by simpa [not_or] using hne0
        simp only [Option.some.injEq, Prod.mk.injEq] at hp
        obtain ⟨rfl, rfl⟩ := hp
        simp only [updS] at hu
        split at hu
        · rename_i hti
          cases hu
          have hB := hsr.bx b blk _ hbx hφ
          obtain ⟨rs, ⟨el, lo, hi, hw, hf⟩, hl, hr⟩ := hB.ex
          obtain ⟨v0, h0, hr0⟩ := hr 1 _ rfl
          cases hr0 with
          | bys blk' off n c _ _ hn2 hc hbb ht hz =>
            obtain ⟨rfl, hS⟩ := hz i rfl
            subst hn2
            obtain ⟨n', hsh⟩ := hsr.sh blk' _ hS
            obtain ⟨e', ce, hτ, hroom⟩ := ht
            have hTK := hsr.tk i blk' e' ce hti hτ
            obtain ⟨rs', ⟨el', lo', hi', hw', hf'⟩, hce⟩ := hTK.ex
            have hn' : n' = rs'.size ∧ el' = g.tU := by
              simp only [World.shape?, hw', Option.some.injEq, Prod.mk.injEq] at hsh
              exact ⟨hsh.2.symm, hsh.1⟩
            have hcl : ∀ j x, l[j]? = some x → w.cell? ⟨blk', j, none⟩ = some (.int .u8 x.toNat) := fun j x hx => by
              have := hsr.cC _ _ _ (hbb j x hx)
              simpa using this
            have hcells : l.length ≤ n' := by
              rcases Nat.lt_or_ge n' l.length with h1 | h1
              · exfalso
                have h2 := hcl n' l[n'] (by simp [h1])
                simp only [World.cell?, hw'] at h2
                simp [hn'.1] at h2
              · exact h1
            have hmax : l.length ≤ 9223372036854775807 := by have e : room = 68719476736 := rfl; omega
            have hcell : w.cell? ⟨blk, 1, none⟩ = some (.slice (some ⟨blk', 0, none⟩) l.length c) := by simp [World.cell?, hw, h0]
            refine (bstring_walk L X blk blk' c n' l w hne hc hcells hmax hcell (by rw [hsh, htU]) hcl).mono ?_
            rintro e w1 ⟨rfl, rfl⟩
            have hlt := (Array.getElem?_eq_some_iff.1 hw').1
            have hfr : ∃ fz, (w.drew.freeze ⟨blk', 0, none⟩ l.length).heap = (setBlk w blk' rs' el' fz).heap := by
              refine ⟨if lo' == hi' then (0, 0 + l.length) else (min lo' 0, max hi' (0 + l.length)), ?_⟩
              simp only [World.freeze, setBlk, World.drew]
              rw [if_neg (by simpa using hne)]
              apply Array.ext_getElem?
              intro j
              rw [Array.getElem?_modify]
              by_cases hj : blk' = j
              · subst hj; rw [if_pos rfl, hw']; simp [hlt]
              · rw [if_neg hj, Array.getElem?_setIfInBounds_ne hj]
            obtain ⟨fz, hfr⟩ := hfr
            refine ⟨_, rfl, .str _ _ rfl, hsr.kill hti hτ hw' hfr, ?_⟩
            refine Fr.of ⟨?_, ?_, ?_, ?_, fun k hk => ?_⟩ fun k o ho hc => ?_
            · simp only [World.freeze]; split <;> rfl
            · simp only [World.freeze]; split <;> rfl
            · simp only [World.freeze]; split <;> rfl
            · rw [hfr]; simp [setBlk]
            · rw [hfr]; exact setBlk_other (by have := hTK.ge; omega)
            · rw [hfr, setBlk_other]
              · exact ho
              · rintro rfl; rw [hw'] at ho; cases ho; simp [isCells] at hc
        · cases hu
    · cases hp
  · cases hp
end Go.Ab

/-
  strings.Split as a primitive: a new row of texts.
-/
namespace Go.Ab
open Go.Shelf Go.Proofs
set_option linter.unusedVariables false
set_option linter.unusedSimpArgs false
variable {P : Program} {g : GMap} {ρ : Go.Shelf.Ren} {base : Nat}

/-- A primitive that lays one new row of values, out of a contract. -/
theorem prim_of_lays {f' : FuncId} {p : List PV → Option PV} {pf : Func} (hpf : P.funcs[f']? = some pf) (hb : pf.body.isSome = true) (hn : pf.name ≠ "runtime.NumGoroutine")
    (h : ∀ (κ : K) (w : World) (args : Array Value) (ps : List PV) (v : PV), g.inv κ → (∀ b i v, κ.C b i = some v → w.cell? ⟨b, i, none⟩ = some v) → args.size = ps.length → (∀ (i : Nat) (u : Value) (q : PV), args[i]? = some u → ps[i]? = some q → R g κ u q) → p ps = some v →
      ∃ (z : Value) (rs : Array Value) (el : TypeId), Calls P f' args w (fun e w' => e = .returned z ∧ w' = w.alloc (.cells rs el)) ∧ R g (κ.addC w.heap.size fun i => rs[i]?) z v) : PrimOK P g f' p := by
  intro base κ w st args ps v hsr hsz hargs hp F hF nn o a next Q hnext
  have hrun : (callFunc f' args).run P w = .ok (.enter f' args) w := by
    have hb2 : pf.body.isNone = false := by
      cases hbb : pf.body with
      | none => rw [hbb] at hb; cases hb
      | some c => rfl
    have hn2 : (pf.name == "runtime.NumGoroutine") = false := by simpa using hn
    unfold callFunc
    simp only [Sem.run_bind, Go.program, Sem.run, Result.andThen, hpf, hn2, hb2]
    rfl
  rw [hrun]
  refine ⟨hF.deep, callsIn_of_calls hF ?_⟩
  obtain ⟨z, rs, el, hc, hr⟩ := h κ w args ps v hsr.gv hsr.cC hsz hargs hp
  refine hc.mono ?_
  rintro e w' ⟨rfl, rfl⟩
  obtain ⟨hle, hs⟩ := hsr.addC (w' := w.alloc (.cells rs el)) rs el (0, 0) rfl
  exact hnext _ z _ hle rfl hs hr (Fr.push hsr.hb rfl rfl rfl rfl)

/-! ### The parts are the shelf's -/
theorem occ_one {c : UInt8} {s : List UInt8} {j : Nat} : Lib.occAt s [c] j = true → s[j]? = some c := fun h => Lib.occAt_head rfl h
theorem index_one_cases (c : UInt8) (s : List UInt8) : (c ∉ s ∧ Lib.index s [c] = -1) ∨ ∃ n r, s = n ++ c :: r ∧ c ∉ n ∧ Lib.index s [c] = n.length := by
  rcases Lib.index_spec s [c] with ⟨h1, h2⟩ | ⟨i, h1, h2, h3, h4⟩
  · refine .inl ⟨fun hm => ?_, h1⟩
    obtain ⟨j, hj, e⟩ := List.mem_iff_getElem.1 hm
    have := h2 j (by omega)
    rw [Lib.occAt_iff_take _ _ _ (by simp; omega)] at this
    rw [List.drop_eq_getElem_cons hj] at this
    simp [e] at this
  · have hi := occ_one h3
    have hlt := (List.getElem?_eq_some_iff.1 hi).1
    have he := (List.getElem?_eq_some_iff.1 hi).2
    refine .inr ⟨s.take i, s.drop (i + 1), ?_, fun hm => ?_, ?_⟩
    · rw [← he, ← List.drop_eq_getElem_cons hlt, List.take_append_drop]
    · obtain ⟨j, hj, e⟩ := List.mem_iff_getElem.1 hm
      simp only [List.length_take] at hj
      simp only [List.getElem_take] at e
      have := h4 j (by omega)
      rw [Lib.occAt_iff_take _ _ _ (by simp; omega)] at this
      rw [List.drop_eq_getElem_cons (show j < s.length by omega)] at this
      simp [e] at this
    · rw [h1]; simp; omega
theorem splitOn_none {c : UInt8} : ∀ (n acc : List UInt8), c ∉ n → splitOn c acc n = [acc ++ n] := by
  intro n
  induction n with
  | nil => intro acc _; simp [splitOn]
  | cons d n ih =>
    intro acc h
    simp only [List.mem_cons, not_or] at h
    rw [splitOn, if_neg (fun e => h.1 e.symm), ih _ h.2]; simp
theorem splitOn_hit {c : UInt8} {r : List UInt8} : ∀ (n acc : List UInt8), c ∉ n → splitOn c acc (n ++ c :: r) = (acc ++ n) :: splitOn c [] r := by
  intro n
  induction n with
  | nil => intro acc _; simp [splitOn]
  | cons d n ih =>
    intro acc h
    simp only [List.mem_cons, not_or] at h
    rw [List.cons_append, splitOn, if_neg (fun e => h.1 e.symm), ih _ h.2]; simp
theorem splitK_on {c : UInt8} : ∀ (f : Nat) (s : List UInt8), s.length < f → Lib.splitK [c] 0 (Lib.countFrom [c] f s) s = splitOn c [] s := by
  intro f
  induction f with
  | zero => intro s h; omega
  | succ f ih =>
    intro s h
    rcases index_one_cases c s with ⟨h1, h2⟩ | ⟨n, r, h1, h2, h3⟩
    · rw [splitOn_none s [] h1]
      simp [Lib.countFrom, h2, Lib.splitK]
    · have hne : (Lib.index s [c] == -1) = false := by rw [h3, beq_eq_false_iff_ne]; omega
      have hd : s.drop (n.length + 1) = r := by rw [h1, ← List.drop_drop, List.drop_left]; rfl
      have ht : s.take n.length = n := by rw [h1, List.take_left]
      have hc : Lib.countFrom [c] (f + 1) s = Lib.countFrom [c] f r + 1 := by
        simp only [Lib.countFrom, hne]
        rw [h3]
        simp only [Int.toNat_natCast, List.length_singleton, hd]
        simp; omega
      have hl := congrArg List.length h1
      simp only [List.length_append, List.length_cons] at hl
      rw [hc, Lib.splitK, hne, h3]
      simp only [Int.toNat_natCast, List.length_singleton, Nat.add_zero, ht, hd]
      rw [ih r (by omega), h1, splitOn_hit n [] h2]
      simp
theorem splitOn_len {c : UInt8} : ∀ (s acc : List UInt8), (splitOn c acc s).length ≤ s.length + 1 := by
  intro s
  induction s with
  | nil => intro acc; simp [splitOn]
  | cons d s ih =>
    intro acc
    simp only [splitOn]
    split
    · have := ih []; simp; omega
    · have := ih (acc ++ [d]); simp; omega

theorem primStrSplit (L : Lays.n146 P ρ) (hi9 : (P.info? (ρ.t 9)).map (fun i => (i.zero, i.size, i.bytes)) = some (some (.string ByteArray.empty), 1, 16)) (hm : ∀ κ, g.inv κ → ∃ m, κ.C (ρ.g 1) 0 = some (.int .i64 m)) {pf : Func} (hpf : P.funcs[ρ.f 146]? = some pf) (hb : pf.body.isSome = true) (hn : pf.name ≠ "runtime.NumGoroutine") : PrimOK P g (ρ.f 146) pStrSplit := by
  refine prim_of_lays hpf hb hn (fun κ w args ps v hi hC hsz hargs hp => ?_)
  obtain ⟨m, hm⟩ := hm κ hi
  have hmc := hC _ _ _ hm
  unfold pStrSplit at hp
  split at hp
  · rename_i a c
    split at hp
    · rename_i hlen
      cases hp
      obtain ⟨u1, u2, rfl⟩ : ∃ u1 u2, args = #[u1, u2] := by
        obtain ⟨l⟩ := args
        match l, hsz with
        | [u1, u2], _ => exact ⟨u1, u2, rfl⟩
      have r1 := hargs 0 u1 _ rfl rfl
      have r2 := hargs 1 u2 _ rfl rfl
      cases r1 with | str sa _ ha => cases r2 with | str sb _ hb2 =>
      have hsa : sa.size = a.length := by rw [← ha]; simp
      have hsb : sb.size = 1 := by
        have := congrArg List.length hb2
        simpa using this
      refine ⟨_, _, _, Any.strings_Split L hi9 sa sb m w (by omega) hmc (by omega), ?_⟩
      -- the pieces
      obtain ⟨bs, hbs⟩ : ∃ bs, bs = Lib.splitB sb 0 (Lib.countB sa sb) sa := ⟨_, rfl⟩
      have hdat : bs.map (·.data.toList) = splitOn c [] a := by
        rw [hbs, Lib.splitB_data, hb2, ha]
        have hcnt : Lib.countB sa sb = Lib.countFrom [c] (a.length + 1) a := by
          show Lib.count sa.data.toList sb.data.toList = _
          rw [hb2, ha]; rfl
        rw [hcnt]
        exact splitK_on _ _ (by omega)
      have hlenb : bs.length = Lib.countB sa sb + 1 := by rw [hbs]; exact Lib.splitB_all sb (by omega) 0 _ sa rfl
      have hlen2 : (splitOn c [] a).length = bs.length := by rw [← hdat]; simp
      rw [← hbs, ← hlenb]
      have hflat : flat ((splitOn c [] a).map PV.str) = (splitOn c [] a).map PV.str := by
        generalize splitOn c [] a = xs
        induction xs with
        | nil => rfl
        | cons x xs ih => simp only [List.map_cons, flat, List.flatMap_cons, PV.cells] at ih ⊢; rw [ih]; rfl
      have hgetR : ∀ (i : Nat) (v : Value) (p : PV), (bs.map Value.string)[i]? = some v → ((splitOn c [] a).map PV.str)[i]? = some p → ∀ κ', R g κ' v p := by
        intro i v p h1 h2 κ'
        rw [← hdat] at h2
        simp only [List.getElem?_map, Option.map_eq_some_iff] at h1 h2
        obtain ⟨b, e1, rfl⟩ := h1
        obtain ⟨y, ⟨b2, e2, rfl⟩, rfl⟩ := h2
        rw [e1] at e2; cases e2
        exact .str b _ rfl
      refine .sl w.heap.size 0 bs.length bs.length 1 .no _ (bs.map Value.string) (by simp [hlen2]) (Nat.le_refl _) (fun x hx => ?_) (by rw [hflat]; simp [hlen2]) (fun i v hv => ?_) (fun i v p h1 h2 => ?_) ?_ ?_ trivial
      · obtain ⟨y, _, rfl⟩ := List.mem_map.1 hx; rfl
      · have hne : (bs.map Value.string).toArray[i]? = some v := by simpa using hv
        simp only [K.addC, Nat.zero_add, if_pos]
        rw [hne]
      · rw [hflat] at h2; exact hgetR i v p h1 h2 _
      · generalize splitOn c [] a = xs
        induction xs with
        | nil => rfl
        | cons x xs ih => simp [dataAll, PV.data, ih]
      · rw [hflat, List.all_eq_true]
        intro x hx
        obtain ⟨y, _, rfl⟩ := List.mem_map.1 hx; rfl
    · cases hp
  · cases hp
end Go.Ab

/-
  A row that lists variables: the wrap, the world's shape and what the listed variables hold kept.
-/
namespace Go.Ab
open Go
variable {H : Type} {enc : TypeId × Value → H}

theorem returns_laid_shaped {a : Assume} {C : Checked} {os : Os} {f : FuncId} {fn : Func} {s : ChangeSpec} {conds : List PathCond} {apart fresh handsOn again : Bool} (X : World → Prop) (hX : ∀ w w' : World, w.heap = w'.heap → X w → X w')
    (own : ownKnob C.prog.godebug = none) (started : os.Started) (noInit : C.prog.inits.idxOf? f = none) (hfn : C.prog.funcs[f]? = some fn)
    (witness : ∃ (w : World) (tape : Tape) (i : Input), w.os = os ∧ (w.forCall tape i).Shaped C.prog ∧ i.vars = [] ∧ Input.okWide C.prog (w.forCall tape i) .any w.heap.size f i ∧
      ((s.pre enc C.prog fn conds apart (w.forCall tape i).memory i.args ∧ X (w.forCall tape i).memory) ∧ sizedMet enc C.prog fn (OpenSpec.ofChange s) apart (w.forCall tape i).memory i.args) ∧ a.holds C.prog (lone (Frame.enter C.prog f i.args .normal) [] (w.forCall tape i)))
    (contract : ∀ (W : World) (base : Nat) (args : Array Value) (ds gs : List (DataW H)) (before : List MemPlace),
      (∀ (j : Nat) t v, fn.params[j]? = some t → args[j]? = some v → Value.okWide C.prog W .any base t v) →
      DataW.Whole enc C.prog fn.params.toList s.vars apart W args.toList ds gs before →
      X W →
      (DataW.weightsEach C.prog (fn.params.toList ++ s.plain.varTypes C.prog) (ds ++ gs)).all (· ≤ reachBytes) = true →
      W.ShapedOpen C.prog →
      a.holds C.prog (lone (Frame.enter C.prog f args .normal) [] W) →
      Calls C.prog f args W fun e W' => ∃ v, e = .returned v ∧ s.post enc C.prog fn apart fresh handsOn again W args v W') :
    ReturnsInHanded a C os f .any (fun w args => (s.pre enc C.prog fn conds apart w args ∧ X w) ∧ sizedMet enc C.prog fn (OpenSpec.ofChange s) apart w args) (s.post enc C.prog fn apart fresh handsOn again) := by
  refine returnsInHanded_of_calls own started noInit witness ?_
  intro w tape i _ hshape _ hok hpre hholds
  obtain ⟨_, _, _, fn2, hfn2, _, _, _, _, hval⟩ := hok
  obtain rfl : fn2 = fn := Option.some.inj (hfn2.symm.trans hfn)
  obtain ⟨⟨⟨ds, gs, before, hwhole, _⟩, hlaid⟩, hsized⟩ := hpre
  have hlaid2 : X (w.forCall tape i) := hX _ _ (by rfl) hlaid
  have hwhole2 := DataW.Whole.of_heap (w' := w.forCall tape i) (by rfl) hwhole
  have hrun := contract _ w.heap.size i.args ds gs before hval hwhole2 hlaid2 (hsized.weights hwhole) hshape hholds
  refine hrun.mono ?_
  rintro e W2 ⟨v, rfl, hpost⟩
  exact ChangeSpec.post_blind hpost
end Go.Ab
