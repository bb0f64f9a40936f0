/-
  A header is read.
-/
import Derived.Test.YtpemgniafhdheaaA5
import Derived.Test.YtpemgniafhdheaaA2
import Derived.Shelf.Bytes.SlIndexWhole
import Derived.Shelf.Bytes.IndexByte
import Derived.Shelf.Strings.Builder1
import Derived.Shelf.Strings.Search2
import Derived.Shelf.Small.Strs
namespace Go.Ab
set_option linter.unusedVariables false
set_option linter.unusedSimpArgs false
variable {st st0 S s : St} {e : Env} {b : Nat} {d x : PV}

theorem flines_spec {l : List UInt8} (hx : x.by = some l) : call prog (.fn 164 []) [x] st = some (.fn 171 [.ptr st.boxes.length 0], { boxes := st.boxes ++ [[x]], toks := st.toks, loops := st.loops, low := min st.low st.boxes.length }) := by
  refine call_of_W prog_164 ?_
  unfold F_fields_lines; dsimp only
  have hc := Leaf_by hx
  simp (maxSteps := 1000000) (disch := omega) only [by_inB hx, and_self, allocPV, hc.1, hc.2, capOk, List.all_cons, List.all_nil, Bool.and_true, W_seq, W_region, W_cond, W_block, W_skip, W_label, W_exit, W_goto, W_ret, WO_cons, WO_consG, WO_nil, wantedA_eq, wantB, evOp, ev_tmp, ev_const, ev_fn, WN_some, WN_none, updO_some, updO_none, upd_eq,
 ↓reduceIte, Nat.reduceEqDiff, List.nil_append, List.cons_append, List.append_nil, List.map_cons, List.map_nil, env0_zero, env0_succ, env0_nil, Option.map_some, Option.map_none, seqQ_normal, seqQ_ret, seqQ_exit, seqQ_goto, blockQ_normal, blockQ_ret, blockQ_exit, blockQ_goto, condW_bool, loopQ_ret, loopQ_exit, loopQ_goto, endQ_ret, endQ_normal,
 lss_i, leq_i, gtr_i, geq_i, eql_i, neq_i, eql_8, neq_8, lss_8, leq_8, gtr_8, geq_8, eql_s, neq_s, eql_b, neq_b, not_b, by_bys, by_nils, load_cp1, beq_true, beq_false, Bool.not_eq_true', decide_eq_true_eq, decide_eq_false_iff_not, decide_true, decide_false,
 Int.toNat_natCast, Int.ofNat_lt, Int.ofNat_le, Int.natCast_inj, Bool.false_eq_true, Bool.true_eq_false, extPV, List.getElem?_cons_zero, List.getElem?_cons_succ, nilckPV, Int.reduceToNat, Int.reduceLE, true_and, and_true, reduceCtorEq, or_false, false_or, or_true, Option.some.injEq, exists_eq_left', Bool.not_true, Bool.not_false, ne_eq, Int.reduceEq, not_true_eq_false, not_false_eq_true, Int.reduceLT, UInt8.reduceLT, UInt8.reduceLE, UInt8.reduceToNat]
  exact ⟨.fn 171 [.ptr st.boxes.length 0], rfl, by simp [leave, PV.inB, PV.inB.inBAll]⟩

/-- **The iterator**: at its end it yields the place, without a line. -/
theorem flines_iter {l : List UInt8} (hx : x.by = some l) (hl : l.length ≤ 100000000) {b k N : Nat} (hN : x.tokLt N = true) {P : List (Nat × List UInt8 × Bool) → St → Prop} {D : St → Prop}
    (hbox : ∀ r s, P r s → s.boxes[b]? = some [x]) (htok : ∀ r s, P r s → P r s.tok1)
    (hE : ∀ r s a, P r s → (r = [] ∧ a = l.length ∨ ∃ m, r = [(a, m, false)]) → ∃ t s', call prog (.yld k) [.int .i64 (a : Int), .nils] s = some (.bool t, s') ∧ D s')
    (hY : ∀ q r s v, P (q :: r) s → q.2.2 = true → v.by = some (full q) → v.tokLt N = true → (∃ s', call prog (.yld k) [.int .i64 (q.1 : Int), v] s = some (.bool true, s') ∧ P r s') ∨ (∃ s', call prog (.yld k) [.int .i64 (q.1 : Int), v] s = some (.bool false, s') ∧ D s'))
    (h0 : P (refLines l) { st with low := st.boxes.length }) : ∃ s1, D s1 ∧ call prog (.fn 171 [.ptr b 0]) [.yld k] st = some (leave st s1 (.tup [])) := by
  have key : W prog F_fields_lines_c1.body (env0 ([.yld k] ++ [.ptr b 0])) { st with low := st.boxes.length } (fun xx e1 s1 => (xx = .normal ∨ xx = .ret) ∧ D s1) := by
    obtain ⟨QQ, hQQ⟩ : ∃ QQ : Ex → Env → St → Prop, QQ = fun xx e1 s1 => (xx = .normal ∨ xx = .ret) ∧ D s1 := ⟨_, rfl⟩
    rw [← hQQ]
    unfold F_fields_lines_c1; dsimp only
    simp (maxSteps := 1000000) (disch := omega) only [W_seq, W_region, W_cond, W_block, W_skip, W_label, W_exit, W_goto, W_ret, WO_cons, WO_consG, WO_nil, wantedA_eq, wantB, evOp, ev_tmp, ev_const, ev_fn, WN_some, WN_none, updO_some, updO_none, upd_eq,
 ↓reduceIte, Nat.reduceEqDiff, List.nil_append, List.cons_append, List.append_nil, List.map_cons, List.map_nil, env0_zero, env0_succ, env0_nil, Option.map_some, Option.map_none, seqQ_normal, seqQ_ret, seqQ_exit, seqQ_goto, blockQ_normal, blockQ_ret, blockQ_exit, blockQ_goto, condW_bool, loopQ_ret, loopQ_exit, loopQ_goto, endQ_ret, endQ_normal,
 lss_i, leq_i, gtr_i, geq_i, eql_i, neq_i, eql_8, neq_8, lss_8, leq_8, gtr_8, geq_8, eql_s, neq_s, eql_b, neq_b, not_b, by_bys, by_nils, load_cp1, beq_true, beq_false, Bool.not_eq_true', decide_eq_true_eq, decide_eq_false_iff_not, decide_true, decide_false,
 Int.toNat_natCast, Int.ofNat_lt, Int.ofNat_le, Int.natCast_inj, Bool.false_eq_true, Bool.true_eq_false, extPV, List.getElem?_cons_zero, List.getElem?_cons_succ, nilckPV, Int.reduceToNat, Int.reduceLE, true_and, and_true, reduceCtorEq, or_false, false_or, or_true, Option.some.injEq, exists_eq_left', Bool.not_true, Bool.not_false, ne_eq, Int.reduceEq, not_true_eq_false, not_false_eq_true, Int.reduceLT, UInt8.reduceLT, UInt8.reduceLE, UInt8.reduceToNat]
    obtain ⟨I, hI⟩ : ∃ I : Nat → Env → St → Prop, I = fun n e s => ∃ (a : Nat), n = l.length - a ∧ a ≤ l.length ∧ P (place a (segs (l.drop a) [])) s ∧ e 0 = .yld k ∧ e 1 = .ptr b 0 ∧ e 3 = .int .i64 (a : Int) := ⟨_, rfl⟩
    refine W_loop I ?_ (n := l.length) (by rw [hI]; exact ⟨0, rfl, by omega, h0, rfl, rfl, rfl⟩)
    intro n e s h
    rw [hI] at h
    obtain ⟨a, rfl, ha, hP, e0, e1, e3⟩ := h
    have hb := hbox _ _ hP
    have hld : loadPV s false 1 (.ptr b 0) = some x := by simp [loadPV, hb, readCells]
    have hd := dropB_by (i := a) hx
    have hP1 := htok _ _ hP
    have hb1 := hbox _ _ hP1
    have hld1 : loadPV s.tok1 false 1 (.ptr b 0) = some x := by simp [loadPV, hb1, readCells]
    have htk : s.tok1.toks[s.toks.length]? = some true := by simp [St.tok1]
    have hidx : call prog (.fn 32 []) [x.dropB a, .bys (.own s.toks.length) [13, 10]] s.tok1 = some (.int .i64 (Lib.index (l.drop a) [13, 10]), s.tok1) := by
      rw [call_prim prog_32]
      simp only [List.append_nil, pBytesIndex, hd, by_bys]
      rw [if_pos ⟨by simp; omega, by simp⟩]; rfl
    rcases segs_index (l.drop a) [] with ⟨i1, i2⟩ | ⟨n, i1, i2, i3⟩
    · rw [i2] at hP1
      have hend : (place a (if ([] : List UInt8) ++ l.drop a = [] then [] else [([] ++ l.drop a, false)])) = [] ∧ a = l.length ∨ ∃ m, (place a (if ([] : List UInt8) ++ l.drop a = [] then [] else [([] ++ l.drop a, false)])) = [(a, m, false)] := by
        by_cases hq : ([] : List UInt8) ++ l.drop a = []
        · left
          have := congrArg List.length hq
          simp at this
          rw [if_pos hq]
          exact ⟨rfl, by omega⟩
        · right
          rw [if_neg hq]
          exact ⟨_, rfl⟩
      obtain ⟨t, s', c1, c2⟩ := hE _ _ a hP1 hend
      simp (maxSteps := 1000000) (disch := omega) only [e0, e1, e3, hld, slc_lo hx, lit8_2, freshT_eq, htk, hidx, i1, Int.reduceNeg, Int.reduceLT, c1, W_seq, W_region, W_cond, W_block, W_skip, W_label, W_exit, W_goto, W_ret, WO_cons, WO_consG, WO_nil, wantedA_eq, wantB, evOp, ev_tmp, ev_const, ev_fn, WN_some, WN_none, updO_some, updO_none, upd_eq,
 ↓reduceIte, Nat.reduceEqDiff, List.nil_append, List.cons_append, List.append_nil, List.map_cons, List.map_nil, env0_zero, env0_succ, env0_nil, Option.map_some, Option.map_none, seqQ_normal, seqQ_ret, seqQ_exit, seqQ_goto, blockQ_normal, blockQ_ret, blockQ_exit, blockQ_goto, condW_bool, loopQ_ret, loopQ_exit, loopQ_goto, endQ_ret, endQ_normal,
 lss_i, leq_i, gtr_i, geq_i, eql_i, neq_i, eql_8, neq_8, lss_8, leq_8, gtr_8, geq_8, eql_s, neq_s, eql_b, neq_b, not_b, by_bys, by_nils, load_cp1, beq_true, beq_false, Bool.not_eq_true', decide_eq_true_eq, decide_eq_false_iff_not, decide_true, decide_false,
 Int.toNat_natCast, Int.ofNat_lt, Int.ofNat_le, Int.natCast_inj, Bool.false_eq_true, Bool.true_eq_false, extPV, List.getElem?_cons_zero, List.getElem?_cons_succ, nilckPV, Int.reduceToNat, Int.reduceLE, true_and, and_true, reduceCtorEq, or_false, false_or, or_true, Option.some.injEq, exists_eq_left', Bool.not_true, Bool.not_false, ne_eq, Int.reduceEq, not_true_eq_false, not_false_eq_true, Int.reduceLT, UInt8.reduceLT, UInt8.reduceLE, UInt8.reduceToNat]
      rw [hQQ]; exact ⟨.inr rfl, c2⟩
    · simp only [List.length_drop] at i2
      have hm := midB_by (i := a) (j := a + n + 2) hx
      have hfull : (l.take (a + n + 2)).drop a = full (a, (l.drop a).take n, true) := by
        simp only [full, if_true]
        rw [List.drop_take, show a + n + 2 - a = n + 2 by omega, segs_take i1]
      rw [i3] at hP1
      simp only [place, List.nil_append] at hP1
      have hlen : ((l.drop a).take n).length = n := by simp; omega
      rw [hlen, List.drop_drop, show a + (n + 2) = a + n + 2 by omega] at hP1
      have hn0 : ¬ ((n : Int) < 0) := by omega
      rcases hY (a, (l.drop a).take n, true) _ s.tok1 (x.midB a (a + n + 2)) hP1 rfl (by rw [hm, hfull]) (midB_tok hN) with ⟨s', c1, c2⟩ | ⟨s', c1, c2⟩
      · simp (maxSteps := 1000000) (disch := omega) only [e0, e1, e3, hld, slc_lo hx, lit8_2, freshT_eq, htk, hidx, hld1, i1, hn0, add_n, slc_lohi hx, c1, W_seq, W_region, W_cond, W_block, W_skip, W_label, W_exit, W_goto, W_ret, WO_cons, WO_consG, WO_nil, wantedA_eq, wantB, evOp, ev_tmp, ev_const, ev_fn, WN_some, WN_none, updO_some, updO_none, upd_eq,
 ↓reduceIte, Nat.reduceEqDiff, List.nil_append, List.cons_append, List.append_nil, List.map_cons, List.map_nil, env0_zero, env0_succ, env0_nil, Option.map_some, Option.map_none, seqQ_normal, seqQ_ret, seqQ_exit, seqQ_goto, blockQ_normal, blockQ_ret, blockQ_exit, blockQ_goto, condW_bool, loopQ_ret, loopQ_exit, loopQ_goto, endQ_ret, endQ_normal,
 lss_i, leq_i, gtr_i, geq_i, eql_i, neq_i, eql_8, neq_8, lss_8, leq_8, gtr_8, geq_8, eql_s, neq_s, eql_b, neq_b, not_b, by_bys, by_nils, load_cp1, beq_true, beq_false, Bool.not_eq_true', decide_eq_true_eq, decide_eq_false_iff_not, decide_true, decide_false,
 Int.toNat_natCast, Int.ofNat_lt, Int.ofNat_le, Int.natCast_inj, Bool.false_eq_true, Bool.true_eq_false, extPV, List.getElem?_cons_zero, List.getElem?_cons_succ, nilckPV, Int.reduceToNat, Int.reduceLE, true_and, and_true, reduceCtorEq, or_false, false_or, or_true, Option.some.injEq, exists_eq_left', Bool.not_true, Bool.not_false, ne_eq, Int.reduceEq, not_true_eq_false, not_false_eq_true, Int.reduceLT, UInt8.reduceLT, UInt8.reduceLE, UInt8.reduceToNat]
        refine loopQ_intro (m := l.length - (a + (n + 2))) (by omega) ?_
        rw [hI]
        exact ⟨a + (n + 2), rfl, by omega, by rw [show a + (n + 2) = a + n + 2 by omega]; exact c2, e0, e1, rfl⟩
      · simp (maxSteps := 1000000) (disch := omega) only [e0, e1, e3, hld, slc_lo hx, lit8_2, freshT_eq, htk, hidx, hld1, i1, hn0, add_n, slc_lohi hx, c1, W_seq, W_region, W_cond, W_block, W_skip, W_label, W_exit, W_goto, W_ret, WO_cons, WO_consG, WO_nil, wantedA_eq, wantB, evOp, ev_tmp, ev_const, ev_fn, WN_some, WN_none, updO_some, updO_none, upd_eq,
 ↓reduceIte, Nat.reduceEqDiff, List.nil_append, List.cons_append, List.append_nil, List.map_cons, List.map_nil, env0_zero, env0_succ, env0_nil, Option.map_some, Option.map_none, seqQ_normal, seqQ_ret, seqQ_exit, seqQ_goto, blockQ_normal, blockQ_ret, blockQ_exit, blockQ_goto, condW_bool, loopQ_ret, loopQ_exit, loopQ_goto, endQ_ret, endQ_normal,
 lss_i, leq_i, gtr_i, geq_i, eql_i, neq_i, eql_8, neq_8, lss_8, leq_8, gtr_8, geq_8, eql_s, neq_s, eql_b, neq_b, not_b, by_bys, by_nils, load_cp1, beq_true, beq_false, Bool.not_eq_true', decide_eq_true_eq, decide_eq_false_iff_not, decide_true, decide_false,
 Int.toNat_natCast, Int.ofNat_lt, Int.ofNat_le, Int.natCast_inj, Bool.false_eq_true, Bool.true_eq_false, extPV, List.getElem?_cons_zero, List.getElem?_cons_succ, nilckPV, Int.reduceToNat, Int.reduceLE, true_and, and_true, reduceCtorEq, or_false, false_or, or_true, Option.some.injEq, exists_eq_left', Bool.not_true, Bool.not_false, ne_eq, Int.reduceEq, not_true_eq_false, not_false_eq_true, Int.reduceLT, UInt8.reduceLT, UInt8.reduceLE, UInt8.reduceToNat]
        rw [hQQ]; exact ⟨.inr rfl, c2⟩
  obtain ⟨⟨xx, e1, s1⟩, h1, h2, h3⟩ := key
  refine ⟨s1, h3, ?_⟩
  rw [call_fn prog_171, h1]
  have hr : resOf e1 s1 F_fields_lines_c1.results = some (.tup []) := rfl
  rcases h2 with rfl | rfl <;> simp [finish, hr]

/-! ### How long a field grows -/
theorem segs_sum : ∀ (n : Nat) (l acc : List UInt8), l.length ≤ n → ((segs l acc).map (fun q => q.1.length)).sum ≤ l.length + acc.length := by
  intro n
  induction n using Nat.strongRecOn with
  | _ n ih =>
    intro l acc hn
    match l, hn with
    | [], _ =>
      simp only [segs]; split <;> simp
    | [c], _ => simp [segs]; omega
    | c :: d :: r, hn =>
      simp only [List.length_cons] at hn
      simp only [segs]
      split
      · have := ih r.length (by omega) r [] (Nat.le_refl _)
        simp only [List.map_cons, List.sum_cons, List.length_cons, List.length_nil] at this ⊢
        omega
      · have := ih (d :: r).length (by simp; omega) (d :: r) (acc ++ [c]) (Nat.le_refl _)
        simp only [List.length_append, List.length_cons, List.length_nil] at this ⊢
        omega
def sumL (r : List (Nat × List UInt8 × Bool)) : Nat := (r.map (fun q => q.2.1.length)).sum
theorem place_sum : ∀ (q : List (List UInt8 × Bool)) (a : Nat), sumL (place a q) = (q.map (fun z => z.1.length)).sum := by
  intro q
  induction q with
  | nil => intro a; rfl
  | cons z r ih => intro a; obtain ⟨b, w⟩ := z; have := ih (a + b.length + 2); simp only [sumL] at this; simp [place, sumL, this]
theorem refLines_sum {l : List UInt8} : sumL (refLines l) ≤ l.length := by
  unfold refLines
  rw [place_sum]
  have := segs_sum l.length l [] (Nat.le_refl _)
  simpa using this
theorem lineP_len {p p' : PS} {a : Nat} {s : List UInt8} (h : lineP p a s = .ok p') : p'.fld.2.length ≤ p.fld.2.length + s.length := by
  unfold lineP at h
  split at h
  · split at h
    · cases h; simp
    · cases h
  · split at h
    · cases h
    · split at h
      · cases h; simp; omega
      · cases h

/-! ### The state while a header is read -/
def pst (st : St) (x : PV) (cs : List PV) (fa fc sz : Int) (ts : List Bool) (lo : Nat) (rc : LoopS) : St :=
  ⟨st.boxes ++ [[.int .i64 0, .int .i64 0], cs, [.ptr (st.boxes.length + 1) 0], [.int .i64 fa, .int .i64 fc], [.int .i64 sz], [x]], st.toks ++ ts, st.loops ++ [rc], lo⟩
variable {cs : List PV} {fa fc sz : Int} {ts : List Bool} {lo : Nat} {rc : LoopS}
theorem pst_stf {a c : Int} : storePV (pst st x cs fa fc sz ts lo rc) 2 (.ptr (st.boxes.length + 3) 0) (.agg [.int .i64 a, .int .i64 c]) = some (pst st x cs a c sz ts lo rc) := by
  simp [storePV, pst, get_app, set_app, PV.cells, PV.inB, PV.inB.inBAll, setCells, hasTok, tokOf, leafOk]
theorem pst_sts {a : Int} : storePV (pst st x cs fa fc sz ts lo rc) 1 (.ptr (st.boxes.length + 4) 0) (.int .i64 a) = some (pst st x cs fa fc a ts lo rc) := by
  simp [storePV, pst, get_app, set_app, PV.cells, PV.inB, PV.inB.inBAll, setCells, hasTok, tokOf, leafOk]
theorem pst_ldr : loadPV (pst st x cs fa fc sz ts lo rc) false 1 (.ptr (st.boxes.length + 2) 0) = some (.ptr (st.boxes.length + 1) 0) := by
  simp [loadPV, pst, get_app, readCells]
theorem pst_ldc : loadPV (pst st x cs fa fc sz ts lo rc) false 1 (.ptr (st.boxes.length + 3) 1) = some (.int .i64 fc) := by
  simp [loadPV, pst, get_app, readCells]
theorem pst_get : (pst st x cs fa fc sz ts lo rc).boxes[st.boxes.length + 1]? = some cs := by simp [pst, get_app]
theorem pst_step {S' : St} (h : RdStep st (pst st x cs fa fc sz ts lo rc) S' (st.boxes.length + 1)) : ∃ cs' ts', cs'.length = 5 ∧ S' = pst st x cs' fa fc sz ts' S'.low rc := by
  obtain ⟨⟨cs', h5, hbx⟩, hlp, htk, htl, _, _⟩ := h
  have htk2 : S'.toks.take st.toks.length = st.toks := by rw [htk]; simp [pst]
  refine ⟨cs', S'.toks.drop st.toks.length, h5, ?_⟩
  obtain ⟨bb, tt, ll, ww⟩ := S'
  simp only [pst, set_app, List.set_cons_succ, List.set_cons_zero] at hbx hlp htk2 ⊢
  rw [hbx, hlp]
  congr 1
  rw [← List.take_append_drop st.toks.length tt, htk2]
  simp

theorem eqn_b {t : Tok} {l : List UInt8} : binPV .eql .slice (.bys t l) .nils = some (.bool false) := rfl
theorem eqn_n : binPV .eql .slice .nils .nils = some (.bool true) := rfl
theorem len_bys {t : Tok} {l : List UInt8} : lenPV false (.bys t l) = some (.int .i64 (l.length : Int)) := rfl

/-- What a header's reader holds. -/
structure PHold (st s : St) (d : PV) (p : PS) (lo : Nat) : Prop where
  ow : Own st s 2 d (p.done.map fV)
  ne : p.done = [] → d = .nils
  lt : d = .nils ∨ lo ≤ st.boxes.length + 1
  lg : st.boxes.length + 1 ≤ lo

set_option maxHeartbeats 1000000 in
theorem Parse_spec {l : List UInt8} (hx : x.by = some l) (hl : l.length ≤ 100000000) (hxt : x.tokLt st.toks.length = true) :
    call prog (.fn 150 []) [x] st = some (.tup [newSl st 2 ((parseOf l).1.map fV), .int .i64 ((parseOf l).2.1 : Int), flV (parseOf l).2.2], newS st ((parseOf l).1.map fV).isEmpty) := by
  refine call_of_W prog_150 ?_
  unfold F_fields_Parse; dsimp only
  obtain ⟨n, hn⟩ : ∃ n, n = st.boxes.length := ⟨_, rfl⟩
  have hb0 : buildCells [.nils, .str [], .str [], .int .i64 0, .bool false] [] = some [.nils, .str [], .str [], .int .i64 0, .bool false] := rfl
  have hst1 : ∀ {T : List Bool} {L : List LoopS} {lo : Nat}, storePV ⟨st.boxes ++ [[.int .i64 0, .int .i64 0], [.nils, .str [], .str [], .int .i64 0, .bool false], [.nilp]], T, L, lo⟩ 1 (.ptr (st.boxes.length + 2) 0) (.ptr (st.boxes.length + 1) 0) =
      some ⟨st.boxes ++ [[.int .i64 0, .int .i64 0], [.nils, .str [], .str [], .int .i64 0, .bool false], [.ptr (st.boxes.length + 1) 0]], T, L, lo⟩ := by
    intro T L lo
    simp [storePV, get_app, set_app, PV.cells, PV.inB, setCells, hasTok, tokOf, leafOk]
  have hst2 : ∀ {T : List Bool} {L : List LoopS} {lo : Nat}, storePV ⟨st.boxes ++ [[.int .i64 0, .int .i64 0], [.nils, .str [], .str [], .int .i64 0, .bool false], [.ptr (st.boxes.length + 1) 0], [.int .i64 0, .int .i64 0], [.int .i64 0]], T, L, lo⟩ 1 (.ptr (st.boxes.length + 4) 0) (.int .i64 0) =
      some ⟨st.boxes ++ [[.int .i64 0, .int .i64 0], [.nils, .str [], .str [], .int .i64 0, .bool false], [.ptr (st.boxes.length + 1) 0], [.int .i64 0, .int .i64 0], [.int .i64 0]], T, L, lo⟩ := by
    intro T L lo
    simp [storePV, get_app, set_app, PV.cells, PV.inB, setCells, hasTok, tokOf, leafOk]
  simp (maxSteps := 1000000) (disch := omega) only [W_scope, allocPV, W_seq, W_region, W_cond, W_block, W_skip, W_label, W_exit, W_goto, W_ret, WO_cons, WO_consG, WO_nil, wantedA_eq, wantB, evOp, ev_tmp, ev_const, ev_fn, WN_some, WN_none, updO_some, updO_none, upd_eq,
 ↓reduceIte, Nat.reduceEqDiff, List.nil_append, List.cons_append, List.append_nil, List.map_cons, List.map_nil, env0_zero, env0_succ, env0_nil, Option.map_some, Option.map_none, seqQ_normal, seqQ_ret, seqQ_exit, seqQ_goto, blockQ_normal, blockQ_ret, blockQ_exit, blockQ_goto, condW_bool, loopQ_ret, loopQ_exit, loopQ_goto, endQ_ret, endQ_normal,
 lss_i, leq_i, gtr_i, geq_i, eql_i, neq_i, eql_8, neq_8, lss_8, leq_8, gtr_8, geq_8, eql_s, neq_s, eql_b, neq_b, not_b, by_bys, by_nils, load_cp1, beq_true, beq_false, Bool.not_eq_true', decide_eq_true_eq, decide_eq_false_iff_not, decide_true, decide_false,
 Int.toNat_natCast, Int.ofNat_lt, Int.ofNat_le, Int.natCast_inj, Bool.false_eq_true, Bool.true_eq_false, extPV, List.getElem?_cons_zero, List.getElem?_cons_succ, nilckPV, Int.reduceToNat, Int.reduceLE, true_and, and_true, reduceCtorEq, or_false, false_or, or_true, Option.some.injEq, exists_eq_left', Bool.not_true, Bool.not_false, ne_eq, Int.reduceEq, not_true_eq_false, not_false_eq_true, Int.reduceLT, UInt8.reduceLT, UInt8.reduceLE, UInt8.reduceToNat]
  refine W_scopeAt ?_
  have hin : ∀ m : Nat, PV.inB.inBAll m [PV.nils, .str [], .str [], .int .i64 0, .bool false] = true := fun m => rfl
  have hlf : List.all [PV.nils, .str [], .str [], .int .i64 0, .bool false] leafOk = true := rfl
  simp (maxSteps := 1000000) (disch := omega) only [allocPV, hb0, PV.inB, hin, hlf, PV.cells, and_self, List.append_assoc, List.length_append, List.length_cons, List.length_nil, Nat.zero_add, Nat.reduceAdd, hst1, hst2, flines_spec hx, W_seq, W_region, W_cond, W_block, W_skip, W_label, W_exit, W_goto, W_ret, WO_cons, WO_consG, WO_nil, wantedA_eq, wantB, evOp, ev_tmp, ev_const, ev_fn, WN_some, WN_none, updO_some, updO_none, upd_eq,
 ↓reduceIte, Nat.reduceEqDiff, List.nil_append, List.cons_append, List.append_nil, List.map_cons, List.map_nil, env0_zero, env0_succ, env0_nil, Option.map_some, Option.map_none, seqQ_normal, seqQ_ret, seqQ_exit, seqQ_goto, blockQ_normal, blockQ_ret, blockQ_exit, blockQ_goto, condW_bool, loopQ_ret, loopQ_exit, loopQ_goto, endQ_ret, endQ_normal,
 lss_i, leq_i, gtr_i, geq_i, eql_i, neq_i, eql_8, neq_8, lss_8, leq_8, gtr_8, geq_8, eql_s, neq_s, eql_b, neq_b, not_b, by_bys, by_nils, load_cp1, beq_true, beq_false, Bool.not_eq_true', decide_eq_true_eq, decide_eq_false_iff_not, decide_true, decide_false,
 Int.toNat_natCast, Int.ofNat_lt, Int.ofNat_le, Int.natCast_inj, Bool.false_eq_true, Bool.true_eq_false, extPV, List.getElem?_cons_zero, List.getElem?_cons_succ, nilckPV, Int.reduceToNat, Int.reduceLE, true_and, and_true, reduceCtorEq, or_false, false_or, or_true, Option.some.injEq, exists_eq_left', Bool.not_true, Bool.not_false, ne_eq, Int.reduceEq, not_true_eq_false, not_false_eq_true, Int.reduceLT, UInt8.reduceLT, UInt8.reduceLE, UInt8.reduceToNat]
  refine W_rangeFunc (fid := 171) (caps := [.ptr (st.boxes.length + 5) 0]) rfl prog_171 ?_
  generalize hrec : recOf _ _ _ _ = rec
  have hra := congrArg LoopS.assign hrec.symm
  have hrb := congrArg LoopS.body hrec.symm
  dsimp only [recOf] at hra hrb
  have r0 : rec.status = 0 := by rw [← hrec]; rfl
  have r1 : rec.pend = .normal := by rw [← hrec]; rfl
  have r2 : rec.params = [14, 15] := by rw [← hrec]; rfl
  have r3 : rec.env 5 = .ptr (st.boxes.length + 2) 0 := by rw [← hrec]; rfl
  have r4 : rec.env 6 = .ptr (st.boxes.length + 3) 0 := by rw [← hrec]; rfl
  have r6 : rec.env 7 = .ptr (st.boxes.length + 4) 0 := by rw [← hrec]; rfl
  have r5 : rec = { rec with status := 0, pend := .normal } := by rw [← hrec]; rfl
  obtain ⟨P, hP⟩ : ∃ P : List (Nat × List UInt8 × Bool) → St → Prop, P = fun r s => ∃ ts d p lo, s = pst st x (rdC d p) 0 0 0 ts lo rec ∧ PHold st s d p lo ∧ PInv l.length p ∧ (∀ q ∈ r, q.1 + q.2.1.length ≤ l.length) ∧ p.fld.2.length + sumL r ≤ l.length ∧ parseOf l = parseGo l.length r p := ⟨_, rfl⟩
  obtain ⟨D, hD⟩ : ∃ D : St → Prop, D = fun s => ∃ cs fa fc sz ts lo, s = pst st x cs fa fc sz ts lo { rec with status := 2, pend := .exit 0 } ∧ st.boxes.length + 1 ≤ lo ∧ ((fc ≠ 0 ∧ parseOf l = ([], 0, (fa, fc))) ∨ (fc = 0 ∧ fa = 0 ∧ ∃ d p sz', cs = rdC d p ∧ PHold st s d p lo ∧ sz = ((sz' : Nat) : Int) ∧ parseOf l = (p.done, sz', (0, 0)))) := ⟨_, rfl⟩
  obtain ⟨rec1, hrec1⟩ : ∃ r, r = ({ rec with status := 1 } : LoopS) := ⟨_, rfl⟩
  -- how a round ends with a fault, or at the end
  have out : ∀ (K : Bool → St → Prop), (∀ s, D s → K false s) → ∀ (cs : List PV) (fa fc sz : Int) (ts : List Bool) (lo : Nat) (e2 : Env), st.boxes.length + 1 ≤ lo →
      ((fc ≠ 0 ∧ parseOf l = ([], 0, (fa, fc))) ∨ (fc = 0 ∧ fa = 0 ∧ ∃ d p sz', cs = rdC d p ∧ PHold st (pst st x cs fa fc sz ts lo rec1) d p lo ∧ sz = ((sz' : Nat) : Int) ∧ parseOf l = (p.done, sz', (0, 0)))) →
      roundQ st.loops.length K (.exit 0) e2 (pst st x cs fa fc sz ts lo rec1) := by
    intro K hK cs fa fc sz ts lo e2 hlo hpo
    refine ⟨rec1, get_app0, ?_⟩
    have : decide (Ex.exit 0 = Ex.normal) = false := rfl
    rw [this]
    apply hK
    rw [hD]
    refine ⟨cs, fa, fc, sz, ts, lo, ?_, hlo, ?_⟩
    · simp only [pst, set_app0, hrec1]
      simp
    · rcases hpo with h | ⟨h1, h2, d, p, sz', h3, h4, h5, h6⟩
      · exact .inl h
      · exact .inr ⟨h1, h2, d, p, sz', h3, ⟨h4.ow.take (fun i _ => rfl), h4.ne, h4.lt, h4.lg⟩, h5, h6⟩
  have hasg : ∀ (a : Nat) (v : PV) (S : St), ex prog rec.assign (updAll rec.env rec.params [.int .i64 (a : Int), v]) S = some (.normal, upd (upd (upd (upd rec.env 14 (.int .i64 (a : Int))) 15 v) 8 (.int .i64 (a : Int))) 9 v, S) := fun a v S => by
    refine ex_of_W ?_
    simp (maxSteps := 1000000) (disch := omega) only [hra, r2, updAll, W_seq, W_region, W_cond, W_block, W_skip, W_label, W_exit, W_goto, W_ret, WO_cons, WO_consG, WO_nil, wantedA_eq, wantB, evOp, ev_tmp, ev_const, ev_fn, WN_some, WN_none, updO_some, updO_none, upd_eq,
 ↓reduceIte, Nat.reduceEqDiff, List.nil_append, List.cons_append, List.append_nil, List.map_cons, List.map_nil, env0_zero, env0_succ, env0_nil, Option.map_some, Option.map_none, seqQ_normal, seqQ_ret, seqQ_exit, seqQ_goto, blockQ_normal, blockQ_ret, blockQ_exit, blockQ_goto, condW_bool, loopQ_ret, loopQ_exit, loopQ_goto, endQ_ret, endQ_normal,
 lss_i, leq_i, gtr_i, geq_i, eql_i, neq_i, eql_8, neq_8, lss_8, leq_8, gtr_8, geq_8, eql_s, neq_s, eql_b, neq_b, not_b, by_bys, by_nils, load_cp1, beq_true, beq_false, Bool.not_eq_true', decide_eq_true_eq, decide_eq_false_iff_not, decide_true, decide_false,
 Int.toNat_natCast, Int.ofNat_lt, Int.ofNat_le, Int.natCast_inj, Bool.false_eq_true, Bool.true_eq_false, extPV, List.getElem?_cons_zero, List.getElem?_cons_succ, nilckPV, Int.reduceToNat, Int.reduceLE, true_and, and_true, reduceCtorEq, or_false, false_or, or_true, Option.some.injEq, exists_eq_left', Bool.not_true, Bool.not_false, ne_eq, Int.reduceEq, not_true_eq_false, not_false_eq_true, Int.reduceLT, UInt8.reduceLT, UInt8.reduceLE, UInt8.reduceToNat]
  obtain ⟨s1, hs1, hcall⟩ := flines_iter (st := ⟨st.boxes ++ [[.int .i64 0, .int .i64 0], [.nils, .str [], .str [], .int .i64 0, .bool false], [.ptr (st.boxes.length + 1) 0], [.int .i64 0, .int .i64 0], [.int .i64 0], [x]], st.toks, st.loops ++ [rec], min st.boxes.length (st.boxes.length + 5)⟩) hx hl (b := st.boxes.length + 5) (k := st.loops.length) (N := st.toks.length) hxt (P := P) (D := D)
    (fun r s h => by rw [hP] at h; obtain ⟨ts, d, p, lo, rfl, _⟩ := h; exact get_app)
    (fun r s h => by
      rw [hP] at h ⊢; obtain ⟨ts, d, p, lo, rfl, h2, h3⟩ := h
      exact ⟨ts ++ [true], d, p, lo, by simp [St.tok1, pst], ⟨h2.ow.tok1, h2.ne, h2.lt, h2.lg⟩, h3⟩)
    (fun r s a h hr => by
      rw [hP] at h
      obtain ⟨ts, d, p, lo, rfl, h2, h3, h4, h5, h6⟩ := h
      have hpo : parseOf l = ([], 0, ((a : Int), 42)) := by
        rw [h6]
        rcases hr with ⟨rfl, rfl⟩ | ⟨m, rfl⟩ <;> rfl
      refine yld_of_W (r := rec) (K := fun _ s' => D s') (args := [.int .i64 (a : Int), .nils]) get_app0 r0 (by rw [r2]; rfl) (hasg a .nils _) ?_
      have hset : ({ pst st x (rdC d p) 0 0 0 ts lo rec with loops := (pst st x (rdC d p) 0 0 0 ts lo rec).loops.set st.loops.length { rec with status := 1 } } : St) = pst st x (rdC d p) 0 0 0 ts lo rec1 := by
        simp only [pst, set_app0, hrec1]
      rw [hset, hrb]
      simp (maxSteps := 1000000) (disch := omega) only [r3, r4, r6, eqn_n, build2 Leaf_int Leaf_int, pst_stf, faP, Nat.zero_add, pst_ldc, W_seq, W_region, W_cond, W_block, W_skip, W_label, W_exit, W_goto, W_ret, WO_cons, WO_consG, WO_nil, wantedA_eq, wantB, evOp, ev_tmp, ev_const, ev_fn, WN_some, WN_none, updO_some, updO_none, upd_eq,
 ↓reduceIte, Nat.reduceEqDiff, List.nil_append, List.cons_append, List.append_nil, List.map_cons, List.map_nil, env0_zero, env0_succ, env0_nil, Option.map_some, Option.map_none, seqQ_normal, seqQ_ret, seqQ_exit, seqQ_goto, blockQ_normal, blockQ_ret, blockQ_exit, blockQ_goto, condW_bool, loopQ_ret, loopQ_exit, loopQ_goto, endQ_ret, endQ_normal,
 lss_i, leq_i, gtr_i, geq_i, eql_i, neq_i, eql_8, neq_8, lss_8, leq_8, gtr_8, geq_8, eql_s, neq_s, eql_b, neq_b, not_b, by_bys, by_nils, load_cp1, beq_true, beq_false, Bool.not_eq_true', decide_eq_true_eq, decide_eq_false_iff_not, decide_true, decide_false,
 Int.toNat_natCast, Int.ofNat_lt, Int.ofNat_le, Int.natCast_inj, Bool.false_eq_true, Bool.true_eq_false, extPV, List.getElem?_cons_zero, List.getElem?_cons_succ, nilckPV, Int.reduceToNat, Int.reduceLE, true_and, and_true, reduceCtorEq, or_false, false_or, or_true, Option.some.injEq, exists_eq_left', Bool.not_true, Bool.not_false, ne_eq, Int.reduceEq, not_true_eq_false, not_false_eq_true, Int.reduceLT, UInt8.reduceLT, UInt8.reduceLE, UInt8.reduceToNat]
      exact out _ (fun s h => h) _ _ _ _ _ _ _ h2.lg (.inl ⟨by decide, hpo⟩))
    (fun q r s v h hw hv hvt => by
      rw [hP] at h
      obtain ⟨ts, d, p, lo, rfl, h2, h3, h4, h5, h6⟩ := h
      obtain ⟨K, hK⟩ : ∃ K : Bool → St → Prop, K = fun b s' => (b = true ∧ P r s') ∨ (b = false ∧ D s') := ⟨_, rfl⟩
      have hKD : ∀ s, D s → K false s := fun s h => by rw [hK]; exact .inr ⟨rfl, h⟩
      have hmain : ∃ b s', call prog (.yld st.loops.length) [.int .i64 (q.1 : Int), v] (pst st x (rdC d p) 0 0 0 ts lo rec) = some (.bool b, s') ∧ K b s' := by
        refine yld_of_W (r := rec) (args := [.int .i64 (q.1 : Int), v]) get_app0 r0 (by rw [r2]; rfl) (hasg q.1 v _) ?_
        have hset : ({ pst st x (rdC d p) 0 0 0 ts lo rec with loops := (pst st x (rdC d p) 0 0 0 ts lo rec).loops.set st.loops.length { rec with status := 1 } } : St) = pst st x (rdC d p) 0 0 0 ts lo rec1 := by
          simp only [pst, set_app0, hrec1]
        rw [hset, hrb]
        have hq4 := h4 q (by simp)
        have hfull : full q = q.2.1 ++ [13, 10] := by simp [full, hw]
        rw [hfull] at hv
        obtain ⟨t, rfl⟩ : ∃ t, v = .bys t (q.2.1 ++ [13, 10]) := by
          rcases by_cases' hv with ⟨_, h⟩ | h
          · exact absurd h (by simp)
          · exact h
        have hln : (q.2.1 ++ [13, 10]).length = q.2.1.length + 2 := by simp
        have hsum : p.fld.2.length + q.2.1.length + sumL r ≤ l.length := by
          simp only [sumL, List.map_cons, List.sum_cons] at h5 ⊢; omega
        have hst0 : st.toks.length ≤ (pst st x (rdC d p) 0 0 0 ts lo rec1).toks.length := by simp [pst]
        have hstT : (pst st x (rdC d p) 0 0 0 ts lo rec1).toks.take st.toks.length = st.toks := by simp [pst]
        have hRd : RdOK st (pst st x (rdC d p) 0 0 0 ts lo rec1) (st.boxes.length + 1) d p := ⟨pst_get, h2.ow.take (fun i _ => rfl), h2.ne⟩
        have hdl : p.done.length ≤ 100000000 := by have := h3.ln; omega
        -- what a reader's call leaves
        have held : ∀ {S' : St} {d' : PV} {p' : PS}, RdStep st (pst st x (rdC d p) 0 0 0 ts lo rec1) S' (st.boxes.length + 1) → RdOK st S' (st.boxes.length + 1) d' p' → (d' = d ∨ S'.low ≤ st.boxes.length + 1) → PHold st S' d' p' S'.low := by
          intro S' d' p' k1 k2 k3
          have q1 := k1.lw; have q2 := k1.lu
          have q3 := h2.lg
          simp only [pst] at q1 q2
          refine ⟨k2.ow, k2.ne, ?_, by omega⟩
          rcases k3 with k3 | k3
          · rw [k3]
            rcases h2.lt with h | h
            · exact .inl h
            · exact .inr (by omega)
          · exact .inr k3
        by_cases c1 : q.2.1 = []
        · -- the end
          have e1 : ((q.2.1 ++ [13, 10]).length : Int) = 2 := by rw [c1]; rfl
          obtain ⟨S', k1, k2, k3⟩ := shut_spec hRd hst0 hstT (by omega) hdl
          obtain ⟨cs', ts', hc5, hS'⟩ := pst_step k2
          have hl2 : st.boxes.length + 1 ≤ S'.low := by have q1 := k2.lw; have q3 := h2.lg; simp only [pst] at q1; omega
          obtain ⟨lo', hlo'⟩ : ∃ lo', lo' = S'.low := ⟨_, rfl⟩
          rw [← hlo'] at hS' hl2
          have hgo : parseOf l = (match shutP p with | none => ([], 0, ((p.pos : Int), 50)) | some p' => (p'.done, q.1 + 2, (0, 0))) := by
            rw [h6, parseGo, if_neg (by rw [hw]; simp), if_pos c1]
            cases shutP p <;> rfl
          cases hsh : shutP p with
          | none =>
            have hsf : shutF p = ((p.pos : Int), 50) := by simp [shutF, hsh]
            rw [hsf, hS'] at k1
            rw [hsh] at hgo
            simp (maxSteps := 1000000) (disch := omega) only [r3, r4, r6, eqn_b, len_bys, e1, pst_ldr, k1, flV, pst_stf, add_n, pst_sts, W_seq, W_region, W_cond, W_block, W_skip, W_label, W_exit, W_goto, W_ret, WO_cons, WO_consG, WO_nil, wantedA_eq, wantB, evOp, ev_tmp, ev_const, ev_fn, WN_some, WN_none, updO_some, updO_none, upd_eq,
 ↓reduceIte, Nat.reduceEqDiff, List.nil_append, List.cons_append, List.append_nil, List.map_cons, List.map_nil, env0_zero, env0_succ, env0_nil, Option.map_some, Option.map_none, seqQ_normal, seqQ_ret, seqQ_exit, seqQ_goto, blockQ_normal, blockQ_ret, blockQ_exit, blockQ_goto, condW_bool, loopQ_ret, loopQ_exit, loopQ_goto, endQ_ret, endQ_normal,
 lss_i, leq_i, gtr_i, geq_i, eql_i, neq_i, eql_8, neq_8, lss_8, leq_8, gtr_8, geq_8, eql_s, neq_s, eql_b, neq_b, not_b, by_bys, by_nils, load_cp1, beq_true, beq_false, Bool.not_eq_true', decide_eq_true_eq, decide_eq_false_iff_not, decide_true, decide_false,
 Int.toNat_natCast, Int.ofNat_lt, Int.ofNat_le, Int.natCast_inj, Bool.false_eq_true, Bool.true_eq_false, extPV, List.getElem?_cons_zero, List.getElem?_cons_succ, nilckPV, Int.reduceToNat, Int.reduceLE, true_and, and_true, reduceCtorEq, or_false, false_or, or_true, Option.some.injEq, exists_eq_left', Bool.not_true, Bool.not_false, ne_eq, Int.reduceEq, not_true_eq_false, not_false_eq_true, Int.reduceLT, UInt8.reduceLT, UInt8.reduceLE, UInt8.reduceToNat]
            exact out K hKD _ _ _ _ _ _ _ hl2 (.inl ⟨by decide, hgo⟩)
          | some p' =>
            obtain ⟨d', hOK, hdd⟩ := k3 p' hsh
            have hsf : shutF p = (0, 0) := by simp [shutF, hsh]
            have hH := held k2 hOK hdd
            have hcs : cs' = rdC d' p' := by
              have := hOK.bx
              rw [hS', pst_get] at this
              exact Option.some.inj this
            rw [hsf, hS'] at k1
            rw [hsh] at hgo
            simp (maxSteps := 1000000) (disch := omega) only [r3, r4, r6, eqn_b, len_bys, e1, pst_ldr, k1, flV, pst_stf, add_n, pst_sts, Int.reduceToNat, W_seq, W_region, W_cond, W_block, W_skip, W_label, W_exit, W_goto, W_ret, WO_cons, WO_consG, WO_nil, wantedA_eq, wantB, evOp, ev_tmp, ev_const, ev_fn, WN_some, WN_none, updO_some, updO_none, upd_eq,
 ↓reduceIte, Nat.reduceEqDiff, List.nil_append, List.cons_append, List.append_nil, List.map_cons, List.map_nil, env0_zero, env0_succ, env0_nil, Option.map_some, Option.map_none, seqQ_normal, seqQ_ret, seqQ_exit, seqQ_goto, blockQ_normal, blockQ_ret, blockQ_exit, blockQ_goto, condW_bool, loopQ_ret, loopQ_exit, loopQ_goto, endQ_ret, endQ_normal,
 lss_i, leq_i, gtr_i, geq_i, eql_i, neq_i, eql_8, neq_8, lss_8, leq_8, gtr_8, geq_8, eql_s, neq_s, eql_b, neq_b, not_b, by_bys, by_nils, load_cp1, beq_true, beq_false, Bool.not_eq_true', decide_eq_true_eq, decide_eq_false_iff_not, decide_true, decide_false,
 Int.toNat_natCast, Int.ofNat_lt, Int.ofNat_le, Int.natCast_inj, Bool.false_eq_true, Bool.true_eq_false, extPV, List.getElem?_cons_zero, List.getElem?_cons_succ, nilckPV, Int.reduceToNat, Int.reduceLE, true_and, and_true, reduceCtorEq, or_false, false_or, or_true, Option.some.injEq, exists_eq_left', Bool.not_true, Bool.not_false, ne_eq, Int.reduceEq, not_true_eq_false, not_false_eq_true, Int.reduceLT, UInt8.reduceLT, UInt8.reduceLE, UInt8.reduceToNat]
            exact out K hKD _ _ _ _ _ _ _ hl2 (.inr ⟨rfl, rfl, d', p', q.1 + 2, hcs, ⟨hH.ow.take (fun i _ => by rw [hS']; rfl), hH.ne, by rw [hlo']; exact hH.lt, hl2⟩, rfl, hgo⟩)
        · have hpos := List.length_pos_iff.2 c1
          have e1 : ¬ ((q.2.1 ++ [13, 10]).length : Int) = 2 := by rw [hln]; omega
          by_cases c2 : 998 < q.2.1.length
          · have e2 : (1000 : Int) < ((q.2.1 ++ [13, 10]).length : Int) := by rw [hln]; omega
            have hgo : parseOf l = ([], 0, ((q.1 : Int), 40)) := by
              rw [h6, parseGo, if_neg (by rw [hw]; simp), if_neg c1, if_pos c2]
            simp (maxSteps := 1000000) (disch := omega) only [r3, r4, r6, eqn_b, len_bys, e1, e2, build2 Leaf_int Leaf_int, pst_stf, faP, Nat.zero_add, pst_ldc, W_seq, W_region, W_cond, W_block, W_skip, W_label, W_exit, W_goto, W_ret, WO_cons, WO_consG, WO_nil, wantedA_eq, wantB, evOp, ev_tmp, ev_const, ev_fn, WN_some, WN_none, updO_some, updO_none, upd_eq,
 ↓reduceIte, Nat.reduceEqDiff, List.nil_append, List.cons_append, List.append_nil, List.map_cons, List.map_nil, env0_zero, env0_succ, env0_nil, Option.map_some, Option.map_none, seqQ_normal, seqQ_ret, seqQ_exit, seqQ_goto, blockQ_normal, blockQ_ret, blockQ_exit, blockQ_goto, condW_bool, loopQ_ret, loopQ_exit, loopQ_goto, endQ_ret, endQ_normal,
 lss_i, leq_i, gtr_i, geq_i, eql_i, neq_i, eql_8, neq_8, lss_8, leq_8, gtr_8, geq_8, eql_s, neq_s, eql_b, neq_b, not_b, by_bys, by_nils, load_cp1, beq_true, beq_false, Bool.not_eq_true', decide_eq_true_eq, decide_eq_false_iff_not, decide_true, decide_false,
 Int.toNat_natCast, Int.ofNat_lt, Int.ofNat_le, Int.natCast_inj, Bool.false_eq_true, Bool.true_eq_false, extPV, List.getElem?_cons_zero, List.getElem?_cons_succ, nilckPV, Int.reduceToNat, Int.reduceLE, true_and, and_true, reduceCtorEq, or_false, false_or, or_true, Option.some.injEq, exists_eq_left', Bool.not_true, Bool.not_false, ne_eq, Int.reduceEq, not_true_eq_false, not_false_eq_true, Int.reduceLT, UInt8.reduceLT, UInt8.reduceLE, UInt8.reduceToNat]
            exact out K hKD _ _ _ _ _ _ _ h2.lg (.inl ⟨by decide, hgo⟩)
          · have e2 : ¬ (1000 : Int) < ((q.2.1 ++ [13, 10]).length : Int) := by rw [hln]; omega
            obtain ⟨S', k1, k2, k3⟩ := line_spec (a := q.1) hRd hst0 hstT (by omega) hdl c1 (by omega)
            obtain ⟨cs', ts', hc5, hS'⟩ := pst_step k2
            have hl2 : st.boxes.length + 1 ≤ S'.low := by have q1 := k2.lw; have q3 := h2.lg; simp only [pst] at q1; omega
            obtain ⟨lo', hlo'⟩ : ∃ lo', lo' = S'.low := ⟨_, rfl⟩
            rw [← hlo'] at hS' hl2
            have hgo : parseOf l = (match lineP p q.1 q.2.1 with | .error a => ([], 0, ((a : Int), 50)) | .ok p' => parseGo l.length r p') := by
              rw [h6, parseGo, if_neg (by rw [hw]; simp), if_neg c1, if_neg c2]
              cases lineP p q.1 q.2.1 <;> rfl
            have hsl : slcPV 1 (.bys t (q.2.1 ++ [13, 10])) none (some (.int .i64 (((q.2.1 ++ [13, 10]).length - 2 : Nat) : Int))) none = some (.bys .no q.2.1) := by
              rw [slc_hi by_bys (by omega) (by simp)]
              simp [PV.takeB]
            cases hli : lineP p q.1 q.2.1 with
            | error a =>
              have hlf : lineF p q.1 q.2.1 = ((a : Int), 50) := by simp [lineF, hli]
              rw [hlf, hS'] at k1
              rw [hli] at hgo
              simp (maxSteps := 1000000) (disch := omega) only [r3, r4, r6, eqn_b, len_bys, e1, e2, pst_ldr, sub_n, Int.reduceToNat, hsl, b2s_by by_bys, k1, flV, pst_stf, faP, Nat.zero_add, pst_ldc, W_seq, W_region, W_cond, W_block, W_skip, W_label, W_exit, W_goto, W_ret, WO_cons, WO_consG, WO_nil, wantedA_eq, wantB, evOp, ev_tmp, ev_const, ev_fn, WN_some, WN_none, updO_some, updO_none, upd_eq,
 ↓reduceIte, Nat.reduceEqDiff, List.nil_append, List.cons_append, List.append_nil, List.map_cons, List.map_nil, env0_zero, env0_succ, env0_nil, Option.map_some, Option.map_none, seqQ_normal, seqQ_ret, seqQ_exit, seqQ_goto, blockQ_normal, blockQ_ret, blockQ_exit, blockQ_goto, condW_bool, loopQ_ret, loopQ_exit, loopQ_goto, endQ_ret, endQ_normal,
 lss_i, leq_i, gtr_i, geq_i, eql_i, neq_i, eql_8, neq_8, lss_8, leq_8, gtr_8, geq_8, eql_s, neq_s, eql_b, neq_b, not_b, by_bys, by_nils, load_cp1, beq_true, beq_false, Bool.not_eq_true', decide_eq_true_eq, decide_eq_false_iff_not, decide_true, decide_false,
 Int.toNat_natCast, Int.ofNat_lt, Int.ofNat_le, Int.natCast_inj, Bool.false_eq_true, Bool.true_eq_false, extPV, List.getElem?_cons_zero, List.getElem?_cons_succ, nilckPV, Int.reduceToNat, Int.reduceLE, true_and, and_true, reduceCtorEq, or_false, false_or, or_true, Option.some.injEq, exists_eq_left', Bool.not_true, Bool.not_false, ne_eq, Int.reduceEq, not_true_eq_false, not_false_eq_true, Int.reduceLT, UInt8.reduceLT, UInt8.reduceLE, UInt8.reduceToNat]
              exact out K hKD _ _ _ _ _ _ _ hl2 (.inl ⟨by decide, hgo⟩)
            | ok p' =>
              obtain ⟨d', hOK, hdd⟩ := k3 p' hli
              have hlf : lineF p q.1 q.2.1 = (0, 0) := by simp [lineF, hli]
              have hH := held k2 hOK hdd
              have hcs : cs' = rdC d' p' := by
                have := hOK.bx
                rw [hS', pst_get] at this
                exact Option.some.inj this
              rw [hlf, hS'] at k1
              rw [hli] at hgo
              simp (maxSteps := 1000000) (disch := omega) only [r3, r4, r6, eqn_b, len_bys, e1, e2, pst_ldr, sub_n, Int.reduceToNat, hsl, b2s_by by_bys, k1, flV, pst_stf, faP, Nat.zero_add, pst_ldc, W_seq, W_region, W_cond, W_block, W_skip, W_label, W_exit, W_goto, W_ret, WO_cons, WO_consG, WO_nil, wantedA_eq, wantB, evOp, ev_tmp, ev_const, ev_fn, WN_some, WN_none, updO_some, updO_none, upd_eq,
 ↓reduceIte, Nat.reduceEqDiff, List.nil_append, List.cons_append, List.append_nil, List.map_cons, List.map_nil, env0_zero, env0_succ, env0_nil, Option.map_some, Option.map_none, seqQ_normal, seqQ_ret, seqQ_exit, seqQ_goto, blockQ_normal, blockQ_ret, blockQ_exit, blockQ_goto, condW_bool, loopQ_ret, loopQ_exit, loopQ_goto, endQ_ret, endQ_normal,
 lss_i, leq_i, gtr_i, geq_i, eql_i, neq_i, eql_8, neq_8, lss_8, leq_8, gtr_8, geq_8, eql_s, neq_s, eql_b, neq_b, not_b, by_bys, by_nils, load_cp1, beq_true, beq_false, Bool.not_eq_true', decide_eq_true_eq, decide_eq_false_iff_not, decide_true, decide_false,
 Int.toNat_natCast, Int.ofNat_lt, Int.ofNat_le, Int.natCast_inj, Bool.false_eq_true, Bool.true_eq_false, extPV, List.getElem?_cons_zero, List.getElem?_cons_succ, nilckPV, Int.reduceToNat, Int.reduceLE, true_and, and_true, reduceCtorEq, or_false, false_or, or_true, Option.some.injEq, exists_eq_left', Bool.not_true, Bool.not_false, ne_eq, Int.reduceEq, not_true_eq_false, not_false_eq_true, Int.reduceLT, UInt8.reduceLT, UInt8.reduceLE, UInt8.reduceToNat]
              refine ⟨rec1, get_app0, ?_⟩
              rw [hK]
              left
              refine ⟨rfl, ?_⟩
              rw [hP]
              have hq5 := lineP_len hli
              refine ⟨ts', d', p', lo', ?_, ⟨hH.ow.take (fun i _ => by rw [hS']), hH.ne, by rw [hlo']; exact hH.lt, hl2⟩, lineP_inv h3 (by omega) hli, fun q' hq' => h4 q' (by simp [hq']), by omega, hgo⟩
              simp only [pst, set_app0, if_true, hcs, hrec1]
              congr 2
              rw [r5]
      obtain ⟨b, s', c1, c2⟩ := hmain
      rw [hK] at c2
      rcases c2 with ⟨rfl, c2⟩ | ⟨rfl, c2⟩
      · exact .inl ⟨s', c1, c2⟩
      · exact .inr ⟨s', c1, c2⟩)
    (by
      rw [hP]
      exact ⟨[], .nils, ps0, st.boxes.length + 6, by simp [pst, rdC, ps0], ⟨.inl ⟨rfl, rfl⟩, fun _ => rfl, .inl rfl, by omega⟩, ⟨rfl, by simp [ps0], fun h => (by cases h), by simp [ps0]⟩, refLines_le, by have := refLines_sum (l := l); simp [ps0]; omega, rfl⟩)
  rw [hD] at hs1
  obtain ⟨cs, fa, fc, sz, ts, lo, rfl, hlo, hpo⟩ := hs1
  have hmin : min st.boxes.length (st.boxes.length + 5) = st.boxes.length := by omega
  rw [hmin] at hcall ⊢
  -- behind the iterator
  have hleave : ∃ ts2, leave ⟨st.boxes ++ [[.int .i64 0, .int .i64 0], [.nils, .str [], .str [], .int .i64 0, .bool false], [.ptr (st.boxes.length + 1) 0], [.int .i64 0, .int .i64 0], [.int .i64 0], [x]], st.toks, st.loops ++ [rec], st.boxes.length⟩ (pst st x cs fa fc sz ts lo { rec with status := 2, pend := .exit 0 }) (.tup []) =
      (.tup [], pst st x cs fa fc sz ts2 st.boxes.length { rec with status := 2, pend := .exit 0 }) ∧ (ts2 = ts ∨ (ts2 = [] ∧ st.boxes.length + 6 ≤ lo)) := by
    by_cases h6 : st.boxes.length + 6 ≤ lo
    · refine ⟨[], ?_, .inr ⟨rfl, h6⟩⟩
      simp [leave, pst, PV.inB, PV.inB.inBAll, keepRes, keepVals, h6]
      exact List.take_of_length_le (by simp)
    · refine ⟨ts, ?_, .inl rfl⟩
      have hm : min st.boxes.length lo = st.boxes.length := by omega
      simp [leave, pst, PV.inB, PV.inB.inBAll, h6, hm]
      exact List.take_of_length_le (by simp)
  obtain ⟨ts2, hleave, hts2⟩ := hleave
  rw [hleave] at hcall
  refine ⟨_, _, { rec with status := 2, pend := .exit 0 }, hcall, get_app0, (by show (2 : Nat) ≠ 1; decide), ?_⟩
  have hlp : ({ pst st x cs fa fc sz ts2 st.boxes.length { rec with status := 2, pend := .exit 0 } with loops := (pst st x cs fa fc sz ts2 st.boxes.length { rec with status := 2, pend := .exit 0 }).loops.take st.loops.length } : St) =
      ⟨st.boxes ++ [[.int .i64 0, .int .i64 0], cs, [.ptr (st.boxes.length + 1) 0], [.int .i64 fa, .int .i64 fc], [.int .i64 sz], [x]], st.toks ++ ts2, st.loops, st.boxes.length⟩ := by simp [pst]
  rw [hlp]
  have l1 : loadPV ⟨st.boxes ++ [[.int .i64 0, .int .i64 0], cs, [.ptr (st.boxes.length + 1) 0], [.int .i64 fa, .int .i64 fc], [.int .i64 sz], [x]], st.toks ++ ts2, st.loops, st.boxes.length⟩ false 1 (.ptr (st.boxes.length + 3) 1) = some (.int .i64 fc) := by simp [loadPV, get_app, readCells]
  have l2 : loadPV ⟨st.boxes ++ [[.int .i64 0, .int .i64 0], cs, [.ptr (st.boxes.length + 1) 0], [.int .i64 fa, .int .i64 fc], [.int .i64 sz], [x]], st.toks ++ ts2, st.loops, st.boxes.length⟩ true 2 (.ptr (st.boxes.length + 3) 0) = some (.agg [.int .i64 fa, .int .i64 fc]) := by simp [loadPV, get_app, readCells]
  have l3 : loadPV ⟨st.boxes ++ [[.int .i64 0, .int .i64 0], cs, [.ptr (st.boxes.length + 1) 0], [.int .i64 fa, .int .i64 fc], [.int .i64 sz], [x]], st.toks ++ ts2, st.loops, st.boxes.length⟩ false 1 (.ptr (st.boxes.length + 2) 0) = some (.ptr (st.boxes.length + 1) 0) := by simp [loadPV, get_app, readCells]
  have l4 : loadPV ⟨st.boxes ++ [[.int .i64 0, .int .i64 0], cs, [.ptr (st.boxes.length + 1) 0], [.int .i64 fa, .int .i64 fc], [.int .i64 sz], [x]], st.toks ++ ts2, st.loops, st.boxes.length⟩ false 1 (.ptr (st.boxes.length + 4) 0) = some (.int .i64 sz) := by simp [loadPV, get_app, readCells]
  have l5 : storePV ⟨st.boxes ++ [[.int .i64 0, .int .i64 0], cs, [.ptr (st.boxes.length + 1) 0], [.int .i64 fa, .int .i64 fc], [.int .i64 sz], [x]], st.toks ++ ts2, st.loops, st.boxes.length⟩ 2 (.ptr st.boxes.length 0) (.agg [.int .i64 fa, .int .i64 fc]) =
      some ⟨st.boxes ++ [[.int .i64 fa, .int .i64 fc], cs, [.ptr (st.boxes.length + 1) 0], [.int .i64 fa, .int .i64 fc], [.int .i64 sz], [x]], st.toks ++ ts2, st.loops, st.boxes.length⟩ := by
    simp [storePV, PV.cells, PV.inB, PV.inB.inBAll, setCells, hasTok, tokOf, leafOk]
  have hcell : ∀ {E : Env}, E 4 = .ptr st.boxes.length 0 → rv1 E ⟨st.boxes ++ [[.int .i64 fa, .int .i64 fc], cs, [.ptr (st.boxes.length + 1) 0], [.int .i64 fa, .int .i64 fc], [.int .i64 sz], [x]], st.toks ++ ts2, st.loops, st.boxes.length⟩ (.cell 4 true 2) = some (flV (fa, fc)) := by
    intro E h
    simp [rv1, h, loadPV, readCells, flV]
  rcases hpo with ⟨hfc, hpo⟩ | ⟨rfl, rfl, d, p, sz', rfl, hH, rfl, hpo⟩
  · simp (maxSteps := 1000000) (disch := omega) only [l1, l2, l5, faP, Nat.zero_add, hfc, W_seq, W_region, W_cond, W_block, W_skip, W_label, W_exit, W_goto, W_ret, WO_cons, WO_consG, WO_nil, wantedA_eq, wantB, evOp, ev_tmp, ev_const, ev_fn, WN_some, WN_none, updO_some, updO_none, upd_eq,
 ↓reduceIte, Nat.reduceEqDiff, List.nil_append, List.cons_append, List.append_nil, List.map_cons, List.map_nil, env0_zero, env0_succ, env0_nil, Option.map_some, Option.map_none, seqQ_normal, seqQ_ret, seqQ_exit, seqQ_goto, blockQ_normal, blockQ_ret, blockQ_exit, blockQ_goto, condW_bool, loopQ_ret, loopQ_exit, loopQ_goto, endQ_ret, endQ_normal,
 lss_i, leq_i, gtr_i, geq_i, eql_i, neq_i, eql_8, neq_8, lss_8, leq_8, gtr_8, geq_8, eql_s, neq_s, eql_b, neq_b, not_b, by_bys, by_nils, load_cp1, beq_true, beq_false, Bool.not_eq_true', decide_eq_true_eq, decide_eq_false_iff_not, decide_true, decide_false,
 Int.toNat_natCast, Int.ofNat_lt, Int.ofNat_le, Int.natCast_inj, Bool.false_eq_true, Bool.true_eq_false, extPV, List.getElem?_cons_zero, List.getElem?_cons_succ, nilckPV, Int.reduceToNat, Int.reduceLE, true_and, and_true, reduceCtorEq, or_false, false_or, or_true, Option.some.injEq, exists_eq_left', Bool.not_true, Bool.not_false, ne_eq, Int.reduceEq, not_true_eq_false, not_false_eq_true, Int.reduceLT, UInt8.reduceLT, UInt8.reduceLE, UInt8.reduceToNat]
    refine ⟨.tup [.nils, .int .i64 0, flV (fa, fc)], ?_, ?_⟩
    · simp only [resOf, rvAll]
      rw [hcell rfl]
      rfl
    · rw [hpo]
      simp [leave, PV.inB, PV.inB.inBAll, keepRes, keepVals, keepVal, keepLeaf, keepCells, flV, newSl, newS]
  · have l6 : loadPV ⟨st.boxes ++ [[.int .i64 0, .int .i64 0], rdC d p, [.ptr (st.boxes.length + 1) 0], [.int .i64 0, .int .i64 0], [.int .i64 (sz' : Int)], [x]], st.toks ++ ts2, st.loops, st.boxes.length⟩ false 1 (.ptr (st.boxes.length + 1) 0) = some d := by simp [loadPV, get_app, readCells, rdC]
    simp (maxSteps := 1000000) (disch := omega) only [l1, l2, l3, l4, l5, l6, faP, Nat.zero_add, Nat.add_zero, W_seq, W_region, W_cond, W_block, W_skip, W_label, W_exit, W_goto, W_ret, WO_cons, WO_consG, WO_nil, wantedA_eq, wantB, evOp, ev_tmp, ev_const, ev_fn, WN_some, WN_none, updO_some, updO_none, upd_eq,
 ↓reduceIte, Nat.reduceEqDiff, List.nil_append, List.cons_append, List.append_nil, List.map_cons, List.map_nil, env0_zero, env0_succ, env0_nil, Option.map_some, Option.map_none, seqQ_normal, seqQ_ret, seqQ_exit, seqQ_goto, blockQ_normal, blockQ_ret, blockQ_exit, blockQ_goto, condW_bool, loopQ_ret, loopQ_exit, loopQ_goto, endQ_ret, endQ_normal,
 lss_i, leq_i, gtr_i, geq_i, eql_i, neq_i, eql_8, neq_8, lss_8, leq_8, gtr_8, geq_8, eql_s, neq_s, eql_b, neq_b, not_b, by_bys, by_nils, load_cp1, beq_true, beq_false, Bool.not_eq_true', decide_eq_true_eq, decide_eq_false_iff_not, decide_true, decide_false,
 Int.toNat_natCast, Int.ofNat_lt, Int.ofNat_le, Int.natCast_inj, Bool.false_eq_true, Bool.true_eq_false, extPV, List.getElem?_cons_zero, List.getElem?_cons_succ, nilckPV, Int.reduceToNat, Int.reduceLE, true_and, and_true, reduceCtorEq, or_false, false_or, or_true, Option.some.injEq, exists_eq_left', Bool.not_true, Bool.not_false, ne_eq, Int.reduceEq, not_true_eq_false, not_false_eq_true, Int.reduceLT, UInt8.reduceLT, UInt8.reduceLE, UInt8.reduceToNat]
    have hnt : notTup d = true := by rcases hH.ow with ⟨rfl, _⟩ | ⟨i, rfl, _⟩ <;> rfl
    refine ⟨.tup [d, .int .i64 (sz' : Int), flV (0, 0)], ?_, ?_⟩
    · simp only [resOf, rvAll]
      rw [hcell rfl]
      rcases hH.ow with ⟨hdd, _⟩ | ⟨i, hdd, _⟩ <;> simp [rv1, upd_eq, hdd, notTup, packRes, flV]
    · rw [hpo]
      rcases hH.ow with ⟨rfl, hxs⟩ | ⟨i, rfl, hi1, hi2⟩
      · have hd0 : p.done = [] := by simpa using hxs
        simp [leave, PV.inB, PV.inB.inBAll, keepRes, keepVals, keepVal, keepLeaf, keepCells, flV, newSl, newS, hd0]
      · have hne : p.done ≠ [] := fun h => by have := hH.ne h; cases this
        have hts : ts2 = ts := by
          rcases hts2 with h | ⟨_, h⟩
          · exact h
          · rcases hH.lt with h2 | h2
            · cases h2
            · omega
        subst hts
        have hi3 : (st.toks ++ ts2)[i]? = some true := hi2
        simp [leave, PV.inB, PV.inB.inBAll, keepRes, keepVals, keepVal, keepLeaf, keepCells, keepTok, flV, newSl, newS, hne, hi3, show ¬ i < st.toks.length by omega, St.tok1]
end Go.Ab

/-
  The laws FieldsBack and FieldsAgain.
-/
namespace Go.Ab
set_option linter.unusedVariables false
set_option linter.unusedSimpArgs false
variable {st s : St} {e : Env}

abbrev stA (B : List (List PV)) (T : List Bool) : St := ⟨B, T, [], 0⟩
abbrev bx0 : List PV := [.int .i64 0, .int .i64 0]
set_option maxRecDepth 100000 in
theorem alP1 : evV prog 400 (.fn 144 []) [] (stA [bx0] [true, false, true]) = some (.bool true, stA [bx0] [true, false, true]) := by kernel_rfl
set_option maxRecDepth 100000 in
theorem alP2 : evV prog 400 (.fn 144 []) [] (stA [bx0] [true, false, true, true]) = some (.bool true, stA [bx0] [true, false, true, true]) := by kernel_rfl
set_option maxRecDepth 100000 in
theorem alP3 : evV prog 400 (.fn 144 []) [] (stA [bx0] [true, false, false, true]) = some (.bool true, stA [bx0] [true, false, false, true]) := by kernel_rfl
set_option maxRecDepth 100000 in
theorem alP4 : evV prog 400 (.fn 144 []) [] (stA [bx0] [true, false, false, true, true]) = some (.bool true, stA [bx0] [true, false, false, true, true]) := by kernel_rfl
set_option maxRecDepth 100000 in
theorem alP5 {a c : Int} : evV prog 400 (.fn 144 []) [] (stA [[.int .i64 a, .int .i64 c]] []) = some (.bool true, stA [[.int .i64 a, .int .i64 c]] []) := by kernel_rfl
set_option maxRecDepth 100000 in
theorem alP6 : evV prog 400 (.fn 144 []) [] (stA [bx0] [true]) = some (.bool true, stA [bx0] [true]) := by kernel_rfl
set_option maxRecDepth 100000 in
theorem alP7 : evV prog 400 (.fn 144 []) [] (stA [bx0, bx0] [true]) = some (.bool true, stA [bx0, bx0] [true]) := by kernel_rfl
set_option maxRecDepth 100000 in
theorem alP8 : evV prog 400 (.fn 144 []) [] (stA [bx0, bx0] [true, true, true]) = some (.bool true, stA [bx0, bx0] [true, true, true]) := by kernel_rfl

theorem eqs_refl {a b : List UInt8} : binPV .neq (.struct [.s, .s]) (.agg [.str a, .str b]) (.agg [.str a, .str b]) = some (.bool false) := by
  simp [binPV, eqPV, eqCells, eqLeaf]
theorem eqi_refl : binPV .eql (.struct [.i, .i]) (.agg bx0) (.agg bx0) = some (.bool true) := by
  simp [binPV, eqPV, eqCells, eqLeaf]

theorem SameAll_spec {x y : PV} {fs : List Fld} (hx : x.vs 2 = some (fs.map fV)) (hy : y.vs 2 = some (fs.map fV)) (hl : fs.length ≤ 1000000) : call prog (.fn 151 []) [x, y] st = some (.bool true, st) := by
  refine call_of_W prog_151 ?_
  unfold F_posthornref06_SameAll; dsimp only
  have hlx := len_vs hx
  have hly := len_vs hy
  rw [List.length_map] at hlx hly
  simp (maxSteps := 1000000) (disch := omega) only [hlx, hly, W_seq, W_region, W_cond, W_block, W_skip, W_label, W_exit, W_goto, W_ret, WO_cons, WO_consG, WO_nil, wantedA_eq, wantB, evOp, ev_tmp, ev_const, ev_fn, WN_some, WN_none, updO_some, updO_none, upd_eq,
 ↓reduceIte, Nat.reduceEqDiff, List.nil_append, List.cons_append, List.append_nil, List.map_cons, List.map_nil, env0_zero, env0_succ, env0_nil, Option.map_some, Option.map_none, seqQ_normal, seqQ_ret, seqQ_exit, seqQ_goto, blockQ_normal, blockQ_ret, blockQ_exit, blockQ_goto, condW_bool, loopQ_ret, loopQ_exit, loopQ_goto, endQ_ret, endQ_normal,
 lss_i, leq_i, gtr_i, geq_i, eql_i, neq_i, eql_8, neq_8, lss_8, leq_8, gtr_8, geq_8, eql_s, neq_s, eql_b, neq_b, not_b, by_bys, by_nils, load_cp1, beq_true, beq_false, Bool.not_eq_true', decide_eq_true_eq, decide_eq_false_iff_not, decide_true, decide_false,
 Int.toNat_natCast, Int.ofNat_lt, Int.ofNat_le, Int.natCast_inj, Bool.false_eq_true, Bool.true_eq_false, extPV, List.getElem?_cons_zero, List.getElem?_cons_succ, nilckPV, Int.reduceToNat, Int.reduceLE, true_and, and_true, reduceCtorEq, or_false, false_or, or_true, Option.some.injEq, exists_eq_left', Bool.not_true, Bool.not_false, ne_eq, Int.reduceEq, not_true_eq_false, not_false_eq_true, Int.reduceLT, UInt8.reduceLT, UInt8.reduceLE, UInt8.reduceToNat]
  obtain ⟨I, hI⟩ : ∃ I : Nat → Env → St → Prop, I = fun k e s' => ∃ (i : Nat), k = fs.length - i ∧ i ≤ fs.length ∧ Kept st s' ∧ e 0 = x ∧ e 1 = y ∧ e 5 = .int .i64 (i : Int) := ⟨_, rfl⟩
  refine W_loop I ?_ (n := fs.length) (by
    rw [hI]
    exact ⟨0, rfl, by omega, Kept.start, rfl, rfl, rfl⟩)
  intro k e s' hh
  rw [hI] at hh
  obtain ⟨i, rfl, hi, hk, h0, h1, h5⟩ := hh
  by_cases hlt : i < fs.length
  · simp (maxSteps := 1000000) (disch := omega) only [h0, h1, h5, hlx, hly, hlt, iaddr_f hx, iaddr_f hy, load_f2, eqs_refl, add_n, W_seq, W_region, W_cond, W_block, W_skip, W_label, W_exit, W_goto, W_ret, WO_cons, WO_consG, WO_nil, wantedA_eq, wantB, evOp, ev_tmp, ev_const, ev_fn, WN_some, WN_none, updO_some, updO_none, upd_eq,
 ↓reduceIte, Nat.reduceEqDiff, List.nil_append, List.cons_append, List.append_nil, List.map_cons, List.map_nil, env0_zero, env0_succ, env0_nil, Option.map_some, Option.map_none, seqQ_normal, seqQ_ret, seqQ_exit, seqQ_goto, blockQ_normal, blockQ_ret, blockQ_exit, blockQ_goto, condW_bool, loopQ_ret, loopQ_exit, loopQ_goto, endQ_ret, endQ_normal,
 lss_i, leq_i, gtr_i, geq_i, eql_i, neq_i, eql_8, neq_8, lss_8, leq_8, gtr_8, geq_8, eql_s, neq_s, eql_b, neq_b, not_b, by_bys, by_nils, load_cp1, beq_true, beq_false, Bool.not_eq_true', decide_eq_true_eq, decide_eq_false_iff_not, decide_true, decide_false,
 Int.toNat_natCast, Int.ofNat_lt, Int.ofNat_le, Int.natCast_inj, Bool.false_eq_true, Bool.true_eq_false, extPV, List.getElem?_cons_zero, List.getElem?_cons_succ, nilckPV, Int.reduceToNat, Int.reduceLE, true_and, and_true, reduceCtorEq, or_false, false_or, or_true, Option.some.injEq, exists_eq_left', Bool.not_true, Bool.not_false, ne_eq, Int.reduceEq, not_true_eq_false, not_false_eq_true, Int.reduceLT, UInt8.reduceLT, UInt8.reduceLE, UInt8.reduceToNat]
    refine loopQ_intro (m := fs.length - (i + 1)) (by omega) ?_
    rw [hI]
    exact ⟨i + 1, rfl, by omega, hk, h0, h1, rfl⟩
  · obtain rfl : i = fs.length := by omega
    simp (maxSteps := 1000000) (disch := omega) only [h0, h1, h5, hlx, hly, hlt, W_seq, W_region, W_cond, W_block, W_skip, W_label, W_exit, W_goto, W_ret, WO_cons, WO_consG, WO_nil, wantedA_eq, wantB, evOp, ev_tmp, ev_const, ev_fn, WN_some, WN_none, updO_some, updO_none, upd_eq,
 ↓reduceIte, Nat.reduceEqDiff, List.nil_append, List.cons_append, List.append_nil, List.map_cons, List.map_nil, env0_zero, env0_succ, env0_nil, Option.map_some, Option.map_none, seqQ_normal, seqQ_ret, seqQ_exit, seqQ_goto, blockQ_normal, blockQ_ret, blockQ_exit, blockQ_goto, condW_bool, loopQ_ret, loopQ_exit, loopQ_goto, endQ_ret, endQ_normal,
 lss_i, leq_i, gtr_i, geq_i, eql_i, neq_i, eql_8, neq_8, lss_8, leq_8, gtr_8, geq_8, eql_s, neq_s, eql_b, neq_b, not_b, by_bys, by_nils, load_cp1, beq_true, beq_false, Bool.not_eq_true', decide_eq_true_eq, decide_eq_false_iff_not, decide_true, decide_false,
 Int.toNat_natCast, Int.ofNat_lt, Int.ofNat_le, Int.natCast_inj, Bool.false_eq_true, Bool.true_eq_false, extPV, List.getElem?_cons_zero, List.getElem?_cons_succ, nilckPV, Int.reduceToNat, Int.reduceLE, true_and, and_true, reduceCtorEq, or_false, false_or, or_true, Option.some.injEq, exists_eq_left', Bool.not_true, Bool.not_false, ne_eq, Int.reduceEq, not_true_eq_false, not_false_eq_true, Int.reduceLT, UInt8.reduceLT, UInt8.reduceLE, UInt8.reduceToNat]
    exact ⟨.bool true, rfl, hk.leave rfl (fun _ _ => rfl)⟩

theorem written_len {fs : List Fld} (hf : ∀ f ∈ fs, okF f) (hl : fs.length ≤ 128) : (fs.flatMap fieldBytes ++ [13, 10]).length ≤ 3840002 := by
  have h1 := bytes_len hf
  have h2 : fs.length * 30000 ≤ 128 * 30000 := Nat.mul_le_mul_right _ hl
  rw [List.length_append]; simp only [List.length_cons, List.length_nil]
  have h3 : 128 * 30000 = 3840000 := rfl
  omega
theorem okFd_ok {f : Fld} (h : okFd f = true) : okF f := by
  simp only [okFd, nameB, valB, Bool.and_eq_true, decide_eq_true_eq] at h
  exact ⟨by omega, by omega⟩
theorem newSl_ne {xs : List PV} (h : xs ≠ []) : newSl st 2 xs = .sl 2 (.own st.toks.length) xs := by simp [newSl, h]
theorem st_store {B : List (List PV)} {T : List Bool} {a c a' c' : Int} : storePV ⟨B ++ [[.int .i64 a, .int .i64 c]], T, [], 0⟩ 2 (.ptr B.length 0) (.agg [.int .i64 a', .int .i64 c']) = some ⟨B ++ [[.int .i64 a', .int .i64 c']], T, [], 0⟩ := by
  simp [storePV, PV.cells, PV.inB, PV.inB.inBAll, setCells, hasTok, tokOf, leafOk]

set_option maxHeartbeats 1000000 in
theorem law_FieldsBack {x y : PV} {fs : List Fld} {more : List UInt8} (hx : x.vs 2 = some (fs.map fV)) (hm : ∀ f ∈ fs, f.1.length ≤ maxLen ∧ f.2.length ≤ maxLen) (hl : fs.length ≤ maxLen) (hy : y.by = some more) (hyl : more.length ≤ maxLen) :
    ∃ s', call prog (.fn 152 []) [x, y] ⟨[], [], [], 0⟩ = some (.bool true, s') := by
  have hML : maxLen ≤ 9223372036854775807 := by decide
  refine law_of_W prog_152 rfl ?_
  unfold F_posthornlaw06_FieldsBack; dsimp only
  obtain ⟨g, hg, hgb⟩ := Great_spec (st := ⟨[], [], [], 0⟩) hx (fun f hf => ⟨by have := (hm f hf).1; omega, by have := (hm f hf).2; omega⟩) (by omega)
  cases g with
  | true =>
    simp (maxSteps := 1000000) (disch := omega) only [List.length_nil, hg, al06_e, W_seq, W_region, W_cond, W_block, W_skip, W_label, W_exit, W_goto, W_ret, WO_cons, WO_consG, WO_nil, wantedA_eq, wantB, evOp, ev_tmp, ev_const, ev_fn, WN_some, WN_none, updO_some, updO_none, upd_eq,
 ↓reduceIte, Nat.reduceEqDiff, List.nil_append, List.cons_append, List.append_nil, List.map_cons, List.map_nil, env0_zero, env0_succ, env0_nil, Option.map_some, Option.map_none, seqQ_normal, seqQ_ret, seqQ_exit, seqQ_goto, blockQ_normal, blockQ_ret, blockQ_exit, blockQ_goto, condW_bool, loopQ_ret, loopQ_exit, loopQ_goto, endQ_ret, endQ_normal,
 lss_i, leq_i, gtr_i, geq_i, eql_i, neq_i, eql_8, neq_8, lss_8, leq_8, gtr_8, geq_8, eql_s, neq_s, eql_b, neq_b, not_b, by_bys, by_nils, load_cp1, beq_true, beq_false, Bool.not_eq_true', decide_eq_true_eq, decide_eq_false_iff_not, decide_true, decide_false,
 Int.toNat_natCast, Int.ofNat_lt, Int.ofNat_le, Int.natCast_inj, Bool.false_eq_true, Bool.true_eq_false, extPV, List.getElem?_cons_zero, List.getElem?_cons_succ, nilckPV, Int.reduceToNat, Int.reduceLE, true_and, and_true, reduceCtorEq, or_false, false_or, or_true, Option.some.injEq, exists_eq_left', Bool.not_true, Bool.not_false, ne_eq, Int.reduceEq, not_true_eq_false, not_false_eq_true, Int.reduceLT, UInt8.reduceLT, UInt8.reduceLE, UInt8.reduceToNat]
  | false =>
  obtain ⟨hl2, hf⟩ := hgb rfl
  by_cases hn : 300 < more.length
  · have hn' : (300 : Int) < (more.length : Int) := by omega
    simp (maxSteps := 1000000) (disch := omega) only [List.length_nil, hg, al06_e, len_by hy, hn', W_seq, W_region, W_cond, W_block, W_skip, W_label, W_exit, W_goto, W_ret, WO_cons, WO_consG, WO_nil, wantedA_eq, wantB, evOp, ev_tmp, ev_const, ev_fn, WN_some, WN_none, updO_some, updO_none, upd_eq,
 ↓reduceIte, Nat.reduceEqDiff, List.nil_append, List.cons_append, List.append_nil, List.map_cons, List.map_nil, env0_zero, env0_succ, env0_nil, Option.map_some, Option.map_none, seqQ_normal, seqQ_ret, seqQ_exit, seqQ_goto, blockQ_normal, blockQ_ret, blockQ_exit, blockQ_goto, condW_bool, loopQ_ret, loopQ_exit, loopQ_goto, endQ_ret, endQ_normal,
 lss_i, leq_i, gtr_i, geq_i, eql_i, neq_i, eql_8, neq_8, lss_8, leq_8, gtr_8, geq_8, eql_s, neq_s, eql_b, neq_b, not_b, by_bys, by_nils, load_cp1, beq_true, beq_false, Bool.not_eq_true', decide_eq_true_eq, decide_eq_false_iff_not, decide_true, decide_false,
 Int.toNat_natCast, Int.ofNat_lt, Int.ofNat_le, Int.natCast_inj, Bool.false_eq_true, Bool.true_eq_false, extPV, List.getElem?_cons_zero, List.getElem?_cons_succ, nilckPV, Int.reduceToNat, Int.reduceLE, true_and, and_true, reduceCtorEq, or_false, false_or, or_true, Option.some.injEq, exists_eq_left', Bool.not_true, Bool.not_false, ne_eq, Int.reduceEq, not_true_eq_false, not_false_eq_true, Int.reduceLT, UInt8.reduceLT, UInt8.reduceLE, UInt8.reduceToNat]
  have hn' : ¬ (300 : Int) < (more.length : Int) := by omega
  have hW := Write_spec (st := ⟨[], [], [], 0⟩) hx hf (by omega)
  rcases write_cases (fs := fs) with ⟨hz, hb⟩ | ⟨h128, hok, hlg, hw⟩
  · simp only [outV, hz, if_false] at hW
    have hln : lenPV false .nils = some (.int .i64 0) := rfl
    simp (maxSteps := 1000000) (disch := omega) only [List.length_nil, hg, len_by hy, hn', hW, hz, al06_e, hln, W_seq, W_region, W_cond, W_block, W_skip, W_label, W_exit, W_goto, W_ret, WO_cons, WO_consG, WO_nil, wantedA_eq, wantB, evOp, ev_tmp, ev_const, ev_fn, WN_some, WN_none, updO_some, updO_none, upd_eq,
 ↓reduceIte, Nat.reduceEqDiff, List.nil_append, List.cons_append, List.append_nil, List.map_cons, List.map_nil, env0_zero, env0_succ, env0_nil, Option.map_some, Option.map_none, seqQ_normal, seqQ_ret, seqQ_exit, seqQ_goto, blockQ_normal, blockQ_ret, blockQ_exit, blockQ_goto, condW_bool, loopQ_ret, loopQ_exit, loopQ_goto, endQ_ret, endQ_normal,
 lss_i, leq_i, gtr_i, geq_i, eql_i, neq_i, eql_8, neq_8, lss_8, leq_8, gtr_8, geq_8, eql_s, neq_s, eql_b, neq_b, not_b, by_bys, by_nils, load_cp1, beq_true, beq_false, Bool.not_eq_true', decide_eq_true_eq, decide_eq_false_iff_not, decide_true, decide_false,
 Int.toNat_natCast, Int.ofNat_lt, Int.ofNat_le, Int.natCast_inj, Bool.false_eq_true, Bool.true_eq_false, extPV, List.getElem?_cons_zero, List.getElem?_cons_succ, nilckPV, Int.reduceToNat, Int.reduceLE, true_and, and_true, reduceCtorEq, or_false, false_or, or_true, Option.some.injEq, exists_eq_left', Bool.not_true, Bool.not_false, ne_eq, Int.reduceEq, not_true_eq_false, not_false_eq_true, Int.reduceLT, UInt8.reduceLT, UInt8.reduceLE, UInt8.reduceToNat]
  · have hpw := parse_written (more := more) hok hlg h128
    have hbl := written_len hf h128
    obtain ⟨Bs, hBs⟩ : ∃ Bs, Bs = fs.flatMap fieldBytes ++ [13, 10] := ⟨_, rfl⟩
    rw [← hBs] at hw hpw hbl
    have hBne : Bs ≠ [] := by rw [hBs]; simp
    rw [hw] at hW
    simp only [outV, if_true, List.length_nil, St.tok1, List.nil_append] at hW
    have happ1 : app8 ⟨[], [true, true], [], 0⟩ (.bys (.own 1) []) (.bys (.own 0) Bs) = some (.bys (.own 2) Bs, ⟨[], [true, false, true], [], 0⟩) := by
      simp [app8, src8, hBne, freshT, appTok, room]; omega
    have hlit : lit8Fill (List.replicate 0 0) [] = some [] := rfl
    have hlenB : lenPV false (.bys (.own 0) Bs) = some (.int .i64 (Bs.length : Int)) := rfl
    have key : ∀ (v : PV) (T : List Bool), app8 ⟨[], [true, false, true], [], 0⟩ (.bys (.own 2) Bs) y = some (v, ⟨[], T, [], 0⟩) → v.by = some (Bs ++ more) → v.tokLt T.length = true →
        call prog (.fn 144 []) [] ⟨[bx0], if fs = [] then T else T ++ [true], [], 0⟩ = some (.bool true, ⟨[bx0], if fs = [] then T else T ++ [true], [], 0⟩) → 
        W prog F_posthornlaw06_FieldsBack.body (env0 [x, y]) { (⟨[], [], [], 0⟩ : St) with low := 0 } (fun x e _ => (x = .normal ∨ x = .ret) ∧ e 4 = .bool true) := by
      intro v T happ2 hv hvt hal
      have hP := Parse_spec (st := ⟨[], T, [], 0⟩) hv (by simp only [List.length_append]; omega) hvt
      rw [hpw] at hP
      simp only [flV] at hP
      have hSA := fun S : St => SameAll_spec (st := S) hx (newSl_vs (st := ⟨[], T, [], 0⟩) (esz := 2) (xs := fs.map fV)) (by omega)
      have hst := st_store (B := []) (T := if fs = [] then T else T ++ [true]) (a := 0) (c := 0) (a' := 0) (c' := 0)
      have hns : newS (⟨[], T, [], 0⟩ : St) (fs.map fV).isEmpty = ⟨[], if fs = [] then T else T ++ [true], [], 0⟩ := by
        by_cases h0 : fs = []
        · simp [newS, h0]
        · have : (fs.map fV).isEmpty = false := by cases fs with | nil => exact absurd rfl h0 | cons a r => rfl
          simp [newS, this, h0, St.tok1]
      rw [hns] at hP
      simp only [List.nil_append, List.length_nil] at hst
      have hld : loadPV ⟨[bx0], if fs = [] then T else T ++ [true], [], 0⟩ true 2 (.ptr 0 0) = some (.agg bx0) := rfl
      have hb0 : buildCells [.int .i64 0, .int .i64 0] [] = some bx0 := rfl
      have hz0 : ∀ n : Nat, binPV .eql .no (.int .i64 (n : Int)) (.int .i64 (n : Int)) = some (.bool true) := fun n => by rw [eql_i]; simp
      unfold F_posthornlaw06_FieldsBack; dsimp only
      simp (maxSteps := 1000000) (disch := omega) only [List.length_nil, hg, len_by hy, hn', hW, hlit, freshT, List.length_cons, List.nil_append, List.cons_append, Nat.zero_add, Nat.reduceAdd, happ1, happ2, hP, allocPV, hst, hal, hld, hb0, eqi_refl, hlenB, hz0, hSA, W_seq, W_region, W_cond, W_block, W_skip, W_label, W_exit, W_goto, W_ret, WO_cons, WO_consG, WO_nil, wantedA_eq, wantB, evOp, ev_tmp, ev_const, ev_fn, WN_some, WN_none, updO_some, updO_none, upd_eq,
 ↓reduceIte, Nat.reduceEqDiff, List.nil_append, List.cons_append, List.append_nil, List.map_cons, List.map_nil, env0_zero, env0_succ, env0_nil, Option.map_some, Option.map_none, seqQ_normal, seqQ_ret, seqQ_exit, seqQ_goto, blockQ_normal, blockQ_ret, blockQ_exit, blockQ_goto, condW_bool, loopQ_ret, loopQ_exit, loopQ_goto, endQ_ret, endQ_normal,
 lss_i, leq_i, gtr_i, geq_i, eql_i, neq_i, eql_8, neq_8, lss_8, leq_8, gtr_8, geq_8, eql_s, neq_s, eql_b, neq_b, not_b, by_bys, by_nils, load_cp1, beq_true, beq_false, Bool.not_eq_true', decide_eq_true_eq, decide_eq_false_iff_not, decide_true, decide_false,
 Int.toNat_natCast, Int.ofNat_lt, Int.ofNat_le, Int.natCast_inj, Bool.false_eq_true, Bool.true_eq_false, extPV, List.getElem?_cons_zero, List.getElem?_cons_succ, nilckPV, Int.reduceToNat, Int.reduceLE, true_and, and_true, reduceCtorEq, or_false, false_or, or_true, Option.some.injEq, exists_eq_left', Bool.not_true, Bool.not_false, ne_eq, Int.reduceEq, not_true_eq_false, not_false_eq_true, Int.reduceLT, UInt8.reduceLT, UInt8.reduceLE, UInt8.reduceToNat]
    have hgoal : ∀ (v : PV) (T : List Bool), app8 ⟨[], [true, false, true], [], 0⟩ (.bys (.own 2) Bs) y = some (v, ⟨[], T, [], 0⟩) → v.by = some (Bs ++ more) → v.tokLt T.length = true →
        call prog (.fn 144 []) [] ⟨[bx0], if fs = [] then T else T ++ [true], [], 0⟩ = some (.bool true, ⟨[bx0], if fs = [] then T else T ++ [true], [], 0⟩) → W prog F_posthornlaw06_FieldsBack.body (env0 [x, y]) { (⟨[], [], [], 0⟩ : St) with low := 0 } (fun x e _ => (x = .normal ∨ x = .ret) ∧ e 4 = .bool true) := key
    unfold F_posthornlaw06_FieldsBack at hgoal; dsimp only at hgoal
    by_cases hmo : more = []
    · refine hgoal (.bys (.own 2) Bs) [true, false, true] ?_ (by rw [hmo]; simp [PV.by]) rfl ?_
      · simp [app8, src8_by hy, hmo]
      · by_cases h0 : fs = []
        · rw [if_pos h0]; exact call_of alP1
        · rw [if_neg h0]; exact call_of alP2
    · refine hgoal (.bys (.own 3) (Bs ++ more)) [true, false, false, true] ?_ rfl rfl ?_
      · simp [app8, src8_by hy, hmo, freshT, appTok, room]; omega
      · by_cases h0 : fs = []
        · rw [if_pos h0]; exact call_of alP3
        · rw [if_neg h0]; exact call_of alP4

set_option maxHeartbeats 1000000 in
theorem law_FieldsAgain {x : PV} {l : List UInt8} (hx : x.by = some l) (hl : l.length ≤ maxLen) (hxt : x.tokLt 0 = true) :
    ∃ s', call prog (.fn 153 []) [x] ⟨[], [], [], 0⟩ = some (.bool true, s') := by
  have hML : maxLen ≤ 9223372036854775807 := by decide
  refine law_of_W prog_153 rfl ?_
  unfold F_posthornlaw06_FieldsAgain; dsimp only
  by_cases hn : 6000 < l.length
  · have hn' : (6000 : Int) < (l.length : Int) := by omega
    simp (maxSteps := 1000000) (disch := omega) only [List.length_nil, len_by hx, hn', al06_e, W_seq, W_region, W_cond, W_block, W_skip, W_label, W_exit, W_goto, W_ret, WO_cons, WO_consG, WO_nil, wantedA_eq, wantB, evOp, ev_tmp, ev_const, ev_fn, WN_some, WN_none, updO_some, updO_none, upd_eq,
 ↓reduceIte, Nat.reduceEqDiff, List.nil_append, List.cons_append, List.append_nil, List.map_cons, List.map_nil, env0_zero, env0_succ, env0_nil, Option.map_some, Option.map_none, seqQ_normal, seqQ_ret, seqQ_exit, seqQ_goto, blockQ_normal, blockQ_ret, blockQ_exit, blockQ_goto, condW_bool, loopQ_ret, loopQ_exit, loopQ_goto, endQ_ret, endQ_normal,
 lss_i, leq_i, gtr_i, geq_i, eql_i, neq_i, eql_8, neq_8, lss_8, leq_8, gtr_8, geq_8, eql_s, neq_s, eql_b, neq_b, not_b, by_bys, by_nils, load_cp1, beq_true, beq_false, Bool.not_eq_true', decide_eq_true_eq, decide_eq_false_iff_not, decide_true, decide_false,
 Int.toNat_natCast, Int.ofNat_lt, Int.ofNat_le, Int.natCast_inj, Bool.false_eq_true, Bool.true_eq_false, extPV, List.getElem?_cons_zero, List.getElem?_cons_succ, nilckPV, Int.reduceToNat, Int.reduceLE, true_and, and_true, reduceCtorEq, or_false, false_or, or_true, Option.some.injEq, exists_eq_left', Bool.not_true, Bool.not_false, ne_eq, Int.reduceEq, not_true_eq_false, not_false_eq_true, Int.reduceLT, UInt8.reduceLT, UInt8.reduceLE, UInt8.reduceToNat]
  have hn' : ¬ (6000 : Int) < (l.length : Int) := by omega
  have hP := Parse_spec (st := ⟨[], [], [], 0⟩) hx (by omega) hxt
  obtain ⟨⟨fs, n, fa, fc⟩, hr⟩ : ∃ r, r = parseOf l := ⟨_, rfl⟩
  have hgood := parseOf_good (l := l)
  rw [← hr] at hP hgood
  simp only [flV] at hP
  rcases hgood with ⟨h1, h2, h3, h4, h5, h6⟩ | ⟨h1, h2, h3, h4, h5⟩
  · simp only at h1 h2 h3 h4 h5 h6
    subst h1 h2
    obtain ⟨T, hT⟩ : ∃ T : List Bool, T = if fs = [] then [] else [true] := ⟨_, rfl⟩
    have hns : newS (⟨[], [], [], 0⟩ : St) (fs.map fV).isEmpty = ⟨[], T, [], 0⟩ := by
      rw [hT]
      by_cases h0 : fs = []
      · simp [newS, h0]
      · have : (fs.map fV).isEmpty = false := by cases fs with | nil => exact absurd rfl h0 | cons a r => rfl
        simp [newS, this, h0, St.tok1]
    rw [hns] at hP
    have hv1 := newSl_vs (st := ⟨[], [], [], 0⟩) (esz := 2) (xs := fs.map fV)
    have hf : ∀ f ∈ fs, okF f := fun f hf => okFd_ok (List.all_eq_true.1 h3 f hf)
    have hW := fun S : St => Write_spec (st := S) hv1 hf (by omega)
    have hst := st_store (B := []) (T := T) (a := 0) (c := 0) (a' := 0) (c' := 0)
    simp only [List.nil_append, List.length_nil] at hst
    have hld : ∀ T : List Bool, loadPV ⟨[bx0], T, [], 0⟩ false 1 (.ptr 0 1) = some (.int .i64 0) := fun T => rfl
    have n2 : (2 : Int) ≤ (n : Int) := by omega
    rcases write_again h3 h4 with hw | ⟨hlg, hw⟩
    · simp only [hw, outV] at hW
      have hal : call prog (.fn 144 []) [] ⟨[bx0], T, [], 0⟩ = some (.bool true, ⟨[bx0], T, [], 0⟩) := by
        rw [hT]
        by_cases h0 : fs = []
        · rw [if_pos h0]; exact call_of alP5
        · rw [if_neg h0]; exact call_of alP6
      have hWW : ∀ S : St, call prog (.fn 145 []) [newSl ⟨[], [], [], 0⟩ 2 (fs.map fV)] S = some (.tup [.nils, .int .i64 40], S) := fun S => by rw [hW S]; rfl
      simp (maxSteps := 1000000) (disch := omega) only [List.length_nil, len_by hx, hn', hP, allocPV, List.nil_append, hst, faP, Nat.zero_add, hld, hWW, hal, n2, W_seq, W_region, W_cond, W_block, W_skip, W_label, W_exit, W_goto, W_ret, WO_cons, WO_consG, WO_nil, wantedA_eq, wantB, evOp, ev_tmp, ev_const, ev_fn, WN_some, WN_none, updO_some, updO_none, upd_eq,
 ↓reduceIte, Nat.reduceEqDiff, List.nil_append, List.cons_append, List.append_nil, List.map_cons, List.map_nil, env0_zero, env0_succ, env0_nil, Option.map_some, Option.map_none, seqQ_normal, seqQ_ret, seqQ_exit, seqQ_goto, blockQ_normal, blockQ_ret, blockQ_exit, blockQ_goto, condW_bool, loopQ_ret, loopQ_exit, loopQ_goto, endQ_ret, endQ_normal,
 lss_i, leq_i, gtr_i, geq_i, eql_i, neq_i, eql_8, neq_8, lss_8, leq_8, gtr_8, geq_8, eql_s, neq_s, eql_b, neq_b, not_b, by_bys, by_nils, load_cp1, beq_true, beq_false, Bool.not_eq_true', decide_eq_true_eq, decide_eq_false_iff_not, decide_true, decide_false,
 Int.toNat_natCast, Int.ofNat_lt, Int.ofNat_le, Int.natCast_inj, Bool.false_eq_true, Bool.true_eq_false, extPV, List.getElem?_cons_zero, List.getElem?_cons_succ, nilckPV, Int.reduceToNat, Int.reduceLE, true_and, and_true, reduceCtorEq, or_false, false_or, or_true, Option.some.injEq, exists_eq_left', Bool.not_true, Bool.not_false, ne_eq, Int.reduceEq, not_true_eq_false, not_false_eq_true, Int.reduceLT, UInt8.reduceLT, UInt8.reduceLE, UInt8.reduceToNat]
    · have hpw := parse_written (more := []) h3 hlg h4
      have hbl := written_len hf h4
      obtain ⟨Bs, hBs⟩ : ∃ Bs, Bs = fs.flatMap fieldBytes ++ [13, 10] := ⟨_, rfl⟩
      rw [← hBs] at hw hpw hbl
      rw [List.append_nil] at hpw
      have hWW : call prog (.fn 145 []) [newSl ⟨[], [], [], 0⟩ 2 (fs.map fV)] ⟨[bx0], T, [], 0⟩ = some (.tup [.bys (.own T.length) Bs, .int .i64 0], ⟨[bx0], T ++ [true], [], 0⟩) := by
        rw [hW, hw]; rfl
      have hP2 := Parse_spec (st := ⟨[bx0], T ++ [true], [], 0⟩) (x := .bys (.own T.length) Bs) (l := Bs) rfl (by omega) (by simp [PV.tokLt, Tok.lt])
      rw [hpw] at hP2
      simp only [flV] at hP2
      obtain ⟨T2, hT2⟩ : ∃ T2 : List Bool, T2 = if fs = [] then [true] else [true, true, true] := ⟨_, rfl⟩
      have hns2 : newS (⟨[bx0], T ++ [true], [], 0⟩ : St) (fs.map fV).isEmpty = ⟨[bx0], T2, [], 0⟩ := by
        rw [hT2, hT]
        by_cases h0 : fs = []
        · simp [newS, h0]
        · have : (fs.map fV).isEmpty = false := by cases fs with | nil => exact absurd rfl h0 | cons a r => rfl
          simp [newS, this, h0, St.tok1]
      rw [hns2] at hP2
      have hst2 := st_store (B := [bx0]) (T := T2) (a := 0) (c := 0) (a' := 0) (c' := 0)
      simp only [List.cons_append, List.nil_append, List.length_cons, List.length_nil, Nat.zero_add] at hst2
      have hld2 : loadPV ⟨[bx0, bx0], T2, [], 0⟩ false 1 (.ptr 1 1) = some (.int .i64 0) := rfl
      have hal : call prog (.fn 144 []) [] ⟨[bx0, bx0], T2, [], 0⟩ = some (.bool true, ⟨[bx0, bx0], T2, [], 0⟩) := by
        rw [hT2]
        by_cases h0 : fs = []
        · rw [if_pos h0]; exact call_of alP7
        · rw [if_neg h0]; exact call_of alP8
      have hlenB : lenPV false (.bys (.own T.length) Bs) = some (.int .i64 (Bs.length : Int)) := rfl
      have hz0 : ∀ n : Nat, binPV .eql .no (.int .i64 (n : Int)) (.int .i64 (n : Int)) = some (.bool true) := fun n => by rw [eql_i]; simp
      have hSA := fun S : St => SameAll_spec (st := S) hv1 (newSl_vs (st := ⟨[bx0], T ++ [true], [], 0⟩) (esz := 2) (xs := fs.map fV)) (by omega)
      simp (maxSteps := 1000000) (disch := omega) only [List.length_nil, List.length_cons, len_by hx, hn', hP, allocPV, List.nil_append, List.cons_append, hst, hst2, faP, Nat.zero_add, hld, hld2, hWW, hP2, hal, hlenB, hz0, hSA, W_seq, W_region, W_cond, W_block, W_skip, W_label, W_exit, W_goto, W_ret, WO_cons, WO_consG, WO_nil, wantedA_eq, wantB, evOp, ev_tmp, ev_const, ev_fn, WN_some, WN_none, updO_some, updO_none, upd_eq,
 ↓reduceIte, Nat.reduceEqDiff, List.nil_append, List.cons_append, List.append_nil, List.map_cons, List.map_nil, env0_zero, env0_succ, env0_nil, Option.map_some, Option.map_none, seqQ_normal, seqQ_ret, seqQ_exit, seqQ_goto, blockQ_normal, blockQ_ret, blockQ_exit, blockQ_goto, condW_bool, loopQ_ret, loopQ_exit, loopQ_goto, endQ_ret, endQ_normal,
 lss_i, leq_i, gtr_i, geq_i, eql_i, neq_i, eql_8, neq_8, lss_8, leq_8, gtr_8, geq_8, eql_s, neq_s, eql_b, neq_b, not_b, by_bys, by_nils, load_cp1, beq_true, beq_false, Bool.not_eq_true', decide_eq_true_eq, decide_eq_false_iff_not, decide_true, decide_false,
 Int.toNat_natCast, Int.ofNat_lt, Int.ofNat_le, Int.natCast_inj, Bool.false_eq_true, Bool.true_eq_false, extPV, List.getElem?_cons_zero, List.getElem?_cons_succ, nilckPV, Int.reduceToNat, Int.reduceLE, true_and, and_true, reduceCtorEq, or_false, false_or, or_true, Option.some.injEq, exists_eq_left', Bool.not_true, Bool.not_false, ne_eq, Int.reduceEq, not_true_eq_false, not_false_eq_true, Int.reduceLT, UInt8.reduceLT, UInt8.reduceLE, UInt8.reduceToNat]
  · simp only at h1 h2 h3 h4 h5
    subst h2 h3
    have hns : newS (⟨[], [], [], 0⟩ : St) (([] : List Fld).map fV).isEmpty = ⟨[], [], [], 0⟩ := rfl
    have hsl : newSl (⟨[], [], [], 0⟩ : St) 2 (([] : List Fld).map fV) = .nils := rfl
    rw [hns, hsl] at hP
    have hst := st_store (B := []) (T := []) (a := 0) (c := 0) (a' := fa) (c' := fc)
    simp only [List.nil_append, List.length_nil] at hst
    have hld : loadPV ⟨[[.int .i64 fa, .int .i64 fc]], [], [], 0⟩ false 1 (.ptr 0 1) = some (.int .i64 fc) := rfl
    have hld0 : loadPV ⟨[[.int .i64 fa, .int .i64 fc]], [], [], 0⟩ false 1 (.ptr 0 0) = some (.int .i64 fa) := rfl
    have hal : call prog (.fn 144 []) [] ⟨[[.int .i64 fa, .int .i64 fc]], [], [], 0⟩ = some (.bool true, ⟨[[.int .i64 fa, .int .i64 fc]], [], [], 0⟩) := call_of alP5
    have hln : lenPV false .nils = some (.int .i64 0) := rfl
    have hz0 : ((0 : Nat) : Int) = 0 := rfl
    simp (maxSteps := 1000000) (disch := omega) only [List.length_nil, len_by hx, hn', hP, allocPV, List.nil_append, hst, faP, Nat.zero_add, Nat.add_zero, hld, hld0, h1, hal, hln, hz0, h4, h5, W_seq, W_region, W_cond, W_block, W_skip, W_label, W_exit, W_goto, W_ret, WO_cons, WO_consG, WO_nil, wantedA_eq, wantB, evOp, ev_tmp, ev_const, ev_fn, WN_some, WN_none, updO_some, updO_none, upd_eq,
 ↓reduceIte, Nat.reduceEqDiff, List.nil_append, List.cons_append, List.append_nil, List.map_cons, List.map_nil, env0_zero, env0_succ, env0_nil, Option.map_some, Option.map_none, seqQ_normal, seqQ_ret, seqQ_exit, seqQ_goto, blockQ_normal, blockQ_ret, blockQ_exit, blockQ_goto, condW_bool, loopQ_ret, loopQ_exit, loopQ_goto, endQ_ret, endQ_normal,
 lss_i, leq_i, gtr_i, geq_i, eql_i, neq_i, eql_8, neq_8, lss_8, leq_8, gtr_8, geq_8, eql_s, neq_s, eql_b, neq_b, not_b, by_bys, by_nils, load_cp1, beq_true, beq_false, Bool.not_eq_true', decide_eq_true_eq, decide_eq_false_iff_not, decide_true, decide_false,
 Int.toNat_natCast, Int.ofNat_lt, Int.ofNat_le, Int.natCast_inj, Bool.false_eq_true, Bool.true_eq_false, extPV, List.getElem?_cons_zero, List.getElem?_cons_succ, nilckPV, Int.reduceToNat, Int.reduceLE, true_and, and_true, reduceCtorEq, or_false, false_or, or_true, Option.some.injEq, exists_eq_left', Bool.not_true, Bool.not_false, ne_eq, Int.reduceEq, not_true_eq_false, not_false_eq_true, Int.reduceLT, UInt8.reduceLT, UInt8.reduceLE, UInt8.reduceToNat]
end Go.Ab

/-
  The library's searches as primitives, out of the shelf's contracts.
-/
namespace Go.Ab
open Go.Shelf Go.Proofs
set_option linter.unusedVariables false
set_option linter.unusedSimpArgs false
variable {P : Program} {g : GMap} {ρ : Go.Shelf.Ren}

def numsOf (a : List UInt8) : List Int := a.map fun b => (b.toNat : Int)
theorem bytesOf_nums (a : List UInt8) : Lib.bytesOf (numsOf a) = a := by
  simp [Lib.bytesOf, numsOf, Function.comp_def]
theorem nums_range (a : List UInt8) : ∀ x ∈ numsOf a, 0 ≤ x ∧ x < 256 := by
  intro x hx
  simp only [numsOf, List.mem_map] at hx
  obtain ⟨b, _, rfl⟩ := hx
  have := b.toNat_lt
  omega
theorem nums_getD (a : List UInt8) {i : Nat} (h : i < a.length) : (numsOf a).getD i 0 = ((a[i]).toNat : Int) := by
  simp [numsOf, List.getD, h]

theorem cells_of {κ : K} {w : World} (hC : ∀ b i u, κ.C b i = some u → w.cell? ⟨b, i, none⟩ = some u) {blk off : Nat} {a : List UInt8} (hb : ∀ (i : Nat) (b : UInt8), a[i]? = some b → κ.C blk (off + i) = some (.int .u8 b.toNat)) :
    ∀ i, i < a.length → w.cell? ((⟨blk, off, none⟩ : Addr).add i) = some (.int .u8 ((numsOf a).getD i 0)) := by
  intro i hi
  rw [add_eq, nums_getD a hi]
  exact hC _ _ _ (hb i _ (by simp [hi]))

theorem primIndex (L : Lays.n185 P ρ) (hm : ∀ κ, g.inv κ → ∃ m, κ.C (ρ.g 1) 0 = some (.int .i64 m)) {pf : Func} (hpf : P.funcs[ρ.f 185]? = some pf) (hb : pf.body.isSome = true) (hn : pf.name ≠ "runtime.NumGoroutine") : PrimOK P g (ρ.f 185) pBytesIndex := by
  refine prim_of_calls hpf hb hn (fun κ w args ps v hi hC hsz hargs hp => ?_)
  obtain ⟨m, hm⟩ := hm κ hi
  have hmc := hC _ _ _ hm
  match ps, hp with
  | [x, y], hp =>
    simp only [pBytesIndex] at hp
    cases hx : x.by with
    | none => simp [hx] at hp
    | some a =>
      cases hy : y.by with
      | none => simp [hx, hy] at hp
      | some b =>
        simp only [hx, hy] at hp
        split at hp
        · rename_i hlen
          cases hp
          obtain ⟨u1, u2, rfl⟩ : ∃ u1 u2, args = #[u1, u2] := by
            obtain ⟨l⟩ := args
            match l, hsz with
            | [u1, u2], _ => exact ⟨u1, u2, rfl⟩
          have r1 := hargs 0 u1 x rfl rfl
          have r2 := hargs 1 u2 y rfl rfl
          have post : ∀ (n : Int), n = Lib.index a b → ∀ (e : Ending) (w' : World), (e = .returned (.int .i64 n) ∧ ∃ q, w' = w.drewN q) → ∃ z, e = .returned z ∧ (∀ κ', R g κ' z (.int .i64 (Lib.index a b))) ∧ w'.heap = w.heap ∧ w'.os = w.os ∧ w'.tape = w.tape ∧ w'.output = w.output := by
            rintro n rfl e w' ⟨rfl, q, rfl⟩
            exact ⟨_, rfl, fun κ' => .int .i64 _ (by decide), rfl, rfl, rfl, rfl⟩
          have post0 : ∀ (n : Int), n = Lib.index a b → ∀ (e : Ending) (w' : World), (e = .returned (.int .i64 n) ∧ w' = w) → ∃ z, e = .returned z ∧ (∀ κ', R g κ' z (.int .i64 (Lib.index a b))) ∧ w'.heap = w.heap ∧ w'.os = w.os ∧ w'.tape = w.tape ∧ w'.output = w.output := by
            rintro n rfl e w' ⟨rfl, rfl⟩
            exact ⟨_, rfl, fun κ' => .int .i64 _ (by decide), rfl, rfl, rfl, rfl⟩
          rcases by_cases' hx with ⟨rfl, rfl⟩ | ⟨t, rfl⟩
          · cases r1
            rcases by_cases' hy with ⟨rfl, rfl⟩ | ⟨t2, rfl⟩
            · cases r2
              exact (Any.bytes_Index_none L none none 0 0 0 w).mono (post0 0 (by simp [Lib.index]))
            · cases r2 with
              | bys blk off n c _ _ h1 h2 h3 h4 _ =>
                subst h1
                refine (Any.bytes_Index_nil L (some ⟨blk, off, none⟩) b.length c w (by omega) (fun h1 => ?_)).mono (post0 _ ?_)
                · have := cells_of hC h3 0 (by omega)
                  rw [add_eq] at this
                  exact ⟨blk, off, _, rfl, this⟩
                · cases b <;> simp [Lib.index]
          · cases r1 with
            | bys blk off n c _ _ h1 h2 h3 h4 _ =>
              subst h1
              rcases by_cases' hy with ⟨rfl, rfl⟩ | ⟨t2, rfl⟩
              · cases r2
                exact (Any.bytes_Index_none L (some ⟨blk, off, none⟩) none a.length c 0 w).mono (post0 0 (Lib.index_empty a).symm)
              · cases r2 with
                | bys blk2 off2 n2 c2 _ _ k1 k2 k3 k4 _ =>
                  subst k1
                  refine (Any.bytes_Index_at L ⟨blk, off, none⟩ ⟨blk2, off2, none⟩ a.length c b.length c2 (numsOf a) (numsOf b) m w (by simp [numsOf]) (by simp [numsOf]) (nums_range a) (nums_range b) (cells_of hC h3) (cells_of hC k3) h2 hlen.1 (by omega) hmc).mono (post _ ?_)
                  rw [bytesOf_nums, bytesOf_nums]
        · cases hp
  | [], hp => simp [pBytesIndex] at hp
  | [_], hp => simp [pBytesIndex] at hp
  | _ :: _ :: _ :: _, hp => simp [pBytesIndex] at hp
end Go.Ab

/-
  A Builder's text: the walk of the library's function, its end said whole (after the shelf's own proof).
-/
namespace Go.Proofs
open Go.Shelf Go.RowKit
set_option linter.unusedVariables false
variable {P : Program} {ρ : Ren}

set_option maxHeartbeats 2000000 in
set_option maxRecDepth 100000 in
/-- A Builder's text, and all that turns: the shelf's proof, its end turned. -/
theorem bstring_walk (L : Lays.n169 P ρ) (X : Builder.Extra P ρ) (b g cap cells : Nat) (l : List UInt8) (w : World) (h0 : l ≠ []) (hcap : l.length ≤ cap) (hcc : l.length ≤ cells) (hmax : l.length ≤ 9223372036854775807)
    (hb : w.cell? ⟨b, 1, none⟩ = some (.slice (some ⟨g, 0, none⟩) l.length cap)) (hsh : w.shape? g = some (ρ.t 5, cells)) (hcell : ∀ j x, l[j]? = some x → w.cell? ⟨g, j, none⟩ = some (.int .u8 x.toNat)) :
    Calls P (ρ.f 169) #[.pointer (some ⟨b, 0, none⟩)] w fun e w' => e = .returned (.string ⟨l.toArray⟩) ∧ w' = w.drew.freeze ⟨g, 0, none⟩ l.length := by
  have hl0 : l.length ≠ 0 := by simpa using h0
  have c1 : w.drew.cell? ⟨b, 1, none⟩ = some (.slice (some ⟨g, 0, none⟩) l.length cap) := hb
  have hSD : (Builtin.unsafeSliceData_ #[(ρ.t 37)] (ρ.t 127) #[.slice (some ⟨g, 0, none⟩) l.length cap]).run P w.drew = .ok (.pointer (some ⟨g, 0, none⟩)) w.drew :=
    Lib.run_unsafeSliceData_row _ _ _ _ _ _ (by omega)
  have hUS : (Builtin.unsafeString_ #[(ρ.t 127), (ρ.t 3)] (ρ.t 9) #[.pointer (some ⟨g, 0, none⟩), .int .i64 l.length]).run P w.drew = .ok (.string ⟨l.toArray⟩) (w.drew.freeze ⟨g, 0, none⟩ l.length) := by
    refine Lib.run_unsafeString_row w.drew (ρ.t 127) (ρ.t 3) (ρ.t 9) (ρ.t 5) L.t127 X.cellsByte g cells hsh l h0 hcc hmax ?_
    intro j x hx
    have := hcell j x hx
    simp only [Addr.add]
    split
    · rename_i h; subst h; exact this
    · simpa using this
  clear hcell hsh hb
  have mixed := L.mixed
  have t72 := L.t72; have a72 := L.a72; have z72 := L.z72; have v72 := L.v72; have u72 := run_underlying L.t72
  have t70 := L.t70; have a70 := L.a70; have z70 := L.z70; have v70 := L.v70; have u70 := run_underlying L.t70
  have t37 := L.t37; have a37 := L.a37; have z37 := L.z37; have v37 := L.v37; have u37 := run_underlying L.t37
  have t127 := L.t127; have a127 := L.a127; have z127 := L.z127; have v127 := L.v127; have u127 := run_underlying L.t127
  have t3 := L.t3; have a3 := L.a3; have z3 := L.z3; have v3 := L.v3; have u3 := run_underlying L.t3
  have t9 := L.t9; have a9 := L.a9; have z9 := L.z9; have v9 := L.v9; have u9 := run_underlying L.t9
  have t5 := X.t5; have a5 := X.a5; have z5 := X.z5; have v5 := X.v5; have u5 := run_underlying X.t5
  go_enter L.f169, Body.n169_ntmps ρ
  go_wp2
  go_region_o
  all_goals (go_wp2; go_ret; exact ⟨rfl, rfl⟩)

set_option maxHeartbeats 2000000 in
set_option maxRecDepth 100000 in
theorem bstring_nil (L : Lays.n169 P ρ) (X : Builder.Extra P ρ) (b : Nat) (w : World) (hb : w.cell? ⟨b, 1, none⟩ = some (.slice none 0 0)) :
    Calls P (ρ.f 169) #[.pointer (some ⟨b, 0, none⟩)] w fun e w' => e = .returned (.string ⟨#[]⟩) ∧ w' = w.drew := by
  have hUS := Any.unsafeString_none L X
  have hSD : (Builtin.unsafeSliceData_ #[(ρ.t 37)] (ρ.t 127) #[.slice none 0 0]).run P w.drew = .ok (.pointer none) w.drew := rfl
  have c1 : w.drew.cell? ⟨b, 1, none⟩ = some (.slice none 0 0) := hb
  have mixed := L.mixed
  have t72 := L.t72; have a72 := L.a72; have z72 := L.z72; have v72 := L.v72; have u72 := run_underlying L.t72
  have t70 := L.t70; have a70 := L.a70; have z70 := L.z70; have v70 := L.v70; have u70 := run_underlying L.t70
  have t37 := L.t37; have a37 := L.a37; have z37 := L.z37; have v37 := L.v37; have u37 := run_underlying L.t37
  have t127 := L.t127; have a127 := L.a127; have z127 := L.z127; have v127 := L.v127; have u127 := run_underlying L.t127
  have t3 := L.t3; have a3 := L.a3; have z3 := L.z3; have v3 := L.v3; have u3 := run_underlying L.t3
  have t9 := L.t9; have a9 := L.a9; have z9 := L.z9; have v9 := L.v9; have u9 := run_underlying L.t9
  have t5 := X.t5; have a5 := X.a5; have z5 := X.z5; have v5 := X.v5; have u5 := run_underlying X.t5
  go_enter L.f169, Body.n169_ntmps ρ
  go_wp2
  go_region_o
  all_goals (go_wp2; go_ret; exact ⟨rfl, rfl⟩)

/-- What copyCheck names. -/
structure CCLay (P : Program) (ρ : Ren) : Prop where
  mixed : P.follows .mixedOrders = true
  f240 : P.funcs[ρ.f 240]? = some (Body.n240 ρ)
  f276 : P.funcs[ρ.f 276]? = some (Body.n276 ρ)
  t4 : P.underlying (ρ.t 4) = some (TypeDesc.bool)
  a4 : ∀ w, (isAgg (ρ.t 4)).run P w = .ok false w
  z4 : ∀ w, (Go.sizeOf (ρ.t 4)).run P w = .ok 1 w
  v4 : ∀ w, (zeroValue (ρ.t 4)).run P w = .ok (Value.bool false) w
  t70 : P.underlying (ρ.t 70) = some (TypeDesc.pointer (ρ.t 72))
  a70 : ∀ w, (isAgg (ρ.t 70)).run P w = .ok false w
  z70 : ∀ w, (Go.sizeOf (ρ.t 70)).run P w = .ok 1 w
  v70 : ∀ w, (zeroValue (ρ.t 70)).run P w = .ok (Value.pointer none) w
  t72 : P.underlying (ρ.t 72) = some (TypeDesc.struct #[{ name := "addr", type := ρ.t 70, offset := 0, embedded := false, tag := "", pkgPath := "strings", byteOffset := 0 }, { name := "buf", type := ρ.t 37, offset := 1, embedded := false, tag := "", pkgPath := "strings", byteOffset := 8 }])
  a72 : ∀ w, (isAgg (ρ.t 72)).run P w = .ok true w
  z72 : ∀ w, (Go.sizeOf (ρ.t 72)).run P w = .ok 2 w
  v72 : ∀ w, (zeroValue (ρ.t 72)).run P w = .ok (Value.agg #[Value.pointer none, Value.slice none 0 0]) w
  t164 : P.underlying (ρ.t 164) = some (TypeDesc.unsafePointer)
  a164 : ∀ w, (isAgg (ρ.t 164)).run P w = .ok false w
  z164 : ∀ w, (Go.sizeOf (ρ.t 164)).run P w = .ok 1 w
  v164 : ∀ w, (zeroValue (ρ.t 164)).run P w = .ok (Value.pointer none) w

set_option maxHeartbeats 1000000 in
set_option maxRecDepth 100000 in
/-- copyCheck at a builder that has been used: nothing turns (after the shelf's proof). -/
theorem cc_used (L : CCLay P ρ) (X : Builder.X72 P ρ) (b : Nat) (w : World) (h0 : w.cell? ⟨b, 0, none⟩ = some (.pointer (some ⟨b, 0, none⟩))) :
    Calls P (ρ.f 240) #[.pointer (some ⟨b, 0, none⟩)] w fun e w' => e = .returned (.tuple #[]) ∧ w' = w := by
  obtain ⟨j, hj, _⟩ := Option.map_eq_some_iff.1 X.sizeBuilder
  have mixed := L.mixed
  have t72 := L.t72; have a72 := L.a72; have z72 := L.z72; have v72 := L.v72; have u72 := run_underlying L.t72
  have t70 := L.t70; have a70 := L.a70; have z70 := L.z70; have v70 := L.v70; have u70 := run_underlying L.t70
  have t4 := L.t4; have a4 := L.a4; have z4 := L.z4; have v4 := L.v4; have u4 := run_underlying L.t4
  have t164 := L.t164; have a164 := L.a164; have z164 := L.z164; have v164 := L.v164; have u164 := run_underlying L.t164
  go_enter L.f240, Body.n240_ntmps ρ
  go_wp2
  rw [Lib.run_neq_ptr_same w _ L.t70 hj]
  go_wp2
  go_end0
  exact ⟨rfl, rfl⟩

set_option maxHeartbeats 1000000 in
set_option maxRecDepth 100000 in
/-- copyCheck at a fresh builder: it stores its own address (after the shelf's proof). -/
theorem cc_fresh (L : CCLay P ρ) (X : Builder.X72 P ρ) (b : Nat) (w : World) (h0 : w.cell? ⟨b, 0, none⟩ = some (.pointer none)) (hsh : w.shape? b = some ((ρ.t 72), 2)) (hfz : w.frozen? ⟨b, 0, none⟩ = false) :
    Calls P (ρ.f 240) #[.pointer (some ⟨b, 0, none⟩)] w fun e w' => e = .returned (.tuple #[]) ∧ w' = w.setCell ⟨b, 0, none⟩ (.pointer (some ⟨b, 0, none⟩)) := by
  obtain ⟨j, hj, hjs⟩ := Option.map_eq_some_iff.1 X.sizeBuilder
  have mixed := L.mixed
  have t72 := L.t72; have a72 := L.a72; have z72 := L.z72; have v72 := L.v72; have u72 := run_underlying L.t72
  have t70 := L.t70; have a70 := L.a70; have z70 := L.z70; have v70 := L.v70; have u70 := run_underlying L.t70
  have t4 := L.t4; have a4 := L.a4; have z4 := L.z4; have v4 := L.v4; have u4 := run_underlying L.t4
  have t164 := L.t164; have a164 := L.a164; have z164 := L.z164; have v164 := L.v164; have u164 := run_underlying L.t164
  go_enter L.f240, Body.n240_ntmps ρ
  go_wp2
  rw [Lib.run_to_unsafe w ⟨b, 0, none⟩ L.t70 L.t164 hj (by rw [hjs]; decide) hsh (Nat.zero_lt_succ 1)]
  simp only [Result.andThen]
  rw [Oper.upon_value]
  go_wp2
  rw [run_callFunc_extern L.f276 (by kernel_rfl) (by kernel_rfl) (by kernel_rfl) (e := Extern.AbiNoEscape.same) (by kernel_rfl)]
  rw [Lib.run_noEscape]
  simp only [Result.andThen]
  rw [Oper.upon_value]
  go_wp2
  rw [Lib.run_from_unsafe w ⟨b, 0, none⟩ L.t164 L.t70 hj hsh X.liesBuilder]
  simp only [Result.andThen]
  rw [Oper.upon_value]
  go_wp2
  go_end0
  exact ⟨rfl, rfl⟩
end Go.Proofs

/-
  The library's functions on texts as primitives, out of the shelf's contracts.
-/
namespace Go.Ab
open Go.Shelf Go.Proofs
set_option linter.unusedVariables false
set_option linter.unusedSimpArgs false
variable {P : Program} {g : GMap} {ρ : Go.Shelf.Ren}

theorem primStrIndex (L : Lays.n219 P ρ) (hm : ∀ κ, g.inv κ → ∃ m, κ.C (ρ.g 1) 0 = some (.int .i64 m)) {pf : Func} (hpf : P.funcs[ρ.f 219]? = some pf) (hb : pf.body.isSome = true) (hn : pf.name ≠ "runtime.NumGoroutine") : PrimOK P g (ρ.f 219) pStrIndex := by
  refine prim_of_calls hpf hb hn (fun κ w args ps v hi hC hsz hargs hp => ?_)
  obtain ⟨m, hm⟩ := hm κ hi
  have hmc := hC _ _ _ hm
  unfold pStrIndex at hp
  split at hp
  · rename_i a b
    split at hp
    · rename_i hlen
      cases hp
      obtain ⟨u1, u2, rfl⟩ : ∃ u1 u2, args = #[u1, u2] := by
        obtain ⟨l⟩ := args
        match l, hsz with
        | [u1, u2], _ => exact ⟨u1, u2, rfl⟩
      have r1 := hargs 0 u1 _ rfl rfl
      have r2 := hargs 1 u2 _ rfl rfl
      cases r1 with | str sa _ ha => cases r2 with | str sb _ hb =>
      refine (Any.stringslite_Index L sa sb m w (by rw [← ha] at hlen; simpa using hlen) hmc).mono ?_
      rintro e w' ⟨rfl, rfl⟩
      exact ⟨_, rfl, fun κ' => by rw [ha, hb]; exact .int .i64 _ (by decide), rfl, rfl, rfl, rfl⟩
    · cases hp
  · cases hp

theorem primStrIndexByte (L : Lays.n137 P ρ) {pf : Func} (hpf : P.funcs[ρ.f 137]? = some pf) (hb : pf.body.isSome = true) (hn : pf.name ≠ "runtime.NumGoroutine") : PrimOK P g (ρ.f 137) pStrIndexByte := by
  refine prim_of_calls hpf hb hn (fun κ w args ps v hi hC hsz hargs hp => ?_)
  unfold pStrIndexByte at hp
  split at hp
  · rename_i a c
    cases hp
    obtain ⟨u1, u2, rfl⟩ : ∃ u1 u2, args = #[u1, u2] := by
      obtain ⟨l⟩ := args
      match l, hsz with
      | [u1, u2], _ => exact ⟨u1, u2, rfl⟩
    have r1 := hargs 0 u1 _ rfl rfl
    have r2 := hargs 1 u2 _ rfl rfl
    cases r1 with | str sa _ ha => cases r2 with | b8 _ n hn =>
    refine (Any.strings_IndexByte L sa n w).mono ?_
    rintro e w' ⟨rfl, rfl⟩
    refine ⟨_, rfl, fun κ' => ?_, rfl, rfl, rfl, rfl⟩
    have : n.toNat.toUInt8 = c := by rw [hn]; simp
    rw [ha, this]; exact .int .i64 _ (by decide)
  · cases hp

/-- A primitive that may put a cell, out of a contract. -/
theorem primS_of_calls {f' : FuncId} {p : List PV → List (List PV) → Option (PV × Upd)} {pf : Func} (hpf : P.funcs[f']? = some pf) (hb : pf.body.isSome = true) (hn : pf.name ≠ "runtime.NumGoroutine")
    (h : ∀ (base : Nat) (κ : K) (w : World) (st : St) (args : Array Value) (ps : List PV) (v : PV) (u : Upd) (st' : St), SR P g base κ w st → args.size = ps.length → (∀ (i : Nat) (u : Value) (q : PV), args[i]? = some u → ps[i]? = some q → R g κ u q) → p ps st.boxes = some (v, u) → updS st u = some st' →
      Calls P f' args w fun e w' => ∃ z, e = .returned z ∧ R g κ z v ∧ SR P g base κ w' st' ∧ Fr base κ.lam w w') : PrimSOK P g f' p := by
  intro base κ w st args ps v u st' hsr hsz hargs hp hu F hF nn o a next Q hnext
  have hrun : (callFunc f' args).run P w = .ok (.enter f' args) w := by
    have hb2 : pf.body.isNone = false := by
      cases hbb : pf.body with
      | none => rw [hbb] at hb; cases hb
      | some c => rfl
    have hn2 : (pf.name == "runtime.NumGoroutine") = false := by simpa using hn
    unfold callFunc
    simp only [Sem.run_bind, Go.program, Sem.run, Result.andThen, hpf, hn2, hb2]
    rfl
  rw [hrun]
  refine ⟨hF.deep, callsIn_of_calls hF ?_⟩
  refine (h base κ w st args ps v u st' hsr hsz hargs hp hu).mono ?_
  rintro e w' ⟨z, rfl, hz, hs, hf⟩
  exact hnext κ z w' (K.le.refl κ) rfl hs hz hf

theorem setCell_eq {w : World} {blk off : Nat} {v : Value} {rs : Array Value} {el : TypeId} {fz : Nat × Nat} (hw : w.heap[blk]? = some (.cells rs el fz)) : w.setCell ⟨blk, off, none⟩ v = setBlk w blk (setA rs off [v]) el fz := by
  have hlt := (Array.getElem?_eq_some_iff.1 hw).1
  simp only [World.setCell, setBlk]
  congr 1
  apply Array.ext_getElem?
  intro j
  rw [Array.getElem?_modify]
  by_cases hj : blk = j
  · subst hj
    rw [if_pos rfl, hw]
    simp [hlt, setA]
  · rw [if_neg hj, Array.getElem?_setIfInBounds_ne hj]

theorem primCopyCheck (L : CCLay P ρ) (X : Builder.X72 P ρ) (htB : g.tB = ρ.t 72) {pf : Func} (hpf : P.funcs[ρ.f 240]? = some pf) (hb : pf.body.isSome = true) (hn : pf.name ≠ "runtime.NumGoroutine") : PrimSOK P g (ρ.f 240) pCopyCheck := by
  refine primS_of_calls hpf hb hn (fun base κ w st args ps v u st' hsr hsz hargs hp hu => ?_)
  unfold pCopyCheck at hp
  split at hp
  · rename_i bs b
    obtain ⟨u1, rfl⟩ : ∃ u1, args = #[u1] := by
      obtain ⟨l⟩ := args
      match l, hsz with
      | [u1], _ => exact ⟨u1, rfl⟩
    have r1 := hargs 0 u1 _ rfl rfl
    cases r1 with | ptr _ _ blk hφ =>
    split at hp
    · -- fresh
      rename_i x hbx
      simp only [Option.some.injEq, Prod.mk.injEq] at hp
      obtain ⟨rfl, rfl⟩ := hp
      have hB := hsr.bx b blk _ hbx hφ
      obtain ⟨rs, ⟨el, lo, hi, hw, hf⟩, hl, hr⟩ := hB.ex
      obtain ⟨v0, h0, hr0⟩ := hr 0 .bslot rfl
      cases hr0
      have hsh := hB.sb (by simp)
      rw [htB] at hsh
      have hc0 : w.cell? ⟨blk, 0, none⟩ = some (.pointer none) := by simp [World.cell?, hw, h0]
      have hrs : rs.size = 2 := by
        simp only [World.shape?, hw, Option.some.injEq, Prod.mk.injEq] at hsh; exact hsh.2
      have hfz : w.frozen? ⟨blk, 0, none⟩ = false := by
        simp only [World.frozen?, hw, Bool.and_eq_false_iff, decide_eq_false_iff_not]
        rcases hf with h | h
        · subst h; omega
        · left; omega
      refine (cc_fresh L X blk w hc0 hsh hfz).mono ?_
      rintro e w' ⟨rfl, rfl⟩
      -- the store's own law
      have hst : storePV st 1 (.ptr b 0) (.ptr b 0) = some st' := hu
      simp only [storePV, hbx] at hst
      split at hst
      · cases hst
        refine ⟨_, rfl, .tup #[] [] rfl rfl (fun i v p a => by simp at a), ?_, ?_⟩
        · rw [setCell_eq hw]
          have := hsr.setBox (rs' := setA rs 0 [.pointer (some ⟨blk, 0, none⟩)]) (cs' := setCells [.bslot, x] 0 [.ptr b 0]) (if hasTok [PV.ptr b 0] then min st.low b else st.low) hbx hφ hw hf (setA_size _ _ _) (by rw [setCells_length]; exact hl) (fun i c hc => ?_) ?_ (fun c hc => ?_) (fun hm => ?_)
          · exact this
          · simp only [setCells, List.set_cons_zero] at hc
            match i with
            | 0 =>
              simp at hc; subst hc
              exact ⟨.pointer (some ⟨blk, 0, none⟩), by simp [setA, hrs], .ptr b 0 blk hφ⟩
            | i + 1 =>
              have hc' : [PV.bslot, x][i + 1]? = some c := by simpa using hc
              obtain ⟨v1, h1, hr1⟩ := hr (i + 1) c hc'
              refine ⟨v1, ?_, hr1⟩
              simp [setA]; exact h1
          · have := hB.lf
            simp only [setCells, List.set_cons_zero, List.all_cons, leafB] at this ⊢
            simpa using this
          · simp only [setCells, List.set_cons_zero, List.mem_cons, List.not_mem_nil, or_false] at hc
            rcases hc with rfl | rfl
            · simp [PV.inB]
            · exact hB.lw _ (by simp)
          · simp
        · rw [setCell_eq hw]
          exact Fr.setBlk hw hB.ge
      · cases hst
    · -- used
      rename_i b' x hbx
      split at hp
      · rename_i hbb
        subst hbb
        simp only [Option.some.injEq, Prod.mk.injEq] at hp
        obtain ⟨rfl, rfl⟩ := hp
        simp only [updS, Option.some.injEq] at hu
        subst hu
        have hB := hsr.bx b' blk _ hbx hφ
        obtain ⟨rs, ⟨el, lo, hi, hw, hf⟩, hl, hr⟩ := hB.ex
        obtain ⟨v0, h0, hr0⟩ := hr 0 _ rfl
        cases hr0 with | ptr _ _ blk' hφ' =>
        rw [hφ] at hφ'; cases hφ'
        have hc0 : w.cell? ⟨blk, 0, none⟩ = some (.pointer (some ⟨blk, 0, none⟩)) := by simp [World.cell?, hw, h0]
        refine (cc_used L X blk w hc0).mono ?_
        rintro e w' ⟨rfl, rfl⟩
        exact ⟨_, rfl, .tup #[] [] rfl rfl (fun i v p a => by simp at a), hsr, Fr.refl _ _⟩
      · cases hp
    · cases hp
  · cases hp


/-- A room that is nobody's more: its row may be frozen. -/
theorem SR.kill {base : Nat} {κ : K} {w w' : World} {st : St} (h : SR P g base κ w st) {i blk e ce : Nat} {rs : Array Value} {el : TypeId} {fz fz' : Nat × Nat} (hi : st.toks[i]? = some true) (hτ : κ.τ[i]? = some (blk, e, ce))
    (hw : w.heap[blk]? = some (.cells rs el fz)) (hw' : w'.heap = (setBlk w blk rs el fz').heap) : SR P g base κ w' { st with toks := st.toks.set i false } := by
  have hk := h.tk i blk e ce hi hτ
  suffices hs : SR P g base κ (setBlk w blk rs el fz') { st with toks := st.toks.set i false } from hs.heap hw'
  have hcell : ∀ b i, (setBlk w blk rs el fz').cell? ⟨b, i, none⟩ = w.cell? ⟨b, i, none⟩ := fun b i => by
    by_cases hb : b = blk
    · subst hb
      have hlt := (Array.getElem?_eq_some_iff.1 hw).1
      have h2 : (setBlk w b rs el fz').heap[b]? = some (.cells rs el fz') := by simp [setBlk, hlt]
      simp only [World.cell?]
      rw [h2, hw]
    · exact cell_setBlk_other hb
  have hobj : ∀ (k : Nat) (o : Obj), w.heap[k]? = some o → isCells o = false → (setBlk w blk rs el fz').heap[k]? = some o := fun k o ho hc => by
    rw [setBlk_other]
    · exact ho
    · rintro rfl; rw [hw] at ho; cases ho; simp [isCells] at hc
  have hset : ∀ j : Nat, (st.toks.set i false)[j]? = some true → st.toks[j]? = some true ∧ j ≠ i := fun j hj => by
    by_cases hji : j = i
    · subst hji
      rw [List.getElem?_set] at hj
      simp at hj
    · rw [List.getElem?_set_ne (fun h => hji h.symm)] at hj
      exact ⟨hj, hji⟩
  refine { cC := fun b i v hc => by rw [hcell]; exact h.cC b i v hc, sh := fun b t hb => (h.sh b t hb).imp fun n hn => (by rw [shape_setBlk hw rfl]; exact hn), bl := h.bl, bn := h.bn, bx := fun b k cs h1 h2 => ?_, tl := by simp [h.tl], tk := fun j k e ce h1 h2 => ?_,
           td := fun a b ba ea ca bb eb cb h1 h2 h3 h4 h5 => h.td a b ba ea ca bb eb cb (hset a h1).1 (hset b h2).1 h3 h4 h5, ll := h.ll, ln := h.ln, lb := h.lb, lp := fun k l D r h1 h2 => (h.lp k l D r h1 h2).mono (K.le.refl _) hobj, hb := by simpa [setBlk] using h.hb, gv := h.gv }
  · have hx := h.bx b k cs h1 h2
    have hne : k ≠ blk := by rintro rfl; exact hk.nb (List.mem_of_getElem? h2)
    obtain ⟨rs', hc, h3, h4⟩ := hx.ex
    exact ⟨hx.ge, hx.nc, ⟨rs', hc.congr (setBlk_other hne), h3, h4⟩, hx.lf, hx.lw, fun hm => by rw [← hx.sb hm]; exact shape_congr (setBlk_other hne)⟩
  · obtain ⟨q1, q2⟩ := hset j h1
    have hx := h.tk j k e ce q1 h2
    have hne : k ≠ blk := h.td j i k e ce blk _ _ q1 hi h2 hτ q2
    obtain ⟨rs', hc, h3⟩ := hx.ex
    exact ⟨hx.ge, hx.nb, hx.nc, ⟨rs', hc.congr (setBlk_other hne), h3⟩⟩

theorem primBuilderString (L : Lays.n169 P ρ) (X : Builder.Extra P ρ) (htU : g.tU = ρ.t 5) {pf : Func} (hpf : P.funcs[ρ.f 169]? = some pf) (hb : pf.body.isSome = true) (hn : pf.name ≠ "runtime.NumGoroutine") : PrimSOK P g (ρ.f 169) pBuilderString := by
  refine primS_of_calls hpf hb hn (fun base κ w st args ps v u st' hsr hsz hargs hp hu => ?_)
  unfold pBuilderString at hp
  split at hp
  · rename_i bs b
    obtain ⟨u1, rfl⟩ : ∃ u1, args = #[u1] := by
      obtain ⟨l⟩ := args
      match l, hsz with
      | [u1], _ => exact ⟨u1, rfl⟩
    have r1 := hargs 0 u1 _ rfl rfl
    cases r1 with | ptr _ _ blk hφ =>
    split at hp
    · -- nothing was written
      rename_i c0 hbx
      simp only [Option.some.injEq, Prod.mk.injEq] at hp
      obtain ⟨rfl, rfl⟩ := hp
      simp only [updS, Option.some.injEq] at hu
      subst hu
      have hB := hsr.bx b blk _ hbx hφ
      obtain ⟨rs, ⟨el, lo, hi, hw, hf⟩, hl, hr⟩ := hB.ex
      obtain ⟨v0, h0, hr0⟩ := hr 1 .nils rfl
      cases hr0
      have hc : w.cell? ⟨blk, 1, none⟩ = some (.slice none 0 0) := by simp [World.cell?, hw, h0]
      refine (bstring_nil L X blk w hc).mono ?_
      rintro e w' ⟨rfl, rfl⟩
      exact ⟨_, rfl, .str _ _ rfl, hsr.heap rfl, Fr.same rfl rfl rfl rfl⟩
    · rename_i c0 i l hbx
      split at hp
      · cases hp
      · rename_i hne0
        obtain ⟨hne, hrm⟩ : l ≠ [] ∧ l.length ≤ room := by simpa [not_or] using hne0
        simp only [Option.some.injEq, Prod.mk.injEq] at hp
        obtain ⟨rfl, rfl⟩ := hp
        simp only [updS] at hu
        split at hu
        · rename_i hti
          cases hu
          have hB := hsr.bx b blk _ hbx hφ
          obtain ⟨rs, ⟨el, lo, hi, hw, hf⟩, hl, hr⟩ := hB.ex
          obtain ⟨v0, h0, hr0⟩ := hr 1 _ rfl
          cases hr0 with
          | bys blk' off n c _ _ hn2 hc hbb ht hz =>
            obtain ⟨rfl, hS⟩ := hz i rfl
            subst hn2
            obtain ⟨n', hsh⟩ := hsr.sh blk' _ hS
            obtain ⟨e', ce, hτ, hroom⟩ := ht
            have hTK := hsr.tk i blk' e' ce hti hτ
            obtain ⟨rs', ⟨el', lo', hi', hw', hf'⟩, hce⟩ := hTK.ex
            have hn' : n' = rs'.size ∧ el' = g.tU := by
              simp only [World.shape?, hw', Option.some.injEq, Prod.mk.injEq] at hsh
              exact ⟨hsh.2.symm, hsh.1⟩
            have hcl : ∀ j x, l[j]? = some x → w.cell? ⟨blk', j, none⟩ = some (.int .u8 x.toNat) := fun j x hx => by
              have := hsr.cC _ _ _ (hbb j x hx)
              simpa using this
            have hcells : l.length ≤ n' := by
              rcases Nat.lt_or_ge n' l.length with h1 | h1
              · exfalso
                have h2 := hcl n' l[n'] (by simp [h1])
                simp only [World.cell?, hw'] at h2
                simp [hn'.1] at h2
              · exact h1
            have hmax : l.length ≤ 9223372036854775807 := by have e : room = 68719476736 := rfl; omega
            have hcell : w.cell? ⟨blk, 1, none⟩ = some (.slice (some ⟨blk', 0, none⟩) l.length c) := by simp [World.cell?, hw, h0]
            refine (bstring_walk L X blk blk' c n' l w hne hc hcells hmax hcell (by rw [hsh, htU]) hcl).mono ?_
            rintro e w1 ⟨rfl, rfl⟩
            have hlt := (Array.getElem?_eq_some_iff.1 hw').1
            have hfr : ∃ fz, (w.drew.freeze ⟨blk', 0, none⟩ l.length).heap = (setBlk w blk' rs' el' fz).heap := by
              refine ⟨if lo' == hi' then (0, 0 + l.length) else (min lo' 0, max hi' (0 + l.length)), ?_⟩
              simp only [World.freeze, setBlk, World.drew]
              rw [if_neg (by simpa using hne)]
              apply Array.ext_getElem?
              intro j
              rw [Array.getElem?_modify]
              by_cases hj : blk' = j
              · subst hj; rw [if_pos rfl, hw']; simp [hlt]
              · rw [if_neg hj, Array.getElem?_setIfInBounds_ne hj]
            obtain ⟨fz, hfr⟩ := hfr
            refine ⟨_, rfl, .str _ _ rfl, hsr.kill hti hτ hw' hfr, ?_⟩
            refine Fr.of ⟨?_, ?_, ?_, ?_, fun k hk => ?_⟩ fun k o ho hc => ?_
            · simp only [World.freeze]; split <;> rfl
            · simp only [World.freeze]; split <;> rfl
            · simp only [World.freeze]; split <;> rfl
            · rw [hfr]; simp [setBlk]
            · rw [hfr]; exact setBlk_other (by have := hTK.ge; omega)
            · rw [hfr, setBlk_other]
              · exact ho
              · rintro rfl; rw [hw'] at ho; cases ho; simp [isCells] at hc
        · cases hu
    · cases hp
  · cases hp
end Go.Ab
