/-
  What is wrong with a text: the program's answer, by its lines.
-/
import Derived.Test.YtemnjmphkmokmaaAbS5
import Derived.Test.YtemnjmphkmokmaaAbFor
namespace Go.Ab
set_option linter.unusedVariables false
set_option linter.unusedSimpArgs false
variable {st : St} {e : Env}

/-- What is wrong with one line of a text of n bytes. -/
def faultOf (n : Nat) (q : Nat × List UInt8 × Bool) : Int × Int :=
  if 0 ≤ bareAt q.2.1 then ((q.1 : Int) + bareAt q.2.1, 41) else if 998 < q.2.1.length then ((q.1 : Int), 40) else if q.2.2 = false then ((n : Int), 42) else (0, 0)
/-- What is wrong with the first wrong one. -/
def rightGo (n : Nat) : List (Nat × List UInt8 × Bool) → Int × Int
  | [] => (0, 0)
  | q :: r => if (faultOf n q).2 ≠ 0 then faultOf n q else rightGo n r
def rightOf (l : List UInt8) : Int × Int := rightGo l.length (refLines l)
def fV (f : Int × Int) : PV := .agg [.int .i64 f.1, .int .i64 f.2]

/-- A line as the iterators give it: within the text; without its end, if it has none. -/
def LineOK (l : List UInt8) (q : Nat × List UInt8 × Bool) : Prop := q.1 + q.2.1.length ≤ l.length ∧ (q.2.2 = false → ¬ [13, 10] <:+ q.2.1)

theorem no_suffix {m : List UInt8} (h : Lib.index m [13, 10] = -1) : ¬ [13, 10] <:+ m := by
  rintro ⟨t, rfl⟩
  induction t with
  | nil => simp [Lib.index, List.isPrefixOf] at h
  | cons c t ih =>
    rw [List.cons_append, Lib.index] at h
    split at h
    · omega
    · split at h
      · rename_i h1
        exact ih (by simpa using h1)
      · rename_i h1
        have := Lib.index_ge (t ++ [13, 10]) [13, 10]
        simp at h1
        omega

theorem place_ok (l : List UInt8) : ∀ (n a : Nat), l.length - a = n → a ≤ l.length → ∀ q ∈ place a (segs (l.drop a) []), LineOK l q := by
  intro n
  induction n using Nat.strongRecOn with
  | _ n ih =>
    intro a hn ha q hq
    rcases segs_index (l.drop a) [] with ⟨i1, i2⟩ | ⟨m, i1, i2, i3⟩
    · rw [i2] at hq
      split at hq
      · simp [place] at hq
      · simp [place] at hq
        subst hq
        exact ⟨by simp; omega, fun _ => no_suffix i1⟩
    · rw [i3] at hq
      simp only [List.length_drop] at i2
      simp only [place, List.nil_append, List.mem_cons] at hq
      rcases hq with rfl | hq
      · exact ⟨by simp; omega, fun h => by simp at h⟩
      · have hlen : ((l.drop a).take m).length = m := by simp; omega
        rw [hlen, List.drop_drop, show a + (m + 2) = a + m + 2 by omega] at hq
        exact ih (l.length - (a + m + 2)) (by omega) (a + m + 2) rfl (by omega) q hq

theorem refLines_ok {l : List UInt8} : ∀ q ∈ refLines l, LineOK l q := fun q hq => place_ok l l.length 0 rfl (by omega) q (by simpa [refLines] using hq)

theorem full_cut {q : Nat × List UInt8 × Bool} {l : List UInt8} (h : LineOK l q) : ([13, 10] <:+ full q) ↔ q.2.2 = true := by
  obtain ⟨a, b, w⟩ := q
  cases w with
  | true => simp [full]
  | false => simp only [full]; simp; exact h.2 rfl

theorem bareAt_lt {l : List UInt8} : bareAt l < (l.length : Int) + 1 ∧ -1 ≤ bareAt l := by
  unfold bareAt
  cases h : l.findIdx? crlf with
  | none => simp; omega
  | some i =>
    rw [List.findIdx?_eq_some_iff_getElem] at h
    obtain ⟨h1, _⟩ := h
    simp; omega

theorem dRight_spec {x : PV} {l : List UInt8} (hx : x.by = some l) (hl : l.length ≤ 1000000) (hxt : x.tokLt st.toks.length = true) : call prog (.fn 5 []) [x] st = some (fV (rightOf l), st) := by
  refine call_of_W prog_5 ?_
  unfold F_dots_Right; dsimp only
  have hc := Leaf_by hx
  have hld : ∀ (a b c : List PV) (ts : List Bool) (ls : List LoopS) (lo : Nat), loadPV ⟨st.boxes ++ [[x], b, c], ts, ls, lo⟩ false 1 (.ptr st.boxes.length 0) = some x := fun a b c ts ls lo => by simp [loadPV, readCells]
  simp (maxSteps := 1000000) (disch := omega) only [by_inB hx, and_self, allocPV, hc.1, hc.2, List.all_cons, List.all_nil, Bool.and_true, List.append_assoc, List.length_append, List.length_cons, List.length_nil, Nat.zero_add, W_scope, W_seq, W_region, W_cond, W_block, W_skip, W_label, W_exit, W_goto, W_ret, WO_cons, WO_consG, WO_nil, wantedA_eq, wantB, evOp, ev_tmp, ev_const, ev_fn, WN_some, WN_none, updO_some, updO_none, upd_eq,
 ↓reduceIte, Nat.reduceEqDiff, List.nil_append, List.cons_append, List.append_nil, List.map_cons, List.map_nil, env0_zero, env0_succ, env0_nil, Option.map_some, Option.map_none, seqQ_normal, seqQ_ret, seqQ_exit, seqQ_goto, blockQ_normal, blockQ_ret, blockQ_exit, blockQ_goto, condW_bool, loopQ_ret, loopQ_exit, loopQ_goto, endQ_ret, endQ_normal,
 lss_i, leq_i, gtr_i, geq_i, eql_i, neq_i, eql_8, neq_8, lss_8, leq_8, gtr_8, geq_8, eql_s, neq_s, eql_b, neq_b, not_b, by_bys, by_nils, load_cp1, beq_true, beq_false, Bool.not_eq_true', decide_eq_true_eq, decide_eq_false_iff_not, decide_true, decide_false,
 Int.toNat_natCast, Int.ofNat_lt, Int.ofNat_le, Int.natCast_inj, Bool.false_eq_true, Bool.true_eq_false, extPV, List.getElem?_cons_zero, List.getElem?_cons_succ, nilckPV, Int.reduceToNat, Int.reduceLE, true_and, and_true, reduceCtorEq, or_false, false_or, or_true, Option.some.injEq, exists_eq_left', Bool.not_true, Bool.not_false, ne_eq, Int.reduceEq, not_true_eq_false, not_false_eq_true, Int.reduceLT, UInt8.reduceLT, UInt8.reduceLE, UInt8.reduceToNat]
  refine W_scopeAt ?_
  simp (maxSteps := 1000000) (disch := omega) only [by_inB hx, and_self, allocPV, hc.1, hc.2, List.all_cons, List.all_nil, Bool.and_true, List.append_assoc, List.length_append, List.length_cons, List.length_nil, Nat.zero_add, Nat.reduceAdd, hld [], dlines_spec hx, W_seq, W_region, W_cond, W_block, W_skip, W_label, W_exit, W_goto, W_ret, WO_cons, WO_consG, WO_nil, wantedA_eq, wantB, evOp, ev_tmp, ev_const, ev_fn, WN_some, WN_none, updO_some, updO_none, upd_eq,
 ↓reduceIte, Nat.reduceEqDiff, List.nil_append, List.cons_append, List.append_nil, List.map_cons, List.map_nil, env0_zero, env0_succ, env0_nil, Option.map_some, Option.map_none, seqQ_normal, seqQ_ret, seqQ_exit, seqQ_goto, blockQ_normal, blockQ_ret, blockQ_exit, blockQ_goto, condW_bool, loopQ_ret, loopQ_exit, loopQ_goto, endQ_ret, endQ_normal,
 lss_i, leq_i, gtr_i, geq_i, eql_i, neq_i, eql_8, neq_8, lss_8, leq_8, gtr_8, geq_8, eql_s, neq_s, eql_b, neq_b, not_b, by_bys, by_nils, load_cp1, beq_true, beq_false, Bool.not_eq_true', decide_eq_true_eq, decide_eq_false_iff_not, decide_true, decide_false,
 Int.toNat_natCast, Int.ofNat_lt, Int.ofNat_le, Int.natCast_inj, Bool.false_eq_true, Bool.true_eq_false, extPV, List.getElem?_cons_zero, List.getElem?_cons_succ, nilckPV, Int.reduceToNat, Int.reduceLE, true_and, and_true, reduceCtorEq, or_false, false_or, or_true, Option.some.injEq, exists_eq_left', Bool.not_true, Bool.not_false, ne_eq, Int.reduceEq, not_true_eq_false, not_false_eq_true, Int.reduceLT, UInt8.reduceLT, UInt8.reduceLE, UInt8.reduceToNat]
  refine W_rangeFunc (fid := 27) (caps := [.ptr (st.boxes.length + 3) 0]) rfl prog_27 ?_
  generalize hrec : recOf _ _ _ _ = rec
  have hra := congrArg LoopS.assign hrec.symm
  have hrb := congrArg LoopS.body hrec.symm
  dsimp only [recOf] at hra hrb
  have r0 : rec.status = 0 := by rw [← hrec]; rfl
  have r1 : rec.pend = .normal := by rw [← hrec]; rfl
  have r2 : rec.params = [11, 12] := by rw [← hrec]; rfl
  have r3 : rec.env 1 = .ptr st.boxes.length 0 := by rw [← hrec]; rfl
  have r4 : rec.env 3 = .ptr (st.boxes.length + 2) 0 := by rw [← hrec]; rfl
  have r5 : rec = { rec with status := 0, pend := .normal } := by rw [← hrec]; rfl
  obtain ⟨P, hP⟩ : ∃ P : List (Nat × List UInt8 × Bool) → St → Prop, P = fun r s => ∃ ts, s = ⟨st.boxes ++ [[x], [.int .i64 0, .int .i64 0], [.int .i64 0, .int .i64 0], [x]], st.toks ++ ts, st.loops ++ [rec], st.boxes.length + 4⟩ ∧ rightOf l = rightGo l.length r ∧ ∀ q ∈ r, LineOK l q := ⟨_, rfl⟩
  obtain ⟨D, hD⟩ : ∃ D : St → Prop, D = fun s => ∃ ts x', s = ⟨st.boxes ++ [[x], [.int .i64 0, .int .i64 0], [.int .i64 (rightOf l).1, .int .i64 (rightOf l).2], [x]], st.toks ++ ts, st.loops ++ [{ rec with status := if x' = .normal then 0 else 2, pend := x' }], st.boxes.length + 4⟩ ∧ (x' = .normal ∨ x' = .exit 0) := ⟨_, rfl⟩
  obtain ⟨s1, hs1, hcall⟩ := lines_iter (st := ⟨st.boxes ++ [[x], [.int .i64 0, .int .i64 0], [.int .i64 0, .int .i64 0], [x]], st.toks, st.loops ++ [rec], min st.boxes.length (st.boxes.length + 3)⟩) hx hl (b := st.boxes.length + 3) (k := st.loops.length) (N := st.toks.length) hxt (P := P) (D := D)
    (fun r s h => by rw [hP] at h; obtain ⟨ts, rfl, _⟩ := h; exact get_app)
    (fun r s h => by rw [hP] at h ⊢; obtain ⟨ts, rfl, h2⟩ := h; exact ⟨ts ++ [true], by simp [St.tok1], h2⟩)
    (fun s h => by
      rw [hP] at h; rw [hD]; obtain ⟨ts, rfl, h2, _⟩ := h
      refine ⟨ts, .normal, ?_, .inl rfl⟩
      rw [h2]; simp only [if_true, rightGo]; rw [← r5])
    (fun q r s v h hv hvt => by
      rw [hP] at h
      obtain ⟨ts, rfl, h2, h3⟩ := h
      have hq := h3 q (by simp)
      obtain ⟨K, hK⟩ : ∃ K : Bool → St → Prop, K = fun b s' => (b = true ∧ P r s') ∨ (b = false ∧ D s') := ⟨_, rfl⟩
      have hmain : ∃ b s', call prog (.yld st.loops.length) [.int .i64 (q.1 : Int), v] ⟨st.boxes ++ [[x], [.int .i64 0, .int .i64 0], [.int .i64 0, .int .i64 0], [x]], st.toks ++ ts, st.loops ++ [rec], st.boxes.length + 4⟩ = some (.bool b, s') ∧ K b s' := by
        refine yld_of_W (r := rec) (e1 := upd (upd (upd (upd rec.env 11 (.int .i64 (q.1 : Int))) 12 v) 4 (.int .i64 (q.1 : Int))) 5 v) get_app0 r0 (by rw [r2]; rfl) ?_ ?_
        · refine ex_of_W ?_
          simp (maxSteps := 1000000) (disch := omega) only [hra, r2, updAll, W_seq, W_region, W_cond, W_block, W_skip, W_label, W_exit, W_goto, W_ret, WO_cons, WO_consG, WO_nil, wantedA_eq, wantB, evOp, ev_tmp, ev_const, ev_fn, WN_some, WN_none, updO_some, updO_none, upd_eq,
 ↓reduceIte, Nat.reduceEqDiff, List.nil_append, List.cons_append, List.append_nil, List.map_cons, List.map_nil, env0_zero, env0_succ, env0_nil, Option.map_some, Option.map_none, seqQ_normal, seqQ_ret, seqQ_exit, seqQ_goto, blockQ_normal, blockQ_ret, blockQ_exit, blockQ_goto, condW_bool, loopQ_ret, loopQ_exit, loopQ_goto, endQ_ret, endQ_normal,
 lss_i, leq_i, gtr_i, geq_i, eql_i, neq_i, eql_8, neq_8, lss_8, leq_8, gtr_8, geq_8, eql_s, neq_s, eql_b, neq_b, not_b, by_bys, by_nils, load_cp1, beq_true, beq_false, Bool.not_eq_true', decide_eq_true_eq, decide_eq_false_iff_not, decide_true, decide_false,
 Int.toNat_natCast, Int.ofNat_lt, Int.ofNat_le, Int.natCast_inj, Bool.false_eq_true, Bool.true_eq_false, extPV, List.getElem?_cons_zero, List.getElem?_cons_succ, nilckPV, Int.reduceToNat, Int.reduceLE, true_and, and_true, reduceCtorEq, or_false, false_or, or_true, Option.some.injEq, exists_eq_left', Bool.not_true, Bool.not_false, ne_eq, Int.reduceEq, not_true_eq_false, not_false_eq_true, Int.reduceLT, UInt8.reduceLT, UInt8.reduceLE, UInt8.reduceToNat]
        · obtain ⟨rec1, hrec1⟩ : ∃ r, r = ({ rec with status := 1 } : LoopS) := ⟨_, rfl⟩
          simp only [set_app0]
          rw [← hrec1, hrb]
          have hwd : ∃ w, w = (if q.2.2 = true then v.takeB q.2.1.length else v) := ⟨_, rfl⟩
          obtain ⟨w, hw⟩ := hwd
          have hwb : w.by = some q.2.1 := by
            rw [hw]; split
            · rename_i h; rw [takeB_by hv]; simp [full, h]
            · rename_i h; rw [hv]; simp [full, h]
          have hfl : (full q).length ≤ 1000002 := by
            have := hq.1
            simp only [full]; split <;> simp <;> omega
          have hcs : ∀ bs ts' ls lo t, call prog (.fn 19 []) [v, .bys t [13, 10]] ⟨bs, st.toks ++ ts', ls, lo⟩ = some (.tup [w, .bool q.2.2], ⟨bs, st.toks ++ ts', ls, lo⟩) := fun bs ts' ls lo t => by
            rw [CutSuffix_spec hv by_bys (by omega) (tokLt_mono hvt (by simp))]
            by_cases h : q.2.2 = true
            · rw [if_pos ((full_cut hq).2 h), hw, if_pos h, h]
              simp [full, h]
            · rw [if_neg (fun h2 => h ((full_cut hq).1 h2)), hw, if_neg h]
              simp at h; rw [h]
          have hlit : lit8Fill (List.replicate 2 0) [(0, .b8 13), (1, .b8 10)] = some [13, 10] := rfl
          have htk : (st.toks ++ (ts ++ [true]))[st.toks.length + ts.length]? = some true := by rw [get_app]; simp
          have hst : ∀ a b ts ls lo, storePV ⟨st.boxes ++ [[x], [.int .i64 0, .int .i64 0], [.int .i64 0, .int .i64 0], [x]], ts, ls, lo⟩ 2 (.ptr (st.boxes.length + 2) 0) (.agg [.int .i64 a, .int .i64 b]) =
              some ⟨st.boxes ++ [[x], [.int .i64 0, .int .i64 0], [.int .i64 a, .int .i64 b], [x]], ts, ls, lo⟩ := fun a b ts ls lo => by
            simp [storePV, get_app, set_app, PV.cells, PV.inB, PV.inB.inBAll, setCells, hasTok, tokOf, leafOk]
          have hld2 : ∀ a b ts ls lo, loadPV ⟨st.boxes ++ [[x], [.int .i64 0, .int .i64 0], [.int .i64 a, .int .i64 b], [x]], ts, ls, lo⟩ false 1 (.ptr (st.boxes.length + 2) 1) = some (.int .i64 b) := fun a b ts ls lo => by
            simp [loadPV, get_app, readCells]
          have hld0 : ∀ a b ts ls lo, loadPV ⟨st.boxes ++ [[x], [.int .i64 0, .int .i64 0], [.int .i64 a, .int .i64 b], [x]], ts, ls, lo⟩ false 1 (.ptr st.boxes.length 0) = some x := fun a b ts ls lo => by
            simp [loadPV, readCells]
          have hb2 := bareAt_lt (l := q.2.1)
          have hq1 := hq.1
          have fin : ∀ (f : Int × Int) (xx : Ex) (e2 : Env), f = faultOf l.length q → (xx = .normal ∧ f.2 = 0 ∧ f = (0, 0) ∨ xx = .exit 0 ∧ f.2 ≠ 0) →
              roundQ st.loops.length K xx e2 ⟨st.boxes ++ [[x], [.int .i64 0, .int .i64 0], [.int .i64 f.1, .int .i64 f.2], [x]], st.toks ++ (ts ++ [true]), st.loops ++ [rec1], st.boxes.length + 4⟩ := by
            intro f xx e2 hf hxx
            subst hrec1
            refine ⟨_, get_app0, ?_⟩
            rw [hK]
            rcases hxx with ⟨rfl, hf2, rfl⟩ | ⟨rfl, hf2⟩
            · left
              refine ⟨rfl, ?_⟩
              rw [hP]
              refine ⟨ts ++ [true], ?_, ?_, fun q' hq' => h3 q' (by simp [hq'])⟩
              · simp only [set_app0, if_true]; rw [← r5]
              · rw [h2]; simp only [rightGo]; rw [← hf]; simp
            · right
              refine ⟨rfl, ?_⟩
              rw [hD]
              refine ⟨ts ++ [true], .exit 0, ?_, .inr rfl⟩
              have : rightOf l = f := by rw [h2]; simp only [rightGo]; rw [← hf, if_pos hf2]
              rw [this]
              simp only [set_app0]
          by_cases c1 : 0 ≤ bareAt q.2.1
          · simp (maxSteps := 1000000) (disch := omega) only [r3, r4, hlit, freshT_eq, tok1_mk, List.append_assoc, List.length_append, htk, hcs, dbare_spec hwb, c1, add_i, build2 Leaf_int Leaf_int, hst, faddrPV, Nat.zero_add, hld2, W_seq, W_region, W_cond, W_block, W_skip, W_label, W_exit, W_goto, W_ret, WO_cons, WO_consG, WO_nil, wantedA_eq, wantB, evOp, ev_tmp, ev_const, ev_fn, WN_some, WN_none, updO_some, updO_none, upd_eq,
 ↓reduceIte, Nat.reduceEqDiff, List.nil_append, List.cons_append, List.append_nil, List.map_cons, List.map_nil, env0_zero, env0_succ, env0_nil, Option.map_some, Option.map_none, seqQ_normal, seqQ_ret, seqQ_exit, seqQ_goto, blockQ_normal, blockQ_ret, blockQ_exit, blockQ_goto, condW_bool, loopQ_ret, loopQ_exit, loopQ_goto, endQ_ret, endQ_normal,
 lss_i, leq_i, gtr_i, geq_i, eql_i, neq_i, eql_8, neq_8, lss_8, leq_8, gtr_8, geq_8, eql_s, neq_s, eql_b, neq_b, not_b, by_bys, by_nils, load_cp1, beq_true, beq_false, Bool.not_eq_true', decide_eq_true_eq, decide_eq_false_iff_not, decide_true, decide_false,
 Int.toNat_natCast, Int.ofNat_lt, Int.ofNat_le, Int.natCast_inj, Bool.false_eq_true, Bool.true_eq_false, extPV, List.getElem?_cons_zero, List.getElem?_cons_succ, nilckPV, Int.reduceToNat, Int.reduceLE, true_and, and_true, reduceCtorEq, or_false, false_or, or_true, Option.some.injEq, exists_eq_left', Bool.not_true, Bool.not_false, ne_eq, Int.reduceEq, not_true_eq_false, not_false_eq_true, Int.reduceLT, UInt8.reduceLT, UInt8.reduceLE, UInt8.reduceToNat]
            exact fin ((q.1 : Int) + bareAt q.2.1, 41) _ _ (by simp only [faultOf, c1, if_true]) (.inr ⟨rfl, by simp⟩)
          · by_cases c2 : 998 < q.2.1.length
            · have c2' : (998 : Int) < (q.2.1.length : Int) := by omega
              simp (maxSteps := 1000000) (disch := omega) only [r3, r4, hlit, freshT_eq, tok1_mk, List.append_assoc, List.length_append, htk, hcs, dbare_spec hwb, c1, c2', len_by hwb, add_i, build2 Leaf_int Leaf_int, hst, faddrPV, Nat.zero_add, hld2, W_seq, W_region, W_cond, W_block, W_skip, W_label, W_exit, W_goto, W_ret, WO_cons, WO_consG, WO_nil, wantedA_eq, wantB, evOp, ev_tmp, ev_const, ev_fn, WN_some, WN_none, updO_some, updO_none, upd_eq,
 ↓reduceIte, Nat.reduceEqDiff, List.nil_append, List.cons_append, List.append_nil, List.map_cons, List.map_nil, env0_zero, env0_succ, env0_nil, Option.map_some, Option.map_none, seqQ_normal, seqQ_ret, seqQ_exit, seqQ_goto, blockQ_normal, blockQ_ret, blockQ_exit, blockQ_goto, condW_bool, loopQ_ret, loopQ_exit, loopQ_goto, endQ_ret, endQ_normal,
 lss_i, leq_i, gtr_i, geq_i, eql_i, neq_i, eql_8, neq_8, lss_8, leq_8, gtr_8, geq_8, eql_s, neq_s, eql_b, neq_b, not_b, by_bys, by_nils, load_cp1, beq_true, beq_false, Bool.not_eq_true', decide_eq_true_eq, decide_eq_false_iff_not, decide_true, decide_false,
 Int.toNat_natCast, Int.ofNat_lt, Int.ofNat_le, Int.natCast_inj, Bool.false_eq_true, Bool.true_eq_false, extPV, List.getElem?_cons_zero, List.getElem?_cons_succ, nilckPV, Int.reduceToNat, Int.reduceLE, true_and, and_true, reduceCtorEq, or_false, false_or, or_true, Option.some.injEq, exists_eq_left', Bool.not_true, Bool.not_false, ne_eq, Int.reduceEq, not_true_eq_false, not_false_eq_true, Int.reduceLT, UInt8.reduceLT, UInt8.reduceLE, UInt8.reduceToNat]
              exact fin ((q.1 : Int), 40) _ _ (by simp only [faultOf, c1, c2, if_true, if_false]) (.inr ⟨rfl, by simp⟩)
            · have c2' : ¬ (998 : Int) < (q.2.1.length : Int) := by omega
              cases c3 : q.2.2 with
              | false =>
                rw [c3] at hcs
                simp (maxSteps := 1000000) (disch := omega) only [r3, r4, hlit, freshT_eq, tok1_mk, List.append_assoc, List.length_append, htk, hcs, dbare_spec hwb, c1, c2', len_by hwb, hld0, len_by hx, add_i, build2 Leaf_int Leaf_int, hst, faddrPV, Nat.zero_add, hld2, W_seq, W_region, W_cond, W_block, W_skip, W_label, W_exit, W_goto, W_ret, WO_cons, WO_consG, WO_nil, wantedA_eq, wantB, evOp, ev_tmp, ev_const, ev_fn, WN_some, WN_none, updO_some, updO_none, upd_eq,
 ↓reduceIte, Nat.reduceEqDiff, List.nil_append, List.cons_append, List.append_nil, List.map_cons, List.map_nil, env0_zero, env0_succ, env0_nil, Option.map_some, Option.map_none, seqQ_normal, seqQ_ret, seqQ_exit, seqQ_goto, blockQ_normal, blockQ_ret, blockQ_exit, blockQ_goto, condW_bool, loopQ_ret, loopQ_exit, loopQ_goto, endQ_ret, endQ_normal,
 lss_i, leq_i, gtr_i, geq_i, eql_i, neq_i, eql_8, neq_8, lss_8, leq_8, gtr_8, geq_8, eql_s, neq_s, eql_b, neq_b, not_b, by_bys, by_nils, load_cp1, beq_true, beq_false, Bool.not_eq_true', decide_eq_true_eq, decide_eq_false_iff_not, decide_true, decide_false,
 Int.toNat_natCast, Int.ofNat_lt, Int.ofNat_le, Int.natCast_inj, Bool.false_eq_true, Bool.true_eq_false, extPV, List.getElem?_cons_zero, List.getElem?_cons_succ, nilckPV, Int.reduceToNat, Int.reduceLE, true_and, and_true, reduceCtorEq, or_false, false_or, or_true, Option.some.injEq, exists_eq_left', Bool.not_true, Bool.not_false, ne_eq, Int.reduceEq, not_true_eq_false, not_false_eq_true, Int.reduceLT, UInt8.reduceLT, UInt8.reduceLE, UInt8.reduceToNat]
                exact fin ((l.length : Int), 42) _ _ (by simp only [faultOf, c1, c2, c3, if_true, if_false]) (.inr ⟨rfl, by simp⟩)
              | true =>
                rw [c3] at hcs
                simp (maxSteps := 1000000) (disch := omega) only [r3, r4, hlit, freshT_eq, tok1_mk, List.append_assoc, List.length_append, htk, hcs, dbare_spec hwb, c1, c2', len_by hwb, hld0, len_by hx, add_i, build2 Leaf_int Leaf_int, hst, faddrPV, Nat.zero_add, hld2, W_seq, W_region, W_cond, W_block, W_skip, W_label, W_exit, W_goto, W_ret, WO_cons, WO_consG, WO_nil, wantedA_eq, wantB, evOp, ev_tmp, ev_const, ev_fn, WN_some, WN_none, updO_some, updO_none, upd_eq,
 ↓reduceIte, Nat.reduceEqDiff, List.nil_append, List.cons_append, List.append_nil, List.map_cons, List.map_nil, env0_zero, env0_succ, env0_nil, Option.map_some, Option.map_none, seqQ_normal, seqQ_ret, seqQ_exit, seqQ_goto, blockQ_normal, blockQ_ret, blockQ_exit, blockQ_goto, condW_bool, loopQ_ret, loopQ_exit, loopQ_goto, endQ_ret, endQ_normal,
 lss_i, leq_i, gtr_i, geq_i, eql_i, neq_i, eql_8, neq_8, lss_8, leq_8, gtr_8, geq_8, eql_s, neq_s, eql_b, neq_b, not_b, by_bys, by_nils, load_cp1, beq_true, beq_false, Bool.not_eq_true', decide_eq_true_eq, decide_eq_false_iff_not, decide_true, decide_false,
 Int.toNat_natCast, Int.ofNat_lt, Int.ofNat_le, Int.natCast_inj, Bool.false_eq_true, Bool.true_eq_false, extPV, List.getElem?_cons_zero, List.getElem?_cons_succ, nilckPV, Int.reduceToNat, Int.reduceLE, true_and, and_true, reduceCtorEq, or_false, false_or, or_true, Option.some.injEq, exists_eq_left', Bool.not_true, Bool.not_false, ne_eq, Int.reduceEq, not_true_eq_false, not_false_eq_true, Int.reduceLT, UInt8.reduceLT, UInt8.reduceLE, UInt8.reduceToNat]
                exact fin (0, 0) _ _ (by simp only [faultOf, c1, c2, c3, if_false, Bool.true_eq_false]) (.inl ⟨rfl, rfl, rfl⟩)
      obtain ⟨b, s', c1, c2⟩ := hmain
      rw [hK] at c2
      rcases c2 with ⟨rfl, c2⟩ | ⟨rfl, c2⟩
      · exact .inl ⟨s', c1, c2⟩
      · exact .inr ⟨s', c1, c2⟩)
    (by rw [hP]; exact ⟨[], by simp, rfl, refLines_ok⟩)
  rw [hD] at hs1
  obtain ⟨ts, x', rfl, hx'⟩ := hs1
  have hleave : leave ⟨st.boxes ++ [[x], [.int .i64 0, .int .i64 0], [.int .i64 0, .int .i64 0], [x]], st.toks, st.loops ++ [rec], min st.boxes.length (st.boxes.length + 3)⟩
      ⟨st.boxes ++ [[x], [.int .i64 0, .int .i64 0], [.int .i64 (rightOf l).1, .int .i64 (rightOf l).2], [x]], st.toks ++ ts, st.loops ++ [{ rec with status := if x' = .normal then 0 else 2, pend := x' }], st.boxes.length + 4⟩ (.tup []) =
      (.tup [], ⟨st.boxes ++ [[x], [.int .i64 0, .int .i64 0], [.int .i64 (rightOf l).1, .int .i64 (rightOf l).2], [x]], st.toks, st.loops ++ [{ rec with status := if x' = .normal then 0 else 2, pend := x' }], min st.boxes.length (st.boxes.length + 3)⟩) := by
    simp [leave, PV.inB, PV.inB.inBAll, keepRes, keepVals]
    exact List.take_of_length_le (by simp)
  rw [hleave] at hcall
  refine ⟨_, _, { rec with status := if x' = .normal then 0 else 2, pend := x' }, hcall, get_app0, ?_, ?_⟩
  · rcases hx' with rfl | rfl <;> simp
  have hld2 : ∀ a b ts ls lo, loadPV ⟨st.boxes ++ [[x], [.int .i64 0, .int .i64 0], [.int .i64 a, .int .i64 b], [x]], ts, ls, lo⟩ true 2 (.ptr (st.boxes.length + 2) 0) = some (.agg [.int .i64 a, .int .i64 b]) := fun a b ts ls lo => by
    simp [loadPV, get_app, readCells]
  have hst : ∀ a b ts ls lo, storePV ⟨st.boxes ++ [[x], [.int .i64 0, .int .i64 0], [.int .i64 a, .int .i64 b], [x]], ts, ls, lo⟩ 2 (.ptr (st.boxes.length + 1) 0) (.agg [.int .i64 a, .int .i64 b]) =
      some ⟨st.boxes ++ [[x], [.int .i64 a, .int .i64 b], [.int .i64 a, .int .i64 b], [x]], ts, ls, lo⟩ := fun a b ts ls lo => by
    simp [storePV, get_app, set_app, PV.cells, PV.inB, PV.inB.inBAll, setCells, hasTok, tokOf, leafOk]
  have hmin : min st.boxes.length (st.boxes.length + 3) = st.boxes.length := by omega
  rcases hx' with rfl | rfl <;>
  · simp (maxSteps := 1000000) (disch := omega) only [hmin, List.take_left, hld2, hst, W_seq, W_region, W_cond, W_block, W_skip, W_label, W_exit, W_goto, W_ret, WO_cons, WO_consG, WO_nil, wantedA_eq, wantB, evOp, ev_tmp, ev_const, ev_fn, WN_some, WN_none, updO_some, updO_none, upd_eq,
 ↓reduceIte, Nat.reduceEqDiff, List.nil_append, List.cons_append, List.append_nil, List.map_cons, List.map_nil, env0_zero, env0_succ, env0_nil, Option.map_some, Option.map_none, seqQ_normal, seqQ_ret, seqQ_exit, seqQ_goto, blockQ_normal, blockQ_ret, blockQ_exit, blockQ_goto, condW_bool, loopQ_ret, loopQ_exit, loopQ_goto, endQ_ret, endQ_normal,
 lss_i, leq_i, gtr_i, geq_i, eql_i, neq_i, eql_8, neq_8, lss_8, leq_8, gtr_8, geq_8, eql_s, neq_s, eql_b, neq_b, not_b, by_bys, by_nils, load_cp1, beq_true, beq_false, Bool.not_eq_true', decide_eq_true_eq, decide_eq_false_iff_not, decide_true, decide_false,
 Int.toNat_natCast, Int.ofNat_lt, Int.ofNat_le, Int.natCast_inj, Bool.false_eq_true, Bool.true_eq_false, extPV, List.getElem?_cons_zero, List.getElem?_cons_succ, nilckPV, Int.reduceToNat, Int.reduceLE, true_and, and_true, reduceCtorEq, or_false, false_or, or_true, Option.some.injEq, exists_eq_left', Bool.not_true, Bool.not_false, ne_eq, Int.reduceEq, not_true_eq_false, not_false_eq_true, Int.reduceLT, UInt8.reduceLT, UInt8.reduceLE, UInt8.reduceToNat]
    refine ⟨.agg [.int .i64 (rightOf l).1, .int .i64 (rightOf l).2], ?_, ?_⟩
    · simp [resOf, rvAll, rv1, loadPV, get_app, readCells, upd_eq, notTup, packRes]
    · simp [leave, PV.inB, PV.inB.inBAll, keepRes, keepVal, keepCells, keepLeaf, fV]
end Go.Ab
