/-
  A header is read.
-/
import Derived.Test.YtihjnlnmgbabjaaGreatDoorA4
import Derived.Test.YtihjnlnmgbabjaaGreatDoorA3
import Derived.Shelf.Bytes.SlIndexWhole
import Derived.Shelf.Bytes.IndexByte
import Derived.Shelf.Strings.Builder1
import Derived.Shelf.Strings.Search2
import Derived.Shelf.Small.Strs
import Derived.Shelf.SlicesE.Clone
import Derived.Shelf.Strings.Split
import Derived.HandedShaped
import Derived.LaidLaws
import Derived.Lay
set_option linter.unusedVariables false
set_option linter.unusedSimpArgs false
namespace Go.Ab
variable {st st0 S s : St} {e : Env} {b : Nat} {d x : PV}

theorem flines_spec {l : List UInt8} (hx : x.by = some l) : call prog (.fn 164 []) [x] st = some (.fn 171 [.ptr st.boxes.length 0], { boxes := st.boxes ++ [[x]], toks := st.toks, loops := st.loops, low := min st.low st.boxes.length }) := by
  refine call_of_W prog_164 ?_
  unfold F_fields_lines; dsimp only
  have hc := Leaf_by hx
  simp (maxSteps := 1000000) (disch := omega) only [by_inB hx, and_self, allocPV, hc.1, hc.2, capOk, List.all_cons, List.all_nil, Bool.and_true, qaaz, qabz, qaiz, qajz, qalz, evOp, qaoz, qapz, qarz, qatz, qavz,
 ↓reduceIte, Nat.reduceEqDiff, List.append_nil, List.map_cons, List.map_nil, qawz, qazz, qblz]
  exact ⟨.fn 171 [.ptr st.boxes.length 0], rfl, by simp [leave, PV.inB, PV.inB.inBAll]⟩

theorem flines_iter {l : List UInt8} (hx : x.by = some l) (hl : l.length ≤ 100000000) {b k N : Nat} (hN : x.tokLt N = true) {P : List (Nat × List UInt8 × Bool) → St → Prop} {D : St → Prop}
    (hbox : ∀ r s, P r s → s.boxes[b]? = some [x]) (htok : ∀ r s, P r s → P r s.tok1)
    (hE : ∀ r s a, P r s → (r = [] ∧ a = l.length ∨ ∃ m, r = [(a, m, false)]) → ∃ t s', call prog (.yld k) [.int .i64 (a : Int), .nils] s = some (.bool t, s') ∧ D s')
    (hY : ∀ q r s v, P (q :: r) s → q.2.2 = true → v.by = some (full q) → v.tokLt N = true → (∃ s', call prog (.yld k) [.int .i64 (q.1 : Int), v] s = some (.bool true, s') ∧ P r s') ∨ (∃ s', call prog (.yld k) [.int .i64 (q.1 : Int), v] s = some (.bool false, s') ∧ D s'))
    (h0 : P (refLines l) { st with low := st.boxes.length }) : ∃ s1, D s1 ∧ call prog (.fn 171 [.ptr b 0]) [.yld k] st = some (leave st s1 (.tup [])) := by
  have key : W prog F_fields_lines_c1.body (env0 ([.yld k] ++ [.ptr b 0])) { st with low := st.boxes.length } (fun xx e1 s1 => (xx = .normal ∨ xx = .ret) ∧ D s1) := by
    obtain ⟨QQ, hQQ⟩ : ∃ QQ : Ex → Env → St → Prop, QQ = fun xx e1 s1 => (xx = .normal ∨ xx = .ret) ∧ D s1 := ⟨_, rfl⟩
    rw [← hQQ]
    unfold F_fields_lines_c1; dsimp only
    simp (maxSteps := 1000000) (disch := omega) only [qaaz, qabz, qadz, qajz, qalz, evOp, qapz, qarz, qatz, List.nil_append, List.cons_append, qazz]
    obtain ⟨I, hI⟩ : ∃ I : Nat → Env → St → Prop, I = fun n e s => ∃ (a : Nat), n = l.length - a ∧ a ≤ l.length ∧ P (place a (segs (l.drop a) [])) s ∧ e 0 = .yld k ∧ e 1 = .ptr b 0 ∧ e 3 = .int .i64 (a : Int) := ⟨_, rfl⟩
    refine W_loop I ?_ (n := l.length) (by rw [hI]; exact ⟨0, rfl, by omega, h0, rfl, rfl, rfl⟩)
    intro n e s h
    rw [hI] at h
    obtain ⟨a, rfl, ha, hP, e0, e1, e3⟩ := h
    have hb := hbox _ _ hP
    have hld : loadPV s false 1 (.ptr b 0) = some x := by simp [loadPV, hb, readCells]
    have hd := dropB_by (i := a) hx
    have hP1 := htok _ _ hP
    have hb1 := hbox _ _ hP1
    have hld1 : loadPV s.tok1 false 1 (.ptr b 0) = some x := by simp [loadPV, hb1, readCells]
    have htk : s.tok1.toks[s.toks.length]? = some true := by simp [St.tok1]
    have hidx : call prog (.fn 32 []) [x.dropB a, .bys (.own s.toks.length) [13, 10]] s.tok1 = some (.int .i64 (Lib.index (l.drop a) [13, 10]), s.tok1) := by
      rw [call_prim prog_32]
      simp only [List.append_nil, pBytesIndex, hd, qcgz]
      rw [if_pos ⟨by simp; omega, by simp⟩]; rfl
    rcases segs_index (l.drop a) [] with ⟨i1, i2⟩ | ⟨n, i1, i2, i3⟩
    · rw [i2] at hP1
      have hend : (place a (if ([] : List UInt8) ++ l.drop a = [] then [] else [([] ++ l.drop a, false)])) = [] ∧ a = l.length ∨ ∃ m, (place a (if ([] : List UInt8) ++ l.drop a = [] then [] else [([] ++ l.drop a, false)])) = [(a, m, false)] := by
        by_cases hq : ([] : List UInt8) ++ l.drop a = []
        · left
          have := congrArg List.length hq
          simp at this
          rw [if_pos hq]
          exact ⟨rfl, by omega⟩
        · right
          rw [if_neg hq]
          exact ⟨_, rfl⟩
      obtain ⟨t, s', c1, c2⟩ := hE _ _ a hP1 hend
      simp (maxSteps := 1000000) (disch := omega) only [e0, e1, e3, hld, slc_lo hx, lit8_2, freshT_eq, htk, hidx, i1, Int.reduceNeg, Int.reduceLT, c1, qaaz, qabz, qacz, qadz, qaiz, qajz, qalz, evOp, qaoz, qapz, qaqz, qarz, qatz, qavz,
 ↓reduceIte, Nat.reduceEqDiff, List.map_cons, List.map_nil, Option.map_some, Option.map_none, qazz, qbaz, qbez, qbhz, qbiz, qbpz, decide_true, Int.toNat_natCast, reduceCtorEq, Int.reduceLT]
      rw [hQQ]; exact ⟨.inr rfl, c2⟩
    · simp only [List.length_drop] at i2
      have hm := midB_by (i := a) (j := a + n + 2) hx
      have hfull : (l.take (a + n + 2)).drop a = full (a, (l.drop a).take n, true) := by
        simp only [full, if_true]
        rw [List.drop_take, show a + n + 2 - a = n + 2 by omega, segs_take i1]
      rw [i3] at hP1
      simp only [place, List.nil_append] at hP1
      have hlen : ((l.drop a).take n).length = n := by simp; omega
      rw [hlen, List.drop_drop, show a + (n + 2) = a + n + 2 by omega] at hP1
      have hn0 : ¬ ((n : Int) < 0) := by omega
      rcases hY (a, (l.drop a).take n, true) _ s.tok1 (x.midB a (a + n + 2)) hP1 rfl (by rw [hm, hfull]) (midB_tok hN) with ⟨s', c1, c2⟩ | ⟨s', c1, c2⟩
      · simp (maxSteps := 1000000) (disch := omega) only [e0, e1, e3, hld, slc_lo hx, lit8_2, freshT_eq, htk, hidx, hld1, i1, hn0, add_n, slc_lohi hx, c1, qaaz, qabz, qacz, qadz, qaez, qajz, qalz, evOp, qaoz, qapz, qaqz, qarz, qatz, qavz,
 ↓reduceIte, Nat.reduceEqDiff, List.map_cons, List.map_nil, Option.map_some, Option.map_none, qazz, qbdz, qbhz, qbpz, qcfz, decide_false,
 Int.toNat_natCast, Bool.false_eq_true, Int.reduceToNat, reduceCtorEq, Bool.not_true]
        refine loopQ_intro (m := l.length - (a + (n + 2))) (by omega) ?_
        rw [hI]
        exact ⟨a + (n + 2), rfl, by omega, by rw [show a + (n + 2) = a + n + 2 by omega]; exact c2, e0, e1, rfl⟩
      · simp (maxSteps := 1000000) (disch := omega) only [e0, e1, e3, hld, slc_lo hx, lit8_2, freshT_eq, htk, hidx, hld1, i1, hn0, add_n, slc_lohi hx, c1, qaaz, qabz, qacz, qadz, qaez, qaiz, qajz, qalz, evOp, qaoz, qapz, qaqz, qarz, qatz, qavz,
 ↓reduceIte, Nat.reduceEqDiff, List.map_cons, List.map_nil, Option.map_some, Option.map_none, qazz, qbaz, qbez, qbhz, qbiz, qbpz, qcfz, decide_false,
 Int.toNat_natCast, Bool.false_eq_true, Int.reduceToNat, reduceCtorEq, Bool.not_false]
        rw [hQQ]; exact ⟨.inr rfl, c2⟩
  obtain ⟨⟨xx, e1, s1⟩, h1, h2, h3⟩ := key
  refine ⟨s1, h3, ?_⟩
  rw [call_fn prog_171, h1]
  have hr : resOf e1 s1 F_fields_lines_c1.results = some (.tup []) := rfl
  rcases h2 with rfl | rfl <;> simp [finish, hr]

theorem segs_sum : ∀ (n : Nat) (l acc : List UInt8), l.length ≤ n → ((segs l acc).map (fun q => q.1.length)).sum ≤ l.length + acc.length := by
  intro n
  induction n using Nat.strongRecOn with
  | _ n ih =>
    intro l acc hn
    match l, hn with
    | [], _ =>
      simp only [segs]; split <;> simp
    | [c], _ => simp [segs]; omega
    | c :: d :: r, hn =>
      simp only [List.length_cons] at hn
      simp only [segs]
      split
      · have := ih r.length (by omega) r [] (Nat.le_refl _)
        simp only [List.map_cons, List.sum_cons, List.length_cons, List.length_nil] at this ⊢
        omega
      · have := ih (d :: r).length (by simp; omega) (d :: r) (acc ++ [c]) (Nat.le_refl _)
        simp only [List.length_append, List.length_cons, List.length_nil] at this ⊢
        omega
def sumL (r : List (Nat × List UInt8 × Bool)) : Nat := (r.map (fun q => q.2.1.length)).sum
theorem place_sum : ∀ (q : List (List UInt8 × Bool)) (a : Nat), sumL (place a q) = (q.map (fun z => z.1.length)).sum := by
  intro q
  induction q with
  | nil => intro a; rfl
  | cons z r ih => intro a; obtain ⟨b, w⟩ := z; have := ih (a + b.length + 2); simp only [sumL] at this; simp [place, sumL, this]
theorem refLines_sum {l : List UInt8} : sumL (refLines l) ≤ l.length := by
  unfold refLines
  rw [place_sum]
  have := segs_sum l.length l [] (Nat.le_refl _)
  simpa using this
theorem lineP_len {p p' : PS} {a : Nat} {s : List UInt8} (h : lineP p a s = .ok p') : p'.fld.2.length ≤ p.fld.2.length + s.length := by
  unfold lineP at h
  split at h
  · split at h
    · cases h; simp
    · cases h
  · split at h
    · cases h
    · split at h
      · cases h; simp; omega
      · cases h

def pst (st : St) (x : PV) (cs : List PV) (fa fc sz : Int) (ts : List Bool) (lo : Nat) (rc : LoopS) : St :=
  ⟨st.boxes ++ [[.int .i64 0, .int .i64 0], cs, [.ptr (st.boxes.length + 1) 0], [.int .i64 fa, .int .i64 fc], [.int .i64 sz], [x]], st.toks ++ ts, st.loops ++ [rc], lo⟩
variable {cs : List PV} {fa fc sz : Int} {ts : List Bool} {lo : Nat} {rc : LoopS}
theorem pst_stf {a c : Int} : storePV (pst st x cs fa fc sz ts lo rc) 2 (.ptr (st.boxes.length + 3) 0) (.agg [.int .i64 a, .int .i64 c]) = some (pst st x cs a c sz ts lo rc) := by
  simp [storePV, pst, PV.cells, PV.inB, PV.inB.inBAll, setCells, hasTok, tokOf, leafOk]
theorem pst_sts {a : Int} : storePV (pst st x cs fa fc sz ts lo rc) 1 (.ptr (st.boxes.length + 4) 0) (.int .i64 a) = some (pst st x cs fa fc a ts lo rc) := by
  simp [storePV, pst, PV.cells, PV.inB, setCells, hasTok, tokOf, leafOk]
theorem pst_ldr : loadPV (pst st x cs fa fc sz ts lo rc) false 1 (.ptr (st.boxes.length + 2) 0) = some (.ptr (st.boxes.length + 1) 0) := by
  simp [loadPV, pst, readCells]
theorem pst_ldc : loadPV (pst st x cs fa fc sz ts lo rc) false 1 (.ptr (st.boxes.length + 3) 1) = some (.int .i64 fc) := by
  simp [loadPV, pst, readCells]
theorem pst_get : (pst st x cs fa fc sz ts lo rc).boxes[st.boxes.length + 1]? = some cs := by simp [pst]
theorem pst_step {S' : St} (h : RdStep st (pst st x cs fa fc sz ts lo rc) S' (st.boxes.length + 1)) : ∃ cs' ts', cs'.length = 5 ∧ S' = pst st x cs' fa fc sz ts' S'.low rc := by
  obtain ⟨⟨cs', h5, hbx⟩, hlp, htk, htl, _, _⟩ := h
  have htk2 : S'.toks.take st.toks.length = st.toks := by rw [htk]; simp [pst]
  refine ⟨cs', S'.toks.drop st.toks.length, h5, ?_⟩
  obtain ⟨bb, tt, ll, ww⟩ := S'
  simp only [pst, set_app, List.set_cons_succ, List.set_cons_zero] at hbx hlp htk2 ⊢
  rw [hbx, hlp]
  congr 1
  rw [← List.take_append_drop st.toks.length tt, htk2]
  simp

theorem eqn_b {t : Tok} {l : List UInt8} : binPV .eql .slice (.bys t l) .nils = some (.bool false) := rfl
theorem eqn_n : binPV .eql .slice .nils .nils = some (.bool true) := rfl
theorem len_bys {t : Tok} {l : List UInt8} : lenPV false (.bys t l) = some (.int .i64 (l.length : Int)) := rfl

structure PHold (st s : St) (d : PV) (p : PS) (lo : Nat) : Prop where
  ow : Own st s 2 d (p.done.map fV)
  ne : p.done = [] → d = .nils
  lt : d = .nils ∨ lo ≤ st.boxes.length + 1
  lg : st.boxes.length + 1 ≤ lo

set_option maxHeartbeats 1000000 in
theorem Parse_spec {l : List UInt8} (hx : x.by = some l) (hl : l.length ≤ 100000000) (hxt : x.tokLt st.toks.length = true) :
    call prog (.fn 150 []) [x] st = some (.tup [newSl st 2 ((parseOf l).1.map fV), .int .i64 ((parseOf l).2.1 : Int), flV (parseOf l).2.2], newS st ((parseOf l).1.map fV).isEmpty) := by
  refine call_of_W prog_150 ?_
  unfold F_fields_Parse; dsimp only
  obtain ⟨n, hn⟩ : ∃ n, n = st.boxes.length := ⟨_, rfl⟩
  have hb0 : buildCells [.nils, .str [], .str [], .int .i64 0, .bool false] [] = some [.nils, .str [], .str [], .int .i64 0, .bool false] := rfl
  have hst1 : ∀ {T : List Bool} {L : List LoopS} {lo : Nat}, storePV ⟨st.boxes ++ [[.int .i64 0, .int .i64 0], [.nils, .str [], .str [], .int .i64 0, .bool false], [.nilp]], T, L, lo⟩ 1 (.ptr (st.boxes.length + 2) 0) (.ptr (st.boxes.length + 1) 0) =
      some ⟨st.boxes ++ [[.int .i64 0, .int .i64 0], [.nils, .str [], .str [], .int .i64 0, .bool false], [.ptr (st.boxes.length + 1) 0]], T, L, lo⟩ := by
    intro T L lo
    simp [storePV, PV.cells, PV.inB, setCells, hasTok, tokOf, leafOk]
  have hst2 : ∀ {T : List Bool} {L : List LoopS} {lo : Nat}, storePV ⟨st.boxes ++ [[.int .i64 0, .int .i64 0], [.nils, .str [], .str [], .int .i64 0, .bool false], [.ptr (st.boxes.length + 1) 0], [.int .i64 0, .int .i64 0], [.int .i64 0]], T, L, lo⟩ 1 (.ptr (st.boxes.length + 4) 0) (.int .i64 0) =
      some ⟨st.boxes ++ [[.int .i64 0, .int .i64 0], [.nils, .str [], .str [], .int .i64 0, .bool false], [.ptr (st.boxes.length + 1) 0], [.int .i64 0, .int .i64 0], [.int .i64 0]], T, L, lo⟩ := by
    intro T L lo
    simp [storePV, PV.cells, PV.inB, setCells, hasTok, tokOf, leafOk]
  simp (maxSteps := 1000000) (disch := omega) only [W_scope, allocPV, qaaz, qabz, qajz, qalz, evOp, qapz, qarz, qatz, List.append_nil, qazz]
  refine W_scopeAt ?_
  have hin : ∀ m : Nat, PV.inB.inBAll m [PV.nils, .str [], .str [], .int .i64 0, .bool false] = true := fun m => rfl
  have hlf : List.all [PV.nils, .str [], .str [], .int .i64 0, .bool false] leafOk = true := rfl
  simp (maxSteps := 1000000) (disch := omega) only [allocPV, hb0, PV.inB, hin, hlf, PV.cells, and_self, List.append_assoc, List.length_append, List.length_cons, List.length_nil, Nat.zero_add, Nat.reduceAdd, hst1, hst2, flines_spec hx, qaaz, qabz, qadz, qafz, qajz, qalz, evOp, qaoz, qapz, qaqz, qarz, qatz, qauz, qavz,
 ↓reduceIte, Nat.reduceEqDiff, List.nil_append, List.cons_append, List.map_cons, List.map_nil, qawz, Option.map_some, qazz, reduceCtorEq]
  refine W_rangeFunc (fid := 171) (caps := [.ptr (st.boxes.length + 5) 0]) rfl prog_171 ?_
  generalize hrec : recOf _ _ _ _ = rec
  have hra := congrArg LoopS.assign hrec.symm
  have hrb := congrArg LoopS.body hrec.symm
  dsimp only [recOf] at hra hrb
  have r0 : rec.status = 0 := by rw [← hrec]; rfl
  have r1 : rec.pend = .normal := by rw [← hrec]; rfl
  have r2 : rec.params = [14, 15] := by rw [← hrec]; rfl
  have r3 : rec.env 5 = .ptr (st.boxes.length + 2) 0 := by rw [← hrec]; rfl
  have r4 : rec.env 6 = .ptr (st.boxes.length + 3) 0 := by rw [← hrec]; rfl
  have r6 : rec.env 7 = .ptr (st.boxes.length + 4) 0 := by rw [← hrec]; rfl
  have r5 : rec = { rec with status := 0, pend := .normal } := by rw [← hrec]; rfl
  obtain ⟨P, hP⟩ : ∃ P : List (Nat × List UInt8 × Bool) → St → Prop, P = fun r s => ∃ ts d p lo, s = pst st x (rdC d p) 0 0 0 ts lo rec ∧ PHold st s d p lo ∧ PInv l.length p ∧ (∀ q ∈ r, q.1 + q.2.1.length ≤ l.length) ∧ p.fld.2.length + sumL r ≤ l.length ∧ parseOf l = parseGo l.length r p := ⟨_, rfl⟩
  obtain ⟨D, hD⟩ : ∃ D : St → Prop, D = fun s => ∃ cs fa fc sz ts lo, s = pst st x cs fa fc sz ts lo { rec with status := 2, pend := .exit 0 } ∧ st.boxes.length + 1 ≤ lo ∧ ((fc ≠ 0 ∧ parseOf l = ([], 0, (fa, fc))) ∨ (fc = 0 ∧ fa = 0 ∧ ∃ d p sz', cs = rdC d p ∧ PHold st s d p lo ∧ sz = ((sz' : Nat) : Int) ∧ parseOf l = (p.done, sz', (0, 0)))) := ⟨_, rfl⟩
  obtain ⟨rec1, hrec1⟩ : ∃ r, r = ({ rec with status := 1 } : LoopS) := ⟨_, rfl⟩
  -- how a round ends with a fault, or at the end
  have out : ∀ (K : Bool → St → Prop), (∀ s, D s → K false s) → ∀ (cs : List PV) (fa fc sz : Int) (ts : List Bool) (lo : Nat) (e2 : Env), st.boxes.length + 1 ≤ lo →
      ((fc ≠ 0 ∧ parseOf l = ([], 0, (fa, fc))) ∨ (fc = 0 ∧ fa = 0 ∧ ∃ d p sz', cs = rdC d p ∧ PHold st (pst st x cs fa fc sz ts lo rec1) d p lo ∧ sz = ((sz' : Nat) : Int) ∧ parseOf l = (p.done, sz', (0, 0)))) →
      roundQ st.loops.length K (.exit 0) e2 (pst st x cs fa fc sz ts lo rec1) := by
    intro K hK cs fa fc sz ts lo e2 hlo hpo
    refine ⟨rec1, get_app0, ?_⟩
    have : decide (Ex.exit 0 = Ex.normal) = false := rfl
    rw [this]
    apply hK
    rw [hD]
    refine ⟨cs, fa, fc, sz, ts, lo, ?_, hlo, ?_⟩
    · simp only [pst, set_app0, hrec1]
      simp
    · rcases hpo with h | ⟨h1, h2, d, p, sz', h3, h4, h5, h6⟩
      · exact .inl h
      · exact .inr ⟨h1, h2, d, p, sz', h3, ⟨h4.ow.take (fun i _ => rfl), h4.ne, h4.lt, h4.lg⟩, h5, h6⟩
  have hasg : ∀ (a : Nat) (v : PV) (S : St), ex prog rec.assign (updAll rec.env rec.params [.int .i64 (a : Int), v]) S = some (.normal, upd (upd (upd (upd rec.env 14 (.int .i64 (a : Int))) 15 v) 8 (.int .i64 (a : Int))) 9 v, S) := fun a v S => by
    refine ex_of_W ?_
    simp (maxSteps := 1000000) (disch := omega) only [hra, r2, updAll, qaaz, qabz, qajz, qalz, evOp, qaoz, qarz, qatz, qavz,
 ↓reduceIte, Nat.reduceEqDiff, qazz, true_and, and_true]
  obtain ⟨s1, hs1, hcall⟩ := flines_iter (st := ⟨st.boxes ++ [[.int .i64 0, .int .i64 0], [.nils, .str [], .str [], .int .i64 0, .bool false], [.ptr (st.boxes.length + 1) 0], [.int .i64 0, .int .i64 0], [.int .i64 0], [x]], st.toks, st.loops ++ [rec], min st.boxes.length (st.boxes.length + 5)⟩) hx hl (b := st.boxes.length + 5) (k := st.loops.length) (N := st.toks.length) hxt (P := P) (D := D)
    (fun r s h => by rw [hP] at h; obtain ⟨ts, d, p, lo, rfl, _⟩ := h; exact get_app)
    (fun r s h => by
      rw [hP] at h ⊢; obtain ⟨ts, d, p, lo, rfl, h2, h3⟩ := h
      exact ⟨ts ++ [true], d, p, lo, by simp [St.tok1, pst], ⟨h2.ow.tok1, h2.ne, h2.lt, h2.lg⟩, h3⟩)
    (fun r s a h hr => by
      rw [hP] at h
      obtain ⟨ts, d, p, lo, rfl, h2, h3, h4, h5, h6⟩ := h
      have hpo : parseOf l = ([], 0, ((a : Int), 42)) := by
        rw [h6]
        rcases hr with ⟨rfl, rfl⟩ | ⟨m, rfl⟩ <;> rfl
      refine yld_of_W (r := rec) (K := fun _ s' => D s') (args := [.int .i64 (a : Int), .nils]) get_app0 r0 (by rw [r2]; rfl) (hasg a .nils _) ?_
      have hset : ({ pst st x (rdC d p) 0 0 0 ts lo rec with loops := (pst st x (rdC d p) 0 0 0 ts lo rec).loops.set st.loops.length { rec with status := 1 } } : St) = pst st x (rdC d p) 0 0 0 ts lo rec1 := by
        simp only [pst, set_app0, hrec1]
      rw [hset, hrb]
      simp (maxSteps := 1000000) (disch := omega) only [r4, eqn_n, build2 Leaf_int Leaf_int, pst_stf, faP, Nat.zero_add, pst_ldc, qaaz, qabz, qacz, qadz, qagz, qajz, qalz, evOp, qaoz, qapz, qarz, qatz, qauz, qavz,
 ↓reduceIte, Nat.reduceEqDiff, List.map_cons, List.map_nil, Option.map_some, qazz, qbdz, qbfz, qbhz, qbuz, decide_true, reduceCtorEq, ne_eq, Int.reduceEq, not_false_eq_true]
      exact out _ (fun s h => h) _ _ _ _ _ _ _ h2.lg (.inl ⟨by decide, hpo⟩))
    (fun q r s v h hw hv hvt => by
      rw [hP] at h
      obtain ⟨ts, d, p, lo, rfl, h2, h3, h4, h5, h6⟩ := h
      obtain ⟨K, hK⟩ : ∃ K : Bool → St → Prop, K = fun b s' => (b = true ∧ P r s') ∨ (b = false ∧ D s') := ⟨_, rfl⟩
      have hKD : ∀ s, D s → K false s := fun s h => by rw [hK]; exact .inr ⟨rfl, h⟩
      have hmain : ∃ b s', call prog (.yld st.loops.length) [.int .i64 (q.1 : Int), v] (pst st x (rdC d p) 0 0 0 ts lo rec) = some (.bool b, s') ∧ K b s' := by
        refine yld_of_W (r := rec) (args := [.int .i64 (q.1 : Int), v]) get_app0 r0 (by rw [r2]; rfl) (hasg q.1 v _) ?_
        have hset : ({ pst st x (rdC d p) 0 0 0 ts lo rec with loops := (pst st x (rdC d p) 0 0 0 ts lo rec).loops.set st.loops.length { rec with status := 1 } } : St) = pst st x (rdC d p) 0 0 0 ts lo rec1 := by
          simp only [pst, set_app0, hrec1]
        rw [hset, hrb]
        have hq4 := h4 q (by simp)
        have hfull : full q = q.2.1 ++ [13, 10] := by simp [full, hw]
        rw [hfull] at hv
        obtain ⟨t, rfl⟩ : ∃ t, v = .bys t (q.2.1 ++ [13, 10]) := by
          rcases by_cases' hv with ⟨_, h⟩ | h
          · exact absurd h (by simp)
          · exact h
        have hln : (q.2.1 ++ [13, 10]).length = q.2.1.length + 2 := by simp
        have hsum : p.fld.2.length + q.2.1.length + sumL r ≤ l.length := by
          simp only [sumL, List.map_cons, List.sum_cons] at h5 ⊢; omega
        have hst0 : st.toks.length ≤ (pst st x (rdC d p) 0 0 0 ts lo rec1).toks.length := by simp [pst]
        have hstT : (pst st x (rdC d p) 0 0 0 ts lo rec1).toks.take st.toks.length = st.toks := by simp [pst]
        have hRd : RdOK st (pst st x (rdC d p) 0 0 0 ts lo rec1) (st.boxes.length + 1) d p := ⟨pst_get, h2.ow.take (fun i _ => rfl), h2.ne⟩
        have hdl : p.done.length ≤ 100000000 := by have := h3.ln; omega
        -- what a reader's call leaves
        have held : ∀ {S' : St} {d' : PV} {p' : PS}, RdStep st (pst st x (rdC d p) 0 0 0 ts lo rec1) S' (st.boxes.length + 1) → RdOK st S' (st.boxes.length + 1) d' p' → (d' = d ∨ S'.low ≤ st.boxes.length + 1) → PHold st S' d' p' S'.low := by
          intro S' d' p' k1 k2 k3
          have q1 := k1.lw; have q2 := k1.lu
          have q3 := h2.lg
          simp only [pst] at q1 q2
          refine ⟨k2.ow, k2.ne, ?_, by omega⟩
          rcases k3 with k3 | k3
          · rw [k3]
            rcases h2.lt with h | h
            · exact .inl h
            · exact .inr (by omega)
          · exact .inr k3
        by_cases c1 : q.2.1 = []
        · -- the end
          have e1 : ((q.2.1 ++ [13, 10]).length : Int) = 2 := by rw [c1]; rfl
          obtain ⟨S', k1, k2, k3⟩ := shut_spec hRd hst0 hstT (by omega) hdl
          obtain ⟨cs', ts', hc5, hS'⟩ := pst_step k2
          have hl2 : st.boxes.length + 1 ≤ S'.low := by have q1 := k2.lw; have q3 := h2.lg; simp only [pst] at q1; omega
          obtain ⟨lo', hlo'⟩ : ∃ lo', lo' = S'.low := ⟨_, rfl⟩
          rw [← hlo'] at hS' hl2
          have hgo : parseOf l = (match shutP p with | none => ([], 0, ((p.pos : Int), 50)) | some p' => (p'.done, q.1 + 2, (0, 0))) := by
            rw [h6, parseGo, if_neg (by rw [hw]; simp), if_pos c1]
            cases shutP p <;> rfl
          cases hsh : shutP p with
          | none =>
            have hsf : shutF p = ((p.pos : Int), 50) := by simp [shutF, hsh]
            rw [hsf, hS'] at k1
            rw [hsh] at hgo
            simp (maxSteps := 1000000) (disch := omega) only [r3, r4, r6, eqn_b, len_bys, e1, pst_ldr, k1, flV, pst_stf, add_n, pst_sts, qaaz, qabz, qacz, qadz, qagz, qajz, qalz, evOp, qaoz, qapz, qaqz, qarz, qatz, qauz, qavz,
 ↓reduceIte, Nat.reduceEqDiff, List.map_cons, List.map_nil, Option.map_some, qazz, qbbz, qbfz, qbhz, qbtz, decide_true, Bool.false_eq_true, Int.reduceToNat, reduceCtorEq]
            exact out K hKD _ _ _ _ _ _ _ hl2 (.inl ⟨by decide, hgo⟩)
          | some p' =>
            obtain ⟨d', hOK, hdd⟩ := k3 p' hsh
            have hsf : shutF p = (0, 0) := by simp [shutF, hsh]
            have hH := held k2 hOK hdd
            have hcs : cs' = rdC d' p' := by
              have := hOK.bx
              rw [hS', pst_get] at this
              exact Option.some.inj this
            rw [hsf, hS'] at k1
            rw [hsh] at hgo
            simp (maxSteps := 1000000) (disch := omega) only [r3, r4, r6, eqn_b, len_bys, e1, pst_ldr, k1, flV, pst_stf, add_n, pst_sts, Int.reduceToNat, qaaz, qabz, qacz, qadz, qagz, qajz, qalz, evOp, qaoz, qapz, qaqz, qarz, qatz, qauz, qavz,
 ↓reduceIte, Nat.reduceEqDiff, List.map_cons, List.map_nil, Option.map_some, qazz, qbbz, qbfz, qbhz, qbtz, decide_true, Bool.false_eq_true, Int.reduceToNat, reduceCtorEq]
            exact out K hKD _ _ _ _ _ _ _ hl2 (.inr ⟨rfl, rfl, d', p', q.1 + 2, hcs, ⟨hH.ow.take (fun i _ => by rw [hS']; rfl), hH.ne, by rw [hlo']; exact hH.lt, hl2⟩, rfl, hgo⟩)
        · have hpos := List.length_pos_iff.2 c1
          have e1 : ¬ ((q.2.1 ++ [13, 10]).length : Int) = 2 := by rw [hln]; omega
          by_cases c2 : 998 < q.2.1.length
          · have e2 : (1000 : Int) < ((q.2.1 ++ [13, 10]).length : Int) := by rw [hln]; omega
            have hgo : parseOf l = ([], 0, ((q.1 : Int), 40)) := by
              rw [h6, parseGo, if_neg (by rw [hw]; simp), if_neg c1, if_pos c2]
            simp (maxSteps := 1000000) (disch := omega) only [r4, eqn_b, len_bys, e1, e2, build2 Leaf_int Leaf_int, pst_stf, faP, Nat.zero_add, pst_ldc, qaaz, qabz, qacz, qadz, qagz, qajz, qalz, evOp, qaoz, qapz, qarz, qatz, qauz, qavz,
 ↓reduceIte, Nat.reduceEqDiff, List.map_cons, List.map_nil, Option.map_some, qazz, qbdz, qbfz, qbhz, qbrz, qbtz, qbuz, decide_true, decide_false,
 Bool.false_eq_true, reduceCtorEq, ne_eq, Int.reduceEq, not_false_eq_true]
            exact out K hKD _ _ _ _ _ _ _ h2.lg (.inl ⟨by decide, hgo⟩)
          · have e2 : ¬ (1000 : Int) < ((q.2.1 ++ [13, 10]).length : Int) := by rw [hln]; omega
            obtain ⟨S', k1, k2, k3⟩ := pline_spec (a := q.1) hRd hst0 hstT (by omega) hdl c1 (by omega)
            obtain ⟨cs', ts', hc5, hS'⟩ := pst_step k2
            have hl2 : st.boxes.length + 1 ≤ S'.low := by have q1 := k2.lw; have q3 := h2.lg; simp only [pst] at q1; omega
            obtain ⟨lo', hlo'⟩ : ∃ lo', lo' = S'.low := ⟨_, rfl⟩
            rw [← hlo'] at hS' hl2
            have hgo : parseOf l = (match lineP p q.1 q.2.1 with | .error a => ([], 0, ((a : Int), 50)) | .ok p' => parseGo l.length r p') := by
              rw [h6, parseGo, if_neg (by rw [hw]; simp), if_neg c1, if_neg c2]
              cases lineP p q.1 q.2.1 <;> rfl
            have hsl : slcPV 1 (.bys t (q.2.1 ++ [13, 10])) none (some (.int .i64 (((q.2.1 ++ [13, 10]).length - 2 : Nat) : Int))) none = some (.bys .no q.2.1) := by
              rw [slc_hi qcgz (by omega) (by simp)]
              simp [PV.takeB]
            cases hli : lineP p q.1 q.2.1 with
            | error a =>
              have hlf : lineF p q.1 q.2.1 = ((a : Int), 50) := by simp [lineF, hli]
              rw [hlf, hS'] at k1
              rw [hli] at hgo
              simp (maxSteps := 1000000) (disch := omega) only [r3, r4, eqn_b, len_bys, e1, e2, pst_ldr, sub_n, Int.reduceToNat, hsl, b2s_by qcgz, k1, flV, pst_stf, faP, Nat.zero_add, pst_ldc, qaaz, qabz, qacz, qadz, qagz, qajz, qalz, evOp, qaoz, qapz, qaqz, qarz, qatz, qauz, qavz,
 ↓reduceIte, Nat.reduceEqDiff, List.map_cons, List.map_nil, Option.map_some, Option.map_none, qazz, qbdz, qbfz, qbhz, qbrz, qbtz, qbuz, decide_true, decide_false,
 Bool.false_eq_true, Int.reduceToNat, reduceCtorEq, ne_eq, Int.reduceEq, not_false_eq_true]
              exact out K hKD _ _ _ _ _ _ _ hl2 (.inl ⟨by decide, hgo⟩)
            | ok p' =>
              obtain ⟨d', hOK, hdd⟩ := k3 p' hli
              have hlf : lineF p q.1 q.2.1 = (0, 0) := by simp [lineF, hli]
              have hH := held k2 hOK hdd
              have hcs : cs' = rdC d' p' := by
                have := hOK.bx
                rw [hS', pst_get] at this
                exact Option.some.inj this
              rw [hlf, hS'] at k1
              rw [hli] at hgo
              simp (maxSteps := 1000000) (disch := omega) only [r3, r4, eqn_b, len_bys, e1, e2, pst_ldr, sub_n, Int.reduceToNat, hsl, b2s_by qcgz, k1, flV, pst_stf, faP, Nat.zero_add, pst_ldc, qaaz, qabz, qacz, qadz, qaez, qajz, qalz, evOp, qaoz, qapz, qaqz, qarz, qatz, qauz, qavz,
 ↓reduceIte, Nat.reduceEqDiff, List.map_cons, List.map_nil, Option.map_some, Option.map_none, qazz, qbdz, qbhz, qbrz, qbtz, qbuz, decide_false,
 Bool.false_eq_true, Int.reduceToNat, ne_eq, not_true_eq_false]
              refine ⟨rec1, get_app0, ?_⟩
              rw [hK]
              left
              refine ⟨rfl, ?_⟩
              rw [hP]
              have hq5 := lineP_len hli
              refine ⟨ts', d', p', lo', ?_, ⟨hH.ow.take (fun i _ => by rw [hS']), hH.ne, by rw [hlo']; exact hH.lt, hl2⟩, lineP_inv h3 (by omega) hli, fun q' hq' => h4 q' (by simp [hq']), by omega, hgo⟩
              simp only [pst, set_app0, if_true, hcs, hrec1]
              congr 2
              rw [r5]
      obtain ⟨b, s', c1, c2⟩ := hmain
      rw [hK] at c2
      rcases c2 with ⟨rfl, c2⟩ | ⟨rfl, c2⟩
      · exact .inl ⟨s', c1, c2⟩
      · exact .inr ⟨s', c1, c2⟩)
    (by
      rw [hP]
      exact ⟨[], .nils, ps0, st.boxes.length + 6, by simp [pst, rdC, ps0], ⟨.inl ⟨rfl, rfl⟩, fun _ => rfl, .inl rfl, by omega⟩, ⟨rfl, by simp [ps0], fun h => (by cases h), by simp [ps0]⟩, refLines_le, by have := refLines_sum (l := l); simp [ps0]; omega, rfl⟩)
  rw [hD] at hs1
  obtain ⟨cs, fa, fc, sz, ts, lo, rfl, hlo, hpo⟩ := hs1
  have hmin : min st.boxes.length (st.boxes.length + 5) = st.boxes.length := by omega
  rw [hmin] at hcall ⊢
  -- behind the iterator
  have hleave : ∃ ts2, leave ⟨st.boxes ++ [[.int .i64 0, .int .i64 0], [.nils, .str [], .str [], .int .i64 0, .bool false], [.ptr (st.boxes.length + 1) 0], [.int .i64 0, .int .i64 0], [.int .i64 0], [x]], st.toks, st.loops ++ [rec], st.boxes.length⟩ (pst st x cs fa fc sz ts lo { rec with status := 2, pend := .exit 0 }) (.tup []) =
      (.tup [], pst st x cs fa fc sz ts2 st.boxes.length { rec with status := 2, pend := .exit 0 }) ∧ (ts2 = ts ∨ (ts2 = [] ∧ st.boxes.length + 6 ≤ lo)) := by
    by_cases h6 : st.boxes.length + 6 ≤ lo
    · refine ⟨[], ?_, .inr ⟨rfl, h6⟩⟩
      simp [leave, pst, PV.inB, PV.inB.inBAll, keepRes, keepVals, h6]
      exact List.take_of_length_le (by simp)
    · refine ⟨ts, ?_, .inl rfl⟩
      have hm : min st.boxes.length lo = st.boxes.length := by omega
      simp [leave, pst, PV.inB, PV.inB.inBAll, h6, hm]
      exact List.take_of_length_le (by simp)
  obtain ⟨ts2, hleave, hts2⟩ := hleave
  rw [hleave] at hcall
  refine ⟨_, _, { rec with status := 2, pend := .exit 0 }, hcall, get_app0, (by show (2 : Nat) ≠ 1; decide), ?_⟩
  have hlp : ({ pst st x cs fa fc sz ts2 st.boxes.length { rec with status := 2, pend := .exit 0 } with loops := (pst st x cs fa fc sz ts2 st.boxes.length { rec with status := 2, pend := .exit 0 }).loops.take st.loops.length } : St) =
      ⟨st.boxes ++ [[.int .i64 0, .int .i64 0], cs, [.ptr (st.boxes.length + 1) 0], [.int .i64 fa, .int .i64 fc], [.int .i64 sz], [x]], st.toks ++ ts2, st.loops, st.boxes.length⟩ := by simp [pst]
  rw [hlp]
  have l1 : loadPV ⟨st.boxes ++ [[.int .i64 0, .int .i64 0], cs, [.ptr (st.boxes.length + 1) 0], [.int .i64 fa, .int .i64 fc], [.int .i64 sz], [x]], st.toks ++ ts2, st.loops, st.boxes.length⟩ false 1 (.ptr (st.boxes.length + 3) 1) = some (.int .i64 fc) := by simp [loadPV, readCells]
  have l2 : loadPV ⟨st.boxes ++ [[.int .i64 0, .int .i64 0], cs, [.ptr (st.boxes.length + 1) 0], [.int .i64 fa, .int .i64 fc], [.int .i64 sz], [x]], st.toks ++ ts2, st.loops, st.boxes.length⟩ true 2 (.ptr (st.boxes.length + 3) 0) = some (.agg [.int .i64 fa, .int .i64 fc]) := by simp [loadPV, readCells]
  have l3 : loadPV ⟨st.boxes ++ [[.int .i64 0, .int .i64 0], cs, [.ptr (st.boxes.length + 1) 0], [.int .i64 fa, .int .i64 fc], [.int .i64 sz], [x]], st.toks ++ ts2, st.loops, st.boxes.length⟩ false 1 (.ptr (st.boxes.length + 2) 0) = some (.ptr (st.boxes.length + 1) 0) := by simp [loadPV, readCells]
  have l4 : loadPV ⟨st.boxes ++ [[.int .i64 0, .int .i64 0], cs, [.ptr (st.boxes.length + 1) 0], [.int .i64 fa, .int .i64 fc], [.int .i64 sz], [x]], st.toks ++ ts2, st.loops, st.boxes.length⟩ false 1 (.ptr (st.boxes.length + 4) 0) = some (.int .i64 sz) := by simp [loadPV, readCells]
  have l5 : storePV ⟨st.boxes ++ [[.int .i64 0, .int .i64 0], cs, [.ptr (st.boxes.length + 1) 0], [.int .i64 fa, .int .i64 fc], [.int .i64 sz], [x]], st.toks ++ ts2, st.loops, st.boxes.length⟩ 2 (.ptr st.boxes.length 0) (.agg [.int .i64 fa, .int .i64 fc]) =
      some ⟨st.boxes ++ [[.int .i64 fa, .int .i64 fc], cs, [.ptr (st.boxes.length + 1) 0], [.int .i64 fa, .int .i64 fc], [.int .i64 sz], [x]], st.toks ++ ts2, st.loops, st.boxes.length⟩ := by
    simp [storePV, PV.cells, PV.inB, PV.inB.inBAll, setCells, hasTok, tokOf, leafOk]
  have hcell : ∀ {E : Env}, E 4 = .ptr st.boxes.length 0 → rv1 E ⟨st.boxes ++ [[.int .i64 fa, .int .i64 fc], cs, [.ptr (st.boxes.length + 1) 0], [.int .i64 fa, .int .i64 fc], [.int .i64 sz], [x]], st.toks ++ ts2, st.loops, st.boxes.length⟩ (.cell 4 true 2) = some (flV (fa, fc)) := by
    intro E h
    simp [rv1, h, loadPV, readCells, flV]
  rcases hpo with ⟨hfc, hpo⟩ | ⟨rfl, rfl, d, p, sz', rfl, hH, rfl, hpo⟩
  · simp (maxSteps := 1000000) (disch := omega) only [l1, l2, l5, faP, Nat.zero_add, hfc, qaaz, qabz, qacz, qaiz, qajz, qalz, evOp, qaoz, qapz, qarz, qatz, qauz, qavz,
 ↓reduceIte, Nat.reduceEqDiff, Option.map_some, qazz, qbaz, qbfz, qbhz, qblz, qbuz, decide_true, ne_eq, not_false_eq_true]
    refine ⟨.tup [.nils, .int .i64 0, flV (fa, fc)], ?_, ?_⟩
    · simp only [resOf, rvAll]
      rw [hcell rfl]
      rfl
    · rw [hpo]
      simp [leave, PV.inB, PV.inB.inBAll, keepRes, keepVals, keepVal, keepLeaf, keepCells, flV, newSl, newS]
  · have l6 : loadPV ⟨st.boxes ++ [[.int .i64 0, .int .i64 0], rdC d p, [.ptr (st.boxes.length + 1) 0], [.int .i64 0, .int .i64 0], [.int .i64 (sz' : Int)], [x]], st.toks ++ ts2, st.loops, st.boxes.length⟩ false 1 (.ptr (st.boxes.length + 1) 0) = some d := by simp [loadPV, readCells, rdC]
    simp (maxSteps := 1000000) (disch := omega) only [l1, l2, l3, l4, l5, l6, faP, Nat.zero_add, Nat.add_zero, qaaz, qabz, qacz, qaez, qaiz, qajz, qalz, evOp, qaoz, qapz, qarz, qatz, qauz, qavz,
 ↓reduceIte, Nat.reduceEqDiff, Option.map_some, qazz, qbfz, qbhz, qblz, qbuz, decide_false,
 Bool.false_eq_true, qckz, ne_eq, not_true_eq_false]
    have hnt : notTup d = true := by rcases hH.ow with ⟨rfl, _⟩ | ⟨i, rfl, _⟩ <;> rfl
    refine ⟨.tup [d, .int .i64 (sz' : Int), flV (0, 0)], ?_, ?_⟩
    · simp only [resOf, rvAll]
      rw [hcell rfl]
      rcases hH.ow with ⟨hdd, _⟩ | ⟨i, hdd, _⟩ <;> simp [rv1, qavz, hdd, notTup, packRes, flV]
    · rw [hpo]
      rcases hH.ow with ⟨rfl, hxs⟩ | ⟨i, rfl, hi1, hi2⟩
      · have hd0 : p.done = [] := by simpa using hxs
        simp [leave, PV.inB, PV.inB.inBAll, keepRes, keepVals, keepVal, keepLeaf, keepCells, flV, newSl, newS, hd0]
      · have hne : p.done ≠ [] := fun h => by have := hH.ne h; cases this
        have hts : ts2 = ts := by
          rcases hts2 with h | ⟨_, h⟩
          · exact h
          · rcases hH.lt with h2 | h2
            · cases h2
            · omega
        subst hts
        have hi3 : (st.toks ++ ts2)[i]? = some true := hi2
        simp [leave, PV.inB, PV.inB.inBAll, keepRes, keepVals, keepVal, keepLeaf, keepCells, keepTok, flV, newSl, newS, hne, hi3, show ¬ i < st.toks.length by omega, St.tok1]
end Go.Ab
/-
  A mail is split; the values of a name.
-/
namespace Go.Ab
set_option maxRecDepth 20000
variable {st s : St} {e : Env}

def Gr (st s : St) : Prop := ∃ ts, s = ⟨st.boxes, st.toks ++ ts, st.loops, st.low⟩
theorem Gr.refl : Gr st st := ⟨[], by simp⟩
theorem Gr.trans {u : St} (h : Gr st s) (h2 : Gr s u) : Gr st u := by
  obtain ⟨a, rfl⟩ := h
  obtain ⟨b, rfl⟩ := h2
  exact ⟨a ++ b, by simp⟩
theorem Gr.tl (h : Gr st s) : st.toks.length ≤ s.toks.length := by obtain ⟨a, rfl⟩ := h; simp
theorem Gr.bx (h : Gr st s) : s.boxes = st.boxes := by obtain ⟨a, rfl⟩ := h; rfl
theorem Gr.kp {u : St} (h : Gr s u) (hk : Kept st s) : Kept st u := by obtain ⟨a, rfl⟩ := h; exact hk.toks
theorem Gr.at {u : St} {b : Nat} {cs : List PV} (h : Gr s u) (hA : At s b cs) : At u b cs := hA.bx h.bx
theorem Gr.newS {b : Bool} : Gr st (newS st b) := by cases b; exact ⟨[true], rfl⟩; exact Gr.refl
theorem Gr.tok1 : Gr st st.tok1 := ⟨[true], rfl⟩

theorem leave_any {S : St} {v : PV} (hk : Kept st S) (hv : v.inB st.boxes.length = true) :
    leave st S v = ((keepRes st.toks.length S.toks v).1, ⟨st.boxes, st.toks ++ List.replicate (keepRes st.toks.length S.toks v).2.length true, st.loops, st.low⟩) := by
  have e1 := hk.bx; have e2 := hk.lp; have e3 := hk.tk
  simp [Ab.leave, hv, hk.lw, e1, e2, e3]
theorem keepTok_ltY {n : Nat} {T : List Bool} {acc : List Nat} {t : Tok} : (keepTok n T acc t).1.lt (n + (keepTok n T acc t).2.length) = true := by
  unfold keepTok; split
  · split
    · simp [Tok.lt]; omega
    · split <;> simp [Tok.lt]
  · rename_i h; cases t <;> simp_all [Tok.lt]
theorem keepLeaf_vs {n esz : Nat} {T : List Bool} {acc : List Nat} {v : PV} {xs : List PV} (h : v.vs esz = some xs) : (keepLeaf n T acc v).1.vs esz = some xs := by
  rcases vs_cases h with ⟨rfl, rfl⟩ | ⟨t, rfl⟩ <;> simp [keepLeaf, PV.vs]
theorem keepLeaf_by {n : Nat} {T : List Bool} {acc : List Nat} {v : PV} {l : Bs} (h : v.by = some l) : (keepLeaf n T acc v).1.by = some l := by
  rcases by_cases' h with ⟨rfl, rfl⟩ | ⟨t, rfl⟩ <;> simp [keepLeaf, PV.by]
theorem keepLeaf_lt {n : Nat} {T : List Bool} {acc : List Nat} {v : PV} {l : Bs} (h : v.by = some l) : (keepLeaf n T acc v).1.tokLt (n + (keepLeaf n T acc v).2.length) = true := by
  rcases by_cases' h with ⟨rfl, rfl⟩ | ⟨t, rfl⟩
  · rfl
  · simp only [keepLeaf, PV.tokLt]; exact keepTok_ltY
theorem vs_inB {n esz : Nat} {v : PV} {xs : List PV} (h : v.vs esz = some xs) : v.inB n = true ∧ notTup v = true ∧ leafOk v = true ∧ v.cells = [v] ∧ ∀ T acc m, keepVal m T acc v = keepLeaf m T acc v := by
  rcases vs_cases h with ⟨rfl, rfl⟩ | ⟨t, rfl⟩ <;> exact ⟨rfl, rfl, rfl, rfl, fun _ _ _ => rfl⟩
theorem by_inY {n : Nat} {v : PV} {l : Bs} (h : v.by = some l) : v.inB n = true ∧ notTup v = true ∧ leafOk v = true ∧ v.cells = [v] ∧ ∀ T acc m, keepVal m T acc v = keepLeaf m T acc v := by
  rcases by_cases' h with ⟨rfl, rfl⟩ | ⟨t, rfl⟩ <;> exact ⟨rfl, rfl, rfl, rfl, fun _ _ _ => rfl⟩
theorem keepInt {n : Nat} {T : List Bool} {acc : List Nat} {k : IntKind} {c : Int} : keepVal n T acc (.int k c) = (.int k c, acc) := rfl

def byR (st : St) (l : Bs) (c : Int) (r : PV × St) : Prop := Gr st r.2 ∧ ∃ w, r.1 = .tup [w, .int .i64 c] ∧ w.by = some l ∧ w.tokLt r.2.toks.length = true
theorem ret_by {S : St} {v : PV} {l : Bs} {c d : Int} {t1 t2 : Nat} (hk : Kept st S) (h1 : e t1 = v) (h2 : e t2 = .int .i64 c) (hv : v.by = some l) (hc : c = d) : ∃ rv, resOf e S [.tmp t1, .tmp t2] = some rv ∧ byR st l d (leave st S rv) := by
  subst hc
  obtain ⟨q1, q2, -, -, q3⟩ := by_inY (n := st.boxes.length) hv
  refine ⟨.tup [v, .int .i64 c], by simp [resOf, rvAll, rv1, h1, h2, q2, show notTup (.int .i64 c) = true from rfl, packRes], ?_⟩
  rw [leave_any hk (by simp [PV.inB, PV.inB.inBAll, q1])]
  refine ⟨⟨_, rfl⟩, (keepLeaf st.toks.length S.toks [] v).1, ?_, keepLeaf_by hv, ?_⟩
  · simp [keepRes, keepVals, q3, keepInt]
  · simp only [keepRes, keepVals, q3, keepInt, List.length_append, List.length_replicate]
    exact keepLeaf_lt hv
def vs1R (st : St) (esz : Nat) (xs : List PV) (r : PV × St) : Prop := Gr st r.2 ∧ r.1.vs esz = some xs
theorem ret_vs1 {S : St} {v : PV} {esz : Nat} {xs : List PV} {t1 : Nat} (hk : Kept st S) (h1 : e t1 = v) (hv : v.vs esz = some xs) : ∃ rv, resOf e S [.tmp t1] = some rv ∧ vs1R st esz xs (leave st S rv) := by
  obtain ⟨q1, q2, -, -, q3⟩ := vs_inB (n := st.boxes.length) hv
  refine ⟨v, by simp [resOf, rvAll, rv1, h1, q2, packRes], ?_⟩
  rw [leave_any hk q1]
  have hkr : keepRes st.toks.length S.toks v = keepLeaf st.toks.length S.toks [] v := by
    rcases vs_cases hv with ⟨rfl, rfl⟩ | ⟨t, rfl⟩ <;> rfl
  rw [hkr]
  exact ⟨⟨_, rfl⟩, keepLeaf_vs hv⟩
def spR (st : St) (esz : Nat) (xs : List PV) (l : Bs) (c : Int) (r : PV × St) : Prop := Gr st r.2 ∧ ∃ v w, r.1 = .tup [v, w, .int .i64 c] ∧ v.vs esz = some xs ∧ (xs = [] → v = .nils) ∧ w.by = some l ∧ w.tokLt r.2.toks.length = true
theorem ret_sp {S : St} {v w : PV} {esz : Nat} {xs : List PV} {l : Bs} {c d : Int} {t1 t2 t3 : Nat} (hk : Kept st S) (h1 : e t1 = v) (h2 : e t2 = w) (h3 : e t3 = .int .i64 c) (hv : v.vs esz = some xs) (hvn : xs = [] → v = .nils) (hw : w.by = some l) (hc : c = d) : ∃ rv, resOf e S [.tmp t1, .tmp t2, .tmp t3] = some rv ∧ spR st esz xs l d (leave st S rv) := by
  subst hc
  obtain ⟨q1, q2, -, -, q3⟩ := vs_inB (n := st.boxes.length) hv
  obtain ⟨p1, p2, -, -, p3⟩ := by_inY (n := st.boxes.length) hw
  refine ⟨.tup [v, w, .int .i64 c], by simp [resOf, rvAll, rv1, h1, h2, h3, q2, p2, show notTup (.int .i64 c) = true from rfl, packRes], ?_⟩
  rw [leave_any hk (by simp [PV.inB, PV.inB.inBAll, q1, p1])]
  refine ⟨⟨_, rfl⟩, (keepLeaf st.toks.length S.toks [] v).1, (keepLeaf st.toks.length S.toks (keepLeaf st.toks.length S.toks [] v).2 w).1, ?_, keepLeaf_vs hv, fun h => by rw [hvn h]; rfl, keepLeaf_by hw, ?_⟩
  · simp [keepRes, keepVals, q3, p3, keepInt]
  · simp only [keepRes, keepVals, q3, p3, keepInt, List.length_append, List.length_replicate]
    exact keepLeaf_lt hw

theorem place_end : ∀ (n : Nat) (l acc : Bs) (a : Nat), l.length ≤ n → ∀ q ∈ place a (segs l acc), q.2.2 = true → q.1 + q.2.1.length + 2 ≤ a + acc.length + l.length := by
  intro n
  induction n with
  | zero =>
    intro l acc a hl q hq hw
    obtain rfl : l = [] := by cases l with | nil => rfl | cons c r => simp at hl
    simp only [segs] at hq
    split at hq
    · simp [place] at hq
    · simp only [place, List.mem_singleton] at hq; subst hq; cases hw
  | succ n ih =>
    intro l acc a hl q hq hw
    match l, hl, hq with
    | [], hl, hq =>
      simp only [segs] at hq
      split at hq
      · simp [place] at hq
      · simp only [place, List.mem_singleton] at hq; subst hq; cases hw
    | [c], hl, hq => simp only [segs, place, List.mem_singleton] at hq; subst hq; cases hw
    | c :: d :: r, hl, hq =>
      simp only [segs] at hq
      simp only [List.length_cons] at hl ⊢
      split at hq
      · simp only [place, List.mem_cons] at hq
        rcases hq with rfl | hq
        · simp only; omega
        · have := ih r [] _ (by omega) q hq hw
          simp only [List.length_nil] at this; omega
      · have := ih (d :: r) (acc ++ [c]) a (by simp; omega) q hq hw
        simp only [List.length_append, List.length_cons, List.length_nil] at this
        omega
theorem parseGo_end {n : Nat} : ∀ (r : List (Nat × Bs × Bool)) (p : PS), (∀ q ∈ r, q.2.2 = true → q.1 + q.2.1.length + 2 ≤ n) → (parseGo n r p).2.2.2 = 0 → (parseGo n r p).2.1 ≤ n := by
  intro r
  induction r with
  | nil => intro p _ h; simp [parseGo]
  | cons q r ih =>
    intro p hq h
    simp only [parseGo] at h ⊢
    split
    · simp
    · rename_i h1
      rw [if_neg h1] at h
      split
      · rename_i h2
        rw [if_pos h2] at h
        cases hs : shutP p with
        | none => rw [hs] at h; simp
        | some p' =>
          have := hq q (by simp) (by simpa using h1)
          rw [h2] at this
          simpa using this
      · rename_i h2
        rw [if_neg h2] at h
        split
        · simp
        · rename_i h3
          rw [if_neg h3] at h
          cases hL : lineP p q.1 q.2.1 with
          | error a => simp
          | ok p' =>
            rw [hL] at h
            exact ih p' (fun q hq' => hq q (List.mem_cons_of_mem _ hq')) h
theorem parse_end {l : Bs} (h : (parseOf l).2.2.2 = 0) : (parseOf l).2.1 ≤ l.length := by
  refine parseGo_end _ _ (fun q hq hw => ?_) h
  have := place_end l.length l [] 0 (Nat.le_refl _) q hq hw
  simpa using this

def okS (l : Bs) : Bool := decide ((parseOf l).2.2.2 = 0)
def fldS (l : Bs) : List Fld := (parseOf l).1
def bodS (l : Bs) : Bs := if okS l = true then l.drop (parseOf l).2.1 else []
def errS (l : Bs) : Int := if okS l = true then 0 else 50

set_option maxHeartbeats 4000000 in
theorem tsplit_spec {x : PV} {l : Bs} (hx : x.by = some l) (hl : l.length ≤ 100000000) (hxt : x.tokLt st.toks.length = true) :
    ∃ r, call prog (.fn 371 []) [x] st = some r ∧ spR st 2 ((fldS l).map fV) (bodS l) (errS l) r := by
  refine call_ex prog_371 ?_
  unfold F_trace_split; dsimp only
  generalize hQ1 : endX st _ _ = Q0
  have hP := Parse_spec (st := { st with low := st.boxes.length }) (x := x) hx hl hxt
  have hg := parseOf_good (l := l)
  obtain ⟨fs, hfs⟩ : ∃ fs, fs = fldS l := ⟨_, rfl⟩
  obtain ⟨n, hn⟩ : ∃ n, n = (parseOf l).2.1 := ⟨_, rfl⟩
  obtain ⟨fa, hfa⟩ : ∃ c, c = (parseOf l).2.2.1 := ⟨_, rfl⟩
  obtain ⟨fc, hfc⟩ : ∃ c, c = (parseOf l).2.2.2 := ⟨_, rfl⟩
  have hend : fc = 0 → n ≤ l.length := fun h => by rw [hn]; exact parse_end (by rw [← hfc]; exact h)
  have hok : okS l = decide (fc = 0) := by rw [hfc]; rfl
  have hbd : bodS l = if fc = 0 then l.drop n else [] := by unfold bodS; rw [hok, hn]; simp
  have her : errS l = if fc = 0 then 0 else 50 := by unfold errS; rw [hok]; simp
  have hfl : flV (parseOf l).2.2 = .agg [.int .i64 fa, .int .i64 fc] := by rw [hfa, hfc]; rfl
  rw [hfl, ← hn, show (parseOf l).1 = fs from hfs.symm] at hP
  rw [← hfs, hbd, her] at hQ1
  have hfs0 : fc ≠ 0 → fs = [] := fun h => by
    rw [hfs]; rw [hfc] at h
    rcases hg with ⟨h1, _⟩ | ⟨_, h2, _⟩
    · exact absurd h1 h
    · exact h2
  clear hg hfl hok hbd her hfs hn hfa hfc
  obtain ⟨V, hV⟩ : ∃ V, V = newSl { st with low := st.boxes.length } 2 (fs.map fV) := ⟨_, rfl⟩
  obtain ⟨S1, hS1⟩ : ∃ S1, S1 = newS { st with low := st.boxes.length } (fs.map fV).isEmpty := ⟨_, rfl⟩
  have hVs : V.vs 2 = some (fs.map fV) := by rw [hV]; exact newSl_vs
  have hk : Kept st S1 := by rw [hS1]; exact Kept.start.newS
  rw [← hV, ← hS1] at hP
  obtain ⟨b, hb⟩ : ∃ b, b = S1.boxes.length := ⟨_, rfl⟩
  have hle : st.boxes.length ≤ b := by have := hk.bl; omega
  have hA := At.last (s := S1) (z := [.int .i64 0, .int .i64 0]) (T := S1.toks) (Lp := S1.loops) (lo := S1.low)
  rw [← hb] at hA
  obtain ⟨S2, a1, w1⟩ := hA.st2 (v0 := .int .i64 fa) (v1 := .int .i64 fc) rfl rfl rfl rfl
  have hk2 := w1.kp st hk.alloc' hle
  have hld := w1.at_.load (k := 1) (v := .int .i64 fc) (r := []) rfl
  by_cases h0 : fc = 0
  · have hsl := slc_lo (k := .i64) (c := (n : Int)) hx (by omega) (by have := hend h0; omega)
    rw [Int.toNat_natCast] at hsl
    simp (maxSteps := 1000000) (disch := omega) only [hP, allocPV, ← hb, a1, faP, Nat.zero_add, hld, eq_true h0, hsl, qaaz, qabz, qacz, qaez, qaiz, qajz, qalz, evOp, qaoz, qapz, qaqz, qarz, qatz, qauz, qavz,
 ↓reduceIte, Nat.reduceEqDiff, List.map_cons, List.map_nil, qawz, Option.map_some, Option.map_none, qazz, qbhz, qbuz, decide_false,
 Bool.false_eq_true, qcjz, List.getElem?_cons_zero, List.getElem?_cons_succ, reduceCtorEq, ne_eq, not_true_eq_false]
    rw [← hQ1]
    refine ⟨.inr rfl, ret_sp (v := V) (w := x.dropB n) hk2 rfl rfl rfl hVs (fun h => by rw [hV, newSl, if_pos h]) ?_ (by simp [h0])⟩
    rw [if_pos h0]
    rcases by_cases' hx with ⟨rfl, rfl⟩ | ⟨t, rfl⟩ <;> simp [PV.dropB, PV.by]
  · simp (maxSteps := 1000000) (disch := omega) only [hP, allocPV, ← hb, a1, faP, Nat.zero_add, hld, h0, qaaz, qabz, qacz, qaiz, qajz, qalz, evOp, qaoz, qapz, qaqz, qarz, qatz, qauz, qavz,
 ↓reduceIte, Nat.reduceEqDiff, List.map_cons, List.map_nil, qawz, Option.map_some, qazz, qbaz, qbhz, qbuz, decide_true, qcjz, List.getElem?_cons_zero, List.getElem?_cons_succ, reduceCtorEq, ne_eq, not_false_eq_true]
    rw [← hQ1]
    refine ⟨.inr rfl, ret_sp hk2 rfl rfl rfl (by rw [hfs0 h0]; rfl) (fun _ => rfl) (by rw [if_neg h0]; rfl) (by simp [h0])⟩

end Go.Ab
/-
  Fields but those of some names.
-/
namespace Go.Ab
set_option maxRecDepth 20000
variable {st s S : St} {e : Env}

theorem Kept.atY {b : Nat} {cs : List PV} (hk : Kept st S) (hA : At st b cs) : At S b cs := by
  have hlt := hA.lt
  unfold At at *
  have := congrArg (fun z => z[b]?) hk.bx
  simp only [List.getElem?_take, if_pos hlt] at this
  rw [this]; exact hA

def idxN {α : Type} (m : α → Bool) : List α → Nat → Int
  | [], _ => -1
  | a :: r, i => if m a = true then (i : Int) else idxN m r (i + 1)
theorem idxN_cases {α : Type} (m : α → Bool) : ∀ (l : List α) (i : Nat), (idxN m l i = -1 ∧ ∀ x ∈ l, m x = false) ∨ ∃ (p : List α) (x : α) (q : List α), l = p ++ x :: q ∧ idxN m l i = ((i + p.length : Nat) : Int) ∧ (∀ y ∈ p, m y = false) ∧ m x = true
  | [], i => .inl ⟨rfl, fun x hx => by simp at hx⟩
  | a :: r, i => by
    simp only [idxN]
    cases h : m a with
    | true => exact .inr ⟨[], a, r, rfl, by simp, fun y hy => by simp at hy, h⟩
    | false =>
      rcases idxN_cases m r (i + 1) with ⟨h1, h2⟩ | ⟨p, x, q, h1, h2, h3, h4⟩
      · refine .inl ⟨by simp [h1], fun x hx => ?_⟩
        rcases List.mem_cons.1 hx with rfl | hx
        · exact h
        · exact h2 x hx
      · refine .inr ⟨a :: p, x, q, by rw [h1]; rfl, ?_, fun y hy => ?_, h4⟩
        · simp [h2]; omega
        · rcases List.mem_cons.1 hy with rfl | hy
          · exact h
          · exact h3 y hy

theorem idxN_any {α : Type} (m : α → Bool) (l : List α) (i : Nat) : decide (0 ≤ idxN m l i) = l.any m := by
  rcases idxN_cases m l i with ⟨h1, h2⟩ | ⟨p, x, q, h1, h2, h3, h4⟩
  · have : l.any m = false := by
      rw [List.any_eq_false]; intro x hx; simp [h2 x hx]
    rw [this, h1]; rfl
  · have : l.any m = true := List.any_eq_true.2 ⟨x, by simp [h1], h4⟩
    rw [this, h2]; simp; omega

theorem tIndexS_spec {x p : PV} {ns : List Bs} {m : Bs → Bool} {fid : Nat} {caps : List PV} (hx : x.vs 1 = some (ns.map .str)) (hl : ns.length ≤ 1000000) (hp : p = .fn fid caps)
    (hm : ∀ n ∈ ns, call prog (.fn fid caps) [.str n] { st with low := st.boxes.length } = some (.bool (m n), { st with low := st.boxes.length })) :
    call prog (.fn 392 []) [x, p] st = some (.int .i64 (idxN m ns 0), st) := by
  subst hp
  refine call_of_W prog_392 ?_
  unfold F_slices_IndexFunc_s_string_string; dsimp only
  have hll := len_vs hx
  rw [List.length_map] at hll
  obtain ⟨S, hS⟩ : ∃ S : St, S = { st with low := st.boxes.length } := ⟨_, rfl⟩
  rw [← hS] at hm ⊢
  have hk : Kept st S := by rw [hS]; exact Kept.start
  simp (maxSteps := 1000000) (disch := omega) only [hll, qaaz, qabz, qadz, qajz, qalz, evOp, qaoz, qapz, qarz, qatz, qavz,
 ↓reduceIte, List.append_nil, qawz, Option.map_some, qazz, reduceCtorEq]
  generalize hQ1 : endQ st _ _ = Q0
  obtain ⟨I, hI⟩ : ∃ I : Nat → Env → St → Prop, I = fun k E S' => ∃ (i : Nat), k = ns.length - i ∧ i ≤ ns.length ∧ S' = S ∧ idxN m ns 0 = idxN m (ns.drop i) i ∧ E 0 = x ∧ E 1 = .fn fid caps ∧ E 7 = .int .i64 (ns.length : Int) ∧ E 8 = .int .i64 (i : Int) := ⟨_, rfl⟩
  refine W_loop I ?_ (n := ns.length) (by
    rw [hI]; exact ⟨0, rfl, by omega, rfl, rfl, rfl, rfl, rfl, rfl⟩)
  intro k E S' hh
  rw [hI] at hh
  obtain ⟨i, rfl, hi, rfl, hd, h0, h1, h7, h8⟩ := hh
  by_cases hlt : i < ns.length
  · have hia := iaddr_t (k := .i64) (c := (i : Int)) hx (by omega) (by rw [Int.toNat_natCast]; exact hlt)
    rw [Int.toNat_natCast] at hia
    obtain ⟨n, hn⟩ : ∃ n, n = ns.getD i [] := ⟨_, rfl⟩
    rw [← hn] at hia
    have hc := hm n (by rw [hn]; exact getD_mem hlt)
    have hdr : ns.drop i = n :: ns.drop (i + 1) := by
      rw [List.drop_eq_getElem_cons hlt, hn]; simp [List.getD, hlt]
    rw [hdr] at hd
    simp only [idxN] at hd
    cases hmn : m n with
    | true =>
      rw [hmn] at hc
      rw [hmn, if_pos rfl] at hd
      simp (maxSteps := 1000000) (disch := omega) only [h0, h1, h7, h8, hlt, hia, hc, qaaz, qabz, qacz, qadz, qaez, qaiz, qajz, qalz, evOp, qaoz, qarz, qatz, qavz,
 ↓reduceIte, Nat.reduceEqDiff, List.map_cons, List.map_nil, Option.map_some, qazz, qbaz, qbez, qbhz, qbiz, qbpz, qciz, decide_true, Int.ofNat_lt, reduceCtorEq]
      rw [← hQ1, qblz]
      exact retI rfl hk hd.symm
    | false =>
      rw [hmn] at hc
      rw [hmn, if_neg (by simp)] at hd
      simp (maxSteps := 1000000) (disch := omega) only [h0, h1, h7, h8, hlt, hia, hc, add_n, loopQ_normal, qaaz, qabz, qacz, qadz, qaez, qajz, qalz, evOp, qaoz, qapz, qarz, qatz, qavz,
 ↓reduceIte, Nat.reduceEqDiff, List.map_cons, List.map_nil, Option.map_some, qazz, qbdz, qbhz, qbpz, qciz, decide_true, Int.ofNat_lt, Bool.false_eq_true, Int.reduceToNat, reduceCtorEq]
      refine ⟨ns.length - (i + 1), by omega, ?_⟩
      rw [hI]
      exact ⟨i + 1, rfl, by omega, rfl, hd, h0, h1, h7, rfl⟩
  · obtain rfl : i = ns.length := by omega
    simp (maxSteps := 1000000) (disch := omega) only [h7, h8, hlt, qaaz, qabz, qacz, qagz, qaiz, qajz, qalz, evOp, qaoz, qapz, qarz, qatz, qavz,
 ↓reduceIte, Option.map_some, qazz, qbbz, qbfz, qbhz, qbjz, qbpz, decide_false,
 Int.ofNat_lt, Bool.false_eq_true]
    rw [← hQ1, qblz]
    rw [List.drop_length] at hd
    exact retI rfl hk hd.symm

theorem tContains_spec {x : PV} {ns : List Bs} {m : Bs → Bool} {fid : Nat} {caps : List PV} (hx : x.vs 1 = some (ns.map .str)) (hl : ns.length ≤ 1000000)
    (hm : ∀ n ∈ ns, call prog (.fn fid caps) [.str n] { st with low := st.boxes.length } = some (.bool (m n), { st with low := st.boxes.length })) :
    call prog (.fn 377 []) [x, .fn fid caps] st = some (.bool (ns.any m), st) := by
  refine call_of_W prog_377 ?_
  unfold F_slices_ContainsFunc_s_string_string; dsimp only
  have hi := tIndexS_spec (st := { st with low := st.boxes.length }) (p := .fn fid caps) hx hl rfl hm
  rw [← idxN_any m ns 0]
  simp (maxSteps := 1000000) (disch := omega) only [hi, qaaz, qabz, qaiz, qajz, qalz, evOp, qaoz, qapz, qaqz, qarz, qatz, qavz,
 ↓reduceIte, Nat.reduceEqDiff, List.append_nil, List.map_cons, List.map_nil, qawz, qaxz, Option.map_some, qazz, qblz, qbsz, reduceCtorEq]
  exact retB rfl Kept.start rfl

theorem c401_spec {b : Nat} {a c n : Bs} (hA : At st b [.str a, .str c]) (ha : a.length ≤ 1000000) (hn : n.length ≤ 1000000) : call prog (.fn 401 [.ptr b 0]) [.str n] st = some (.bool (decide (lowOf a = lowOf n)), st) := by
  refine call_of_W prog_401 ?_
  unfold F_trace_without_c1_c1; dsimp only
  have h0 : At { st with low := st.boxes.length } b [.str a, .str c] := hA
  have hl := h0.load (k := 0) rfl
  simp (maxSteps := 1000000) (disch := omega) only [faP, Nat.zero_add, hl, Same_spec ha hn, qaaz, qabz, qaiz, qajz, qalz, evOp, qaoz, qapz, qaqz, qarz, qatz, qavz,
 ↓reduceIte, Nat.reduceEqDiff, List.nil_append, List.cons_append, List.map_cons, List.map_nil, qawz, qaxz, Option.map_some, qazz, qblz, reduceCtorEq]
  exact retB rfl Kept.start rfl

def inN (ns : List Bs) (a : Bs) : Bool := ns.any fun n => decide (lowOf a = lowOf n)
theorem c397_spec {b : Nat} {nm : PV} {ns : List Bs} {f : Fld} (hA : At st b [nm]) (hx : nm.vs 1 = some (ns.map .str)) (hl : ns.length ≤ 1000000) (hns : ∀ n ∈ ns, n.length ≤ 1000000) (hf : okF f) :
    call prog (.fn 397 [.ptr b 0]) [fV f] st = some (.bool (inN ns f.1), st) := by
  refine call_of_W prog_397 ?_
  unfold F_trace_without_c1; dsimp only
  obtain ⟨b2, hb2⟩ : ∃ b2, b2 = st.boxes.length := ⟨_, rfl⟩
  have hlt := hA.lt
  have hbx : (fV f).inB st.boxes.length = true := rfl
  have hlf : ([PV.str f.1, .str f.2].all leafOk) = true := rfl
  have hA2 := At.last (s := { st with low := st.boxes.length }) (z := [.str f.1, .str f.2]) (T := st.toks) (Lp := st.loops) (lo := st.boxes.length)
  have hA1 : At ⟨st.boxes ++ [[.str f.1, .str f.2]], st.toks, st.loops, st.boxes.length⟩ b [nm] := hA.alloc
  have hl1 := hA1.load (k := 0) rfl
  have hcl : (fV f).cells = [.str f.1, .str f.2] := rfl
  have hcap : ([PV.ptr st.boxes.length 0].all capOk) = true := rfl
  have hc := tContains_spec (st := ⟨st.boxes ++ [[.str f.1, .str f.2]], st.toks, st.loops, st.boxes.length⟩) (fid := 401) (caps := [.ptr st.boxes.length 0]) (m := fun n => decide (lowOf f.1 = lowOf n)) hx hl
    (fun n hn => c401_spec (c := f.2) (by unfold At; simp) (by have := hf.1; omega) (hns n hn))
  simp (maxSteps := 1000000) (disch := omega) only [hbx, hcl, hlf, allocPV, hl1, hcap, hc, qaaz, qabz, qaiz, qajz, qalz, evOp, qaoz, qapz, qaqz, qarz, qatz, qavz,
 ↓reduceIte, Nat.reduceEqDiff, List.nil_append, List.cons_append, List.map_cons, List.map_nil, qawz, qaxz, Option.map_some, qazz, qblz, and_true]
  exact retB rfl Kept.box1 rfl

def cellsF (gs : List Fld) : List PV := gs.flatMap fun f => [.str f.1, .str f.2]
theorem cellsF_len {gs : List Fld} : (cellsF gs).length = gs.length * 2 := by
  induction gs with
  | nil => rfl
  | cons f r ih => simp only [cellsF, List.flatMap_cons, List.length_append, List.length_cons, List.length_nil] at ih ⊢; omega
theorem cellsF_app {a b : List Fld} : cellsF (a ++ b) = cellsF a ++ cellsF b := by simp [cellsF]
theorem cellsF_drop {gs : List Fld} {i : Nat} : (cellsF gs).drop (i * 2) = cellsF (gs.drop i) := by
  by_cases h : i ≤ gs.length
  · conv => lhs; rw [← List.take_append_drop i gs, cellsF_app]
    rw [List.drop_append_of_le_length (by rw [cellsF_len]; simp [h]), List.drop_of_length_le (by rw [cellsF_len]; simp; omega)]
    rfl
  · rw [List.drop_of_length_le (by rw [cellsF_len]; omega), List.drop_of_length_le (by omega)]; rfl
theorem cellsF_set {a b c : List Fld} {hs : List Fld} (hl : hs.length = b.length) : setCells (cellsF (a ++ b ++ c)) (a.length * 2) (cellsF hs) = cellsF (a ++ hs ++ c) := by
  rw [List.append_assoc, cellsF_app, cellsF_app]
  have := setCells_mid (cellsF hs) (cellsF a) (cellsF b ++ cellsF c) (by rw [List.length_append, cellsF_len, cellsF_len]; omega)
  rw [cellsF_len (gs := a)] at this
  rw [this, cellsF_app, cellsF_app, List.drop_append_of_le_length (by rw [cellsF_len, cellsF_len]; omega), List.drop_of_length_le (by rw [cellsF_len, cellsF_len]; omega)]
  rfl
theorem cellsF_zero {gs : List Fld} : (cellsF gs).all zeroLeaf = true := by
  rw [List.all_eq_true]
  intro q hq
  obtain ⟨f, _, hq⟩ := List.mem_flatMap.1 hq
  simp at hq
  rcases hq with rfl | rfl <;> rfl
theorem chunksF {a c : List Fld} : chunks 2 a.length (cellsF (a ++ c)) = a.map fV := by
  apply List.ext_getElem
  · simp [chunks]
  · intro i h1 h2
    simp only [chunks, List.getElem_map, List.getElem_range]
    rw [cellsF_drop]
    simp only [List.length_map] at h2
    have : (a ++ c).drop i = a[i] :: (a ++ c).drop (i + 1) := by
      rw [List.drop_eq_getElem_cons (by simp; omega)]
      congr 1
      exact List.getElem_append_left h2
    rw [this]
    simp [cellsF, fV]
theorem flatF {fs : List Fld} : (fs.map fV).flatMap PV.cells = cellsF fs := by
  simp [cellsF, List.flatMap_map, fV, PV.cells]

theorem tIndexF_spec {b n : Nat} {fs : List Fld} {m : Fld → Bool} {fid : Nat} {caps : List PV} (hA : At st b (cellsF fs)) (hl : fs.length ≤ 1000000)
    (hm : ∀ f ∈ fs, call prog (.fn fid caps) [fV f] { st with low := st.boxes.length } = some (.bool (m f), { st with low := st.boxes.length })) :
    call prog (.fn 400 []) [.ms b 0 fs.length, .fn fid caps] st = some (.int .i64 (idxN m fs 0), st) := by
  refine call_of_W prog_400 ?_
  unfold F_slices_IndexFunc_s_api_Field_api_Field; dsimp only
  have hll : lenPV false (.ms b 0 fs.length) = some (.int .i64 (fs.length : Int)) := rfl
  obtain ⟨S, hS⟩ : ∃ S : St, S = { st with low := st.boxes.length } := ⟨_, rfl⟩
  rw [← hS] at hm ⊢
  have hk : Kept st S := by rw [hS]; exact Kept.start
  have hA1 := hk.atY hA
  simp (maxSteps := 1000000) (disch := omega) only [hll, qaaz, qabz, qadz, qajz, qalz, evOp, qaoz, qapz, qarz, qatz, qavz,
 ↓reduceIte, List.append_nil, qawz, Option.map_some, qazz, reduceCtorEq]
  generalize hQ1 : endQ st _ _ = Q0
  obtain ⟨I, hI⟩ : ∃ I : Nat → Env → St → Prop, I = fun k E S' => ∃ (i : Nat), k = fs.length - i ∧ i ≤ fs.length ∧ S' = S ∧ idxN m fs 0 = idxN m (fs.drop i) i ∧ E 0 = .ms b 0 fs.length ∧ E 1 = .fn fid caps ∧ E 7 = .int .i64 (fs.length : Int) ∧ E 8 = .int .i64 (i : Int) := ⟨_, rfl⟩
  refine W_loop I ?_ (n := fs.length) (by
    rw [hI]; exact ⟨0, rfl, by omega, rfl, rfl, rfl, rfl, rfl, rfl⟩)
  intro k E S' hh
  rw [hI] at hh
  obtain ⟨i, rfl, hi, rfl, hd, h0, h1, h7, h8⟩ := hh
  by_cases hlt : i < fs.length
  · obtain ⟨f, hfe⟩ : ∃ f, f = fs.getD i ([], []) := ⟨_, rfl⟩
    have hia : iaddrPV 2 (.ms b 0 fs.length) (.int .i64 (i : Int)) = some (.ptr b (i * 2)) := by simp [iaddrPV, intOf, hlt]
    have hc := hm f (by rw [hfe]; exact getD_mem hlt)
    have hdr : fs.drop i = f :: fs.drop (i + 1) := by
      rw [List.drop_eq_getElem_cons hlt, hfe]; simp [List.getD, hlt]
    have hld : loadPV S' true 2 (.ptr b (i * 2)) = some (fV f) := by
      unfold At at hA1
      simp only [loadPV, hA1]
      rw [cellsF_drop, hdr]
      simp [cellsF, readCells, fV]
    rw [hdr] at hd
    simp only [idxN] at hd
    cases hmn : m f with
    | true =>
      rw [hmn] at hc
      rw [hmn, if_pos rfl] at hd
      simp (maxSteps := 1000000) (disch := omega) only [h0, h1, h7, h8, hlt, hia, hld, hc, qaaz, qabz, qacz, qadz, qaez, qaiz, qajz, qalz, evOp, qaoz, qarz, qatz, qavz,
 ↓reduceIte, Nat.reduceEqDiff, List.map_cons, List.map_nil, Option.map_some, qazz, qbaz, qbez, qbhz, qbiz, qbpz, decide_true, Int.ofNat_lt, reduceCtorEq]
      rw [← hQ1, qblz]
      exact retI rfl hk hd.symm
    | false =>
      rw [hmn] at hc
      rw [hmn, if_neg (by simp)] at hd
      simp (maxSteps := 1000000) (disch := omega) only [h0, h1, h7, h8, hlt, hia, hld, hc, add_n, loopQ_normal, qaaz, qabz, qacz, qadz, qaez, qajz, qalz, evOp, qaoz, qapz, qarz, qatz, qavz,
 ↓reduceIte, Nat.reduceEqDiff, List.map_cons, List.map_nil, Option.map_some, qazz, qbdz, qbhz, qbpz, decide_true, Int.ofNat_lt, Bool.false_eq_true, Int.reduceToNat, reduceCtorEq]
      refine ⟨fs.length - (i + 1), by omega, ?_⟩
      rw [hI]
      exact ⟨i + 1, rfl, by omega, rfl, hd, h0, h1, h7, rfl⟩
  · obtain rfl : i = fs.length := by omega
    simp (maxSteps := 1000000) (disch := omega) only [h7, h8, hlt, qaaz, qabz, qacz, qagz, qaiz, qajz, qalz, evOp, qaoz, qapz, qarz, qatz, qavz,
 ↓reduceIte, Option.map_some, qazz, qbbz, qbfz, qbhz, qbjz, qbpz, decide_false,
 Int.ofNat_lt, Bool.false_eq_true]
    rw [← hQ1, qblz]
    rw [List.drop_length] at hd
    exact retI rfl hk hd.symm
theorem tIndexF_nil {p : PV} : call prog (.fn 400 []) [.nils, p] st = some (.int .i64 (-1), st) := by
  refine call_of_W prog_400 ?_
  unfold F_slices_IndexFunc_s_api_Field_api_Field; dsimp only
  have hll : lenPV false .nils = some (.int .i64 0) := rfl
  simp (maxSteps := 1000000) (disch := omega) only [hll, qaaz, qabz, qadz, qajz, qalz, evOp, qaoz, qapz, qarz, qatz, qavz,
 ↓reduceIte, List.append_nil, qawz, Option.map_some, qazz, reduceCtorEq]
  generalize hQ1 : endQ st _ _ = Q0
  refine W_loop (fun k E S' => S' = { st with low := st.boxes.length } ∧ E 7 = .int .i64 0 ∧ E 8 = .int .i64 0) ?_ (n := 0) ⟨rfl, rfl, rfl⟩
  rintro k E S' ⟨rfl, h7, h8⟩
  simp (maxSteps := 1000000) (disch := omega) only [h7, h8, Int.lt_irrefl, qaaz, qabz, qacz, qagz, qaiz, qajz, qalz, evOp, qaoz, qapz, qarz, qatz, qavz,
 ↓reduceIte, Option.map_some, qazz, qbbz, qbfz, qbhz, qbjz, qbpz, decide_false,
 Bool.false_eq_true]
  rw [← hQ1, qblz]
  exact retI rfl Kept.start rfl
end Go.Ab
/-
  The laws FieldsBack and FieldsAgain.
-/
namespace Go.Ab
variable {st s : St} {e : Env}

theorem eqs_refl {a b : List UInt8} : binPV .neq (.struct [.s, .s]) (.agg [.str a, .str b]) (.agg [.str a, .str b]) = some (.bool false) := by
  simp [binPV, eqPV, eqCells, eqLeaf]
theorem written_len {fs : List Fld} (hf : ∀ f ∈ fs, okF f) (hl : fs.length ≤ 128) : (fs.flatMap fieldBytes ++ [13, 10]).length ≤ 3840002 := by
  have h1 := bytes_len hf
  have h2 : fs.length * 30000 ≤ 128 * 30000 := Nat.mul_le_mul_right _ hl
  rw [List.length_append]; simp only [List.length_cons, List.length_nil]
  have h3 : 128 * 30000 = 3840000 := rfl
  omega
theorem okFd_ok {f : Fld} (h : okFd f = true) : okF f := by
  simp only [okFd, nameB, valB, Bool.and_eq_true, decide_eq_true_eq] at h
  exact ⟨by omega, by omega⟩
end Go.Ab
/-
  Fields are taken away in place; a mail is put together; Strip.
-/
namespace Go.Ab
set_option maxRecDepth 20000
variable {st s S : St} {e : Env}

def stF (st : St) (b : Nat) (gs : List Fld) : St := ⟨st.boxes.set b (cellsF gs), st.toks, st.loops, st.low⟩
theorem stF_kept {b : Nat} {gs hs : List Fld} (hk : Kept (stF st b gs) S) (hb : b < st.boxes.length) : Kept (stF st b hs) ⟨S.boxes.set b (cellsF hs), S.toks, S.loops, S.low⟩ := by
  have h1 := hk.bx
  simp only [stF, List.length_set] at h1
  refine ⟨?_, hk.lp, by have := hk.lw; simpa [stF] using this, hk.tk⟩
  simp only [stF, List.length_set]
  rw [List.take_set, h1, List.set_set]
theorem stF_at {b : Nat} {gs : List Fld} (hb : b < st.boxes.length) : At (stF st b gs) b (cellsF gs) := by simp [At, stF, hb]
theorem stF_ot {b c : Nat} {gs : List Fld} {cs : List PV} (hA : At st c cs) (hc : c ≠ b) : At (stF st b gs) c cs := by
  unfold At at *; simp only [stF]; rw [List.getElem?_set_ne (Ne.symm hc)]; exact hA
theorem stF_same {b : Nat} {gs : List Fld} (hA : At st b (cellsF gs)) : stF st b gs = st := by
  obtain ⟨h1, h2⟩ := List.getElem?_eq_some_iff.1 hA
  unfold stF
  have : st.boxes.set b (cellsF gs) = st.boxes := by rw [← h2]; exact List.set_getElem_self _
  rw [this]
theorem leave_F {b k : Nat} {gs : List Fld} (hk : Kept (stF st b gs) S) (hb : b < st.boxes.length) : leave st S (.ms b 0 k) = (.ms b 0 k, stF st b gs) := by
  have h := hk.leave (v := .ms b 0 k) (by simp [PV.inB, stF, hb]) (fun _ _ => rfl)
  rw [← h]
  simp [leave, stF]

theorem stF_ld {b i : Nat} {gs : List Fld} {f : Fld} {r : List Fld} (hA : At S b (cellsF gs)) (h : gs.drop i = f :: r) : loadPV S true 2 (.ptr b (i * 2)) = some (fV f) := by
  unfold At at hA
  simp only [loadPV, hA]
  rw [cellsF_drop, h]
  simp [cellsF, readCells, fV]
theorem stF_st {b i : Nat} {A B C : List Fld} {x f : Fld} (hA : At S b (cellsF (A ++ [x] ++ C))) (hi : A.length = i) : storePV S 2 (.ptr b (i * 2)) (fV f) = some ⟨S.boxes.set b (cellsF (A ++ [f] ++ C)), S.toks, S.loops, S.low⟩ := by
  subst hi
  have h1 := cellsF_set (a := A) (b := [x]) (c := C) (hs := [f]) rfl
  have h2 : A.length * 2 + 2 ≤ (cellsF (A ++ [x] ++ C)).length := by rw [cellsF_len]; simp; omega
  unfold At at hA
  have h3 : (fV f).cells = cellsF [f] := rfl
  have h4 : (cellsF [f]).length = 2 := rfl
  have h5 : (fV f).inB (b + 1) = true := rfl
  have h6 : (cellsF [f]).all leafOk = true := rfl
  have h7 : hasTok (cellsF [f]) = false := rfl
  simp only [storePV, hA, h3, h4, h5, h6, h7, h2, h1]
  simp
theorem flat_repY {n : Nat} : (List.replicate n [PV.str [], PV.str []]).flatten = cellsF (List.replicate n ([], [])) := by
  induction n with
  | zero => rfl
  | succ n ih => rw [List.replicate_succ, List.flatten_cons, ih]; rfl
theorem stF_clr {b i n : Nat} {A B : List Fld} (hA : At S b (cellsF (A ++ B))) (hi : A.length = i) (hn : B.length = n) : clrPV S [.str [], .str []] (.ms b (i * 2) n) = some (.undef, ⟨S.boxes.set b (cellsF (A ++ List.replicate n ([], []))), S.toks, S.loops, S.low⟩) := by
  subst hi hn
  have h1 := cellsF_set (a := A) (b := B) (c := []) (hs := List.replicate B.length ([], [])) (by simp)
  simp only [List.append_nil] at h1
  have h2 : A.length * 2 + B.length * 2 ≤ (cellsF (A ++ B)).length := by rw [cellsF_len]; simp; omega
  unfold At at hA
  simp only [clrPV, hA, flat_repY, h1, List.length_cons, List.length_nil, Nat.zero_add, Nat.reduceAdd, h2, List.all_cons, List.all_nil, zeroLeaf, Bool.and_self, and_self, if_true]

set_option maxHeartbeats 8000000 in
theorem tDelete_spec {b bn : Nat} {nm : PV} {fs : List Fld} {m : Fld → Bool} {fid : Nat} {caps : List PV} (hA : At st b (cellsF fs)) (hN : At st bn [nm]) (hbn : bn ≠ b) (hl : fs.length ≤ 1000000)
    (hm : ∀ S : St, At S bn [nm] → ∀ f ∈ fs, call prog (.fn fid caps) [fV f] S = some (.bool (m f), S)) :
    ∃ r, call prog (.fn 398 []) [.ms b 0 fs.length, .fn fid caps] st = some r ∧ ∃ gs B, r = (.ms b 0 (fs.filter fun f => !m f).length, stF st b gs) ∧ gs = (fs.filter fun f => !m f) ++ B := by
  refine call_ex prog_398 ?_
  unfold F_slices_DeleteFunc_s_api_Field_api_Field; dsimp only
  have hb := hA.lt
  generalize hQ1 : endX st _ _ = Q0
  have hll : lenPV false (.ms b 0 fs.length) = some (.int .i64 (fs.length : Int)) := rfl
  have hix := tIndexF_spec (st := { st with low := st.boxes.length }) (fid := fid) (caps := caps) (n := 0) hA hl (fun f hf => hm ⟨st.boxes, st.toks, st.loops, st.boxes.length⟩ hN f hf)
  rcases idxN_cases m fs 0 with ⟨h1, h2⟩ | ⟨p, x, q, h1, h2, h3, h4⟩
  · rw [h1] at hix
    have hfl : (fs.filter fun f => !m f) = fs := List.filter_eq_self.2 fun f hf => by rw [h2 f hf]; rfl
    simp (maxSteps := 1000000) (disch := omega) only [hix, qaaz, qabz, qacz, qaiz, qajz, qalz, evOp, qaoz, qapz, qaqz, qarz, qatz, qavz,
 ↓reduceIte, Nat.reduceEqDiff, List.map_cons, List.map_nil, qawz, qaxz, Option.map_some, qazz, qbaz, qbhz, qbtz, decide_true, reduceCtorEq]
    rw [← hQ1, hfl]
    refine ⟨.inr rfl, .ms b 0 fs.length, rfl, fs, [], ?_, by simp⟩
    exact leave_F (by rw [stF_same hA]; exact Kept.start) hb
  rw [h2] at hix
  have hne : ¬ ((p.length : Nat) : Int) = -1 := by omega
  have hpl : fs.length = p.length + q.length + 1 := by rw [h1]; simp; omega
  simp only [Nat.zero_add] at hix
  simp (maxSteps := 1000000) (disch := omega) only [hix, hne, add_n, Int.reduceToNat, qaaz, qabz, qacz, qadz, qaez, qajz, qalz, evOp, qaoz, qapz, qaqz, qarz, qatz, qavz,
 ↓reduceIte, Nat.reduceEqDiff, List.map_cons, List.map_nil, qawz, qaxz, Option.map_some, qazz, qbhz, qbtz, decide_false,
 Bool.false_eq_true, Int.reduceToNat, reduceCtorEq]
  obtain ⟨I, hI⟩ : ∃ I : Nat → Env → St → Prop, I = fun k E S => ∃ (j : Nat) (A B : List Fld), k = fs.length - j ∧ j ≤ fs.length ∧ A.length + B.length = j ∧ B ≠ [] ∧ A = ((fs.take j).filter fun f => !m f) ∧ Kept (stF st b (A ++ B ++ fs.drop j)) S ∧ E 0 = .ms b 0 fs.length ∧ E 1 = .fn fid caps ∧ E 5 = .int .i64 (A.length : Int) ∧ E 6 = .int .i64 (j : Int) := ⟨_, rfl⟩
  refine W_loop I ?_ (n := fs.length - (p.length + 1)) (by
    rw [hI]
    have e1 : fs.take (p.length + 1) = p ++ [x] := by
      rw [h1, List.take_append, List.take_of_length_le (by omega)]; simp
    have e2 : fs.drop (p.length + 1) = q := by rw [h1, List.drop_append]; simp
    refine ⟨p.length + 1, p, [x], rfl, by omega, by simp, by simp, ?_, ?_, rfl, rfl, rfl, rfl⟩
    · rw [e1, List.filter_append, List.filter_eq_self.2 fun f hf => by rw [h3 f hf]; rfl]
      simp [h4]
    · rw [e2, List.append_assoc, List.singleton_append, ← h1, stF_same hA]; exact Kept.start)
  intro k E S hh
  rw [hI] at hh
  obtain ⟨j, A, B, rfl, hj, hAB, hB0, hAe, hk, h0, h1', h5, h6⟩ := hh
  have hSb := hk.atY (stF_at hb)
  have hSn := hk.atY (stF_ot hN hbn)
  by_cases hlt : j < fs.length
  · obtain ⟨f, hfe⟩ : ∃ f, f = fs.getD j ([], []) := ⟨_, rfl⟩
    have hfm : f ∈ fs := by rw [hfe]; exact getD_mem hlt
    have hdr : fs.drop j = f :: fs.drop (j + 1) := by
      rw [List.drop_eq_getElem_cons hlt, hfe]; simp [List.getD, hlt]
    have hgd : (A ++ B ++ fs.drop j).drop j = f :: fs.drop (j + 1) := by
      rw [List.drop_append_of_le_length (by simp; omega), List.drop_of_length_le (by simp; omega), hdr]; rfl
    have hia : iaddrPV 2 (.ms b 0 fs.length) (.int .i64 (j : Int)) = some (.ptr b (j * 2)) := by simp [iaddrPV, intOf, hlt]
    have hA5 : A.length < j := by
      have : 0 < B.length := List.length_pos_iff.2 hB0
      omega
    have hia5 : iaddrPV 2 (.ms b 0 fs.length) (.int .i64 (A.length : Int)) = some (.ptr b (A.length * 2)) := by simp [iaddrPV, intOf]; omega
    have hld := stF_ld hSb hgd
    have htk : fs.take (j + 1) = fs.take j ++ [f] := by rw [take_snoc (d := ([], [])) hlt, ← hfe]
    obtain ⟨b7, hb7⟩ : ∃ b7, b7 = S.boxes.length := ⟨_, rfl⟩
    have hbl : b < b7 := by have := hSb.lt; omega
    have hnl : bn < b7 := by have := hSn.lt; omega
    have hA7 := At.last (s := S) (z := [.str [], .str []]) (T := S.toks) (Lp := S.loops) (lo := S.low)
    rw [← hb7] at hA7
    obtain ⟨S1, u1, w1⟩ := hA7.st2 (v0 := .str f.1) (v1 := .str f.2) rfl rfl rfl rfl
    have u1' : storePV ⟨S.boxes ++ [[.str [], .str []]], S.toks, S.loops, S.low⟩ 2 (.ptr b7 0) (fV f) = some S1 := u1
    have m1 := w1.kp _ hk.alloc' (by simp only [stF, List.length_set]; have := hk.bl; simp only [stF, List.length_set] at this; omega)
    have hS1b := m1.atY (stF_at hb)
    have hS1n := m1.atY (stF_ot hN hbn)
    have hl7 := w1.at_.ld2
    have hl7' : loadPV S1 true 2 (.ptr b7 0) = some (fV f) := hl7
    have hc := hm S1 hS1n f hfm
    cases hmf : m f with
    | true =>
      rw [hmf] at hc
      simp (maxSteps := 1000000) (disch := omega) only [h0, h1', h6, hll, hlt, hia, hld, allocPV, ← hb7, u1', hl7', hc, add_n, loopQ_normal, qaaz, qabz, qacz, qadz, qaez, qajz, qalz, evOp, qaoz, qapz, qarz, qatz, qauz, qavz,
 ↓reduceIte, Nat.reduceEqDiff, List.map_cons, List.map_nil, Option.map_some, qazz, qbdz, qbhz, qbpz, qcfz, decide_true, Int.ofNat_lt, Bool.false_eq_true, Int.reduceToNat, reduceCtorEq, Bool.not_true]
      refine ⟨fs.length - (j + 1), by omega, ?_⟩
      rw [hI]
      refine ⟨j + 1, A, B ++ [f], rfl, by omega, by simp; omega, by simp, ?_, ?_, h0, h1', h5, rfl⟩
      · rw [htk, List.filter_append, ← hAe]; simp [hmf]
      · rw [hdr] at m1; simpa using m1
    | false =>
      rw [hmf] at hc
      obtain ⟨y, B', rfl⟩ : ∃ y B', B = y :: B' := by
        cases B with
        | nil => exact absurd rfl hB0
        | cons y B' => exact ⟨y, B', rfl⟩
      have he : A ++ y :: B' ++ fs.drop j = A ++ [y] ++ (B' ++ fs.drop j) := by simp
      have hS1b' := hS1b
      rw [he] at hS1b'
      have hst := stF_st (f := f) (B := []) hS1b' rfl
      have m2 := stF_kept (hs := A ++ [f] ++ (B' ++ fs.drop j)) m1 hb
      have e9 : A ++ [f] ++ (B' ++ fs.drop j) = (A ++ [f]) ++ (B' ++ [f]) ++ fs.drop (j + 1) := by rw [hdr]; simp
      rw [e9] at hst m2
      simp (maxSteps := 1000000) (disch := omega) only [h0, h1', h5, h6, hll, hlt, hia, hia5, hld, allocPV, ← hb7, u1', hl7', hc, hst, add_n, loopQ_normal, qaaz, qabz, qacz, qadz, qaez, qajz, qalz, evOp, qaoz, qapz, qarz, qatz, qauz, qavz,
 ↓reduceIte, Nat.reduceEqDiff, List.map_cons, List.map_nil, Option.map_some, qazz, qbdz, qbhz, qbpz, qcfz, decide_true, Int.ofNat_lt, Int.reduceToNat, reduceCtorEq, Bool.not_false]
      refine ⟨fs.length - (j + 1), by omega, ?_⟩
      rw [hI]
      simp only [List.length_cons] at hAB
      refine ⟨j + 1, A ++ [f], B' ++ [f], rfl, by omega, by simp; omega, by simp, ?_, m2, h0, h1', (by
        have : (A ++ [f]).length = A.length + 1 := by simp
        rw [this]; rfl), rfl⟩
      rw [htk, List.filter_append, ← hAe]; simp [hmf]
  · obtain rfl : j = fs.length := by omega
    rw [List.take_length] at hAe
    rw [List.drop_length, List.append_nil] at hk hSb
    have hlA : A.length ≤ fs.length := by omega
    have hs1 : slcPV 2 (.ms b 0 fs.length) (some (.int .i64 (A.length : Int))) none none = some (.ms b (A.length * 2) (fs.length - A.length)) := by
      simp [slcPV, bnd, intOf, hlA]
    have hs2 : slcPV 2 (.ms b 0 fs.length) none (some (.int .i64 (A.length : Int))) none = some (.ms b 0 A.length) := by
      simp [slcPV, bnd, intOf, hlA]
    have hcl := stF_clr (i := A.length) (n := fs.length - A.length) hSb rfl (by omega)
    have m2 := stF_kept (hs := A ++ List.replicate (fs.length - A.length) ([], [])) hk hb
    simp (maxSteps := 1000000) (disch := omega) only [h0, h5, h6, hll, hlt, hs1, hs2, hcl, qaaz, qabz, qacz, qagz, qaiz, qajz, qalz, evOp, qaoz, qarz, qatz, qauz, qavz,
 ↓reduceIte, Nat.reduceEqDiff, Option.map_some, Option.map_none, qazz, qbbz, qbfz, qbhz, qbjz, qbpz, decide_false,
 Int.ofNat_lt, Bool.false_eq_true, reduceCtorEq]
    rw [← hQ1, ← hAe]
    exact ⟨.inr rfl, .ms b 0 A.length, rfl, _, _, leave_F m2 hb, rfl⟩
end Go.Ab
/-
  without, join, Strip.
-/
namespace Go.Ab
set_option maxRecDepth 20000
variable {st s S : St} {e : Env}

def outN (ns : List Bs) (fs : List Fld) : List Fld := fs.filter fun f => !inN ns f.1
theorem clone_nil : call prog (.fn 396 []) [.nils] st = some (.nils, st) := by
  rw [call_primS prog_396]
  simp [primS, pClone2, pClone, updS]
theorem clone_row {t : Tok} {fs : List Fld} (h0 : fs ≠ []) (hl : fs.length ≤ 1000000) : call prog (.fn 396 []) [.sl 2 t (fs.map fV)] st = some (.ms st.boxes.length 0 fs.length, ⟨st.boxes ++ [cellsF fs], st.toks, st.loops, st.low⟩) := by
  rw [call_primS prog_396]
  have h1 : (fs.map fV) ≠ [] := by simpa using h0
  have h2 : fs.length ≤ room := by unfold room; omega
  have h4 : (cellsF fs).all zeroLeaf = true := cellsF_zero
  simp only [primS, pClone2, pClone, List.append_nil, List.length_map, h2, flatF, h4, updS, and_true, if_true, ne_eq, h1, not_false_eq_true, Option.map_some]
theorem tDelete_nil {p : PV} : call prog (.fn 398 []) [.nils, p] st = some (.nils, st) := by
  refine call_of_W prog_398 ?_
  unfold F_slices_DeleteFunc_s_api_Field_api_Field; dsimp only
  simp (maxSteps := 1000000) (disch := omega) only [tIndexF_nil, qaaz, qabz, qacz, qaiz, qajz, qalz, evOp, qaoz, qapz, qaqz, qarz, qatz, qavz,
 ↓reduceIte, Nat.reduceEqDiff, List.append_nil, List.map_cons, List.map_nil, qawz, qaxz, Option.map_some, qazz, qbaz, qbhz, qblz, qbtz, decide_true, reduceCtorEq]
  exact ret1 rfl rfl Kept.start ⟨fun _ => rfl, fun _ _ => rfl⟩

set_option maxHeartbeats 4000000 in
theorem without_spec {x nm : PV} {fs : List Fld} {ns : List Bs} (hx : x.vs 2 = some (fs.map fV)) (hx0 : fs = [] → x = .nils) (hf : ∀ f ∈ fs, okF f) (hl : fs.length ≤ 1000000)
    (hn : nm.vs 1 = some (ns.map .str)) (hnl : ns.length ≤ 1000000) (hns : ∀ n ∈ ns, n.length ≤ 1000000) :
    ∃ r, call prog (.fn 385 []) [x, nm] st = some r ∧ vs1R st 2 ((outN ns fs).map fV) r := by
  refine call_ex prog_385 ?_
  unfold F_trace_without; dsimp only
  generalize hQ1 : endX st _ _ = Q0
  obtain ⟨n1, n2, n3, n4, -⟩ := vs_inB (n := st.boxes.length) hn
  have nl : ([nm].all leafOk) = true := by simp [n3]
  have hcap : ([PV.ptr st.boxes.length 0].all capOk) = true := rfl
  by_cases h0 : fs = []
  · obtain rfl := hx0 h0
    subst h0
    simp (maxSteps := 1000000) (disch := omega) only [n1, n4, nl, allocPV, clone_nil, hcap, tDelete_nil, frzPV, qaaz, qabz, qaiz, qajz, qalz, evOp, qaoz, qapz, qaqz, qarz, qatz, qavz,
 ↓reduceIte, Nat.reduceEqDiff, List.map_cons, List.map_nil, qawz, qaxz, qazz, and_true, reduceCtorEq]
    rw [← hQ1]
    refine ⟨.inr rfl, ret_vs1 Kept.box1 (v := .nils) rfl rfl⟩
  · obtain ⟨t, rfl⟩ : ∃ t, x = .sl 2 t (fs.map fV) := by
      rcases vs_cases hx with ⟨_, h⟩ | h
      · exact absurd (by simpa using h) h0
      · exact h
    obtain ⟨S1, hS1⟩ : ∃ S1 : St, S1 = ⟨st.boxes ++ [[nm]], st.toks, st.loops, st.boxes.length⟩ := ⟨_, rfl⟩
    have hb1 : S1.boxes.length = st.boxes.length + 1 := by rw [hS1]; simp
    obtain ⟨S2, hS2⟩ : ∃ S2 : St, S2 = ⟨S1.boxes ++ [cellsF fs], S1.toks, S1.loops, S1.low⟩ := ⟨_, rfl⟩
    have hN1 : At S1 st.boxes.length [nm] := by rw [hS1]; simp [At]
    have hN2 : At S2 st.boxes.length [nm] := by rw [hS2]; exact hN1.alloc
    have hA2 : At S2 S1.boxes.length (cellsF fs) := by rw [hS2]; simp [At]
    obtain ⟨r, hr, gs, B, rfl, hgs⟩ := tDelete_spec (st := S2) (fid := 397) (caps := [.ptr st.boxes.length 0]) (m := fun f => inN ns f.1) hA2 hN2 (by omega) hl (fun S hS f hff => c397_spec hS hn hnl hns (hf f hff))
    have hcl := clone_row (st := S1) (t := t) h0 hl
    rw [← hS2] at hcl
    have hk2 : Kept st S2 := by rw [hS2, hS1]; exact Kept.box1.alloc'
    have hA3 : At (stF S2 S1.boxes.length gs) S1.boxes.length (cellsF gs) := stF_at hA2.lt
    have hfz : frzPV (stF S2 S1.boxes.length gs) 2 (.ms S1.boxes.length 0 (outN ns fs).length) = some (.sl 2 .no ((outN ns fs).map fV), ⟨(stF S2 S1.boxes.length gs).boxes.set S1.boxes.length [], S2.toks, S2.loops, S2.low⟩) := by
      have h1 : (outN ns fs).length * 2 ≤ (cellsF gs).length := by rw [cellsF_len, hgs]; simp [outN]; omega
      have h2 : (cellsF gs).all zeroLeaf = true := cellsF_zero
      have h3 : chunks 2 (outN ns fs).length (cellsF gs) = (outN ns fs).map fV := by rw [hgs]; exact chunksF
      unfold At at hA3
      simp only [frzPV, hA3, h1, h2, h3, and_self, if_true]
      rfl
    have hk3 : Kept st ⟨(stF S2 S1.boxes.length gs).boxes.set S1.boxes.length [], S2.toks, S2.loops, S2.low⟩ := by
      refine hk2.of ?_ rfl hk2.lw (fun i _ => rfl) hk2.tl
      simp only [stF, List.set_set]
      rw [List.take_set_of_le (by omega)]
    have hS1' : (⟨st.boxes ++ [[nm]], st.toks, st.loops, st.boxes.length⟩ : St) = S1 := hS1.symm
    simp (maxSteps := 1000000) (disch := omega) only [n1, n4, nl, allocPV, hS1', hcl, hcap, hr, hfz, show ((fs.filter fun f => !inN ns f.1)) = outN ns fs from rfl, qaaz, qabz, qaiz, qajz, qalz, evOp, qaoz, qapz, qaqz, qarz, qatz, qavz,
 ↓reduceIte, Nat.reduceEqDiff, List.map_cons, List.map_nil, qawz, qaxz, qazz, and_true, reduceCtorEq]
    rw [← hQ1]
    exact ⟨.inr rfl, ret_vs1 hk3 (v := .sl 2 .no ((outN ns fs).map fV)) rfl (by simp [PV.vs])⟩

def joinT (fs : List Fld) (b : Bs) : Bs × Int := if (writeOf fs).1 = 0 then ((writeOf fs).2 ++ b, 0) else ([], (writeOf fs).1)
set_option maxHeartbeats 4000000 in
theorem tjoin_spec {x y : PV} {fs : List Fld} {b : Bs} (hx : x.vs 2 = some (fs.map fV)) (hf : ∀ f ∈ fs, okF f) (hl : fs.length ≤ 1000000) (hy : y.by = some b) (hb : b.length ≤ 100000000) :
    ∃ r, call prog (.fn 386 []) [x, y] st = some r ∧ byR st (joinT fs b).1 (joinT fs b).2 r := by
  refine call_ex prog_386 ?_
  unfold F_trace_join; dsimp only
  generalize hQ1 : endX st _ _ = Q0
  have hW := Write_spec (st := { st with low := st.boxes.length }) hx hf hl
  by_cases h0 : (writeOf fs).1 = 0
  · have hlen : (writeOf fs).2.length ≤ 3840002 := by
      rcases write_cases (fs := fs) with ⟨h, _⟩ | ⟨h1, h2, h3, h4⟩
      · exact absurd h0 h
      · rw [h4]; exact written_len hf h1
    rw [outV, if_pos h0] at hW
    obtain ⟨W, hWe⟩ : ∃ W, W = (writeOf fs).2 := ⟨_, rfl⟩
    have hjt : joinT fs b = (W ++ b, 0) := by unfold joinT; rw [if_pos h0, hWe]
    rw [← hWe] at hW hlen
    have hg : Grew st (St.tok1 { st with low := st.boxes.length }) := Grew.start.tok1
    have ho : OwnB st (St.tok1 { st with low := st.boxes.length }) (.bys (.own st.toks.length) W) W := .inr ⟨_, rfl, Nat.le_refl _, by simp [St.tok1]⟩
    obtain ⟨v', s', q1, q2, q3⟩ := app8_any (y := y) (m := b) hg ho hy (by unfold room; omega)
    have hk : Kept st s' := ⟨by rw [q2.bx]; simp, q2.lp, by rw [q2.lw]; exact Nat.le_refl _, q2.tk⟩
    rw [hjt] at hQ1
    simp (maxSteps := 1000000) (disch := omega) only [hW, q1, qaaz, qabz, qacz, qaez, qaiz, qajz, qalz, evOp, qaoz, qapz, qaqz, qarz, qatz, qavz,
 ↓reduceIte, Nat.reduceEqDiff, List.map_cons, List.map_nil, qawz, qaxz, Option.map_some, qazz, qbhz, qbuz, decide_false,
 Bool.false_eq_true, qcjz, List.getElem?_cons_zero, List.getElem?_cons_succ, reduceCtorEq, ne_eq, not_true_eq_false]
    rw [← hQ1]
    exact ⟨.inr rfl, ret_by hk (v := v') rfl rfl q3.by rfl⟩
  · rw [outV, if_neg h0] at hW
    have hjt : joinT fs b = ([], (writeOf fs).1) := by unfold joinT; rw [if_neg h0]
    rw [hjt] at hQ1
    simp (maxSteps := 1000000) (disch := omega) only [hW, h0, qaaz, qabz, qacz, qaiz, qajz, qalz, evOp, qaoz, qapz, qaqz, qarz, qatz, qavz,
 ↓reduceIte, Nat.reduceEqDiff, List.map_cons, List.map_nil, qawz, Option.map_some, qazz, qbaz, qbhz, qbuz, decide_true, qcjz, List.getElem?_cons_zero, List.getElem?_cons_succ, reduceCtorEq, ne_eq, not_false_eq_true]
    rw [← hQ1]
    exact ⟨.inr rfl, ret_by Kept.start (v := .nils) rfl rfl rfl rfl⟩

theorem fldS_ok {l : Bs} : (fldS l).length ≤ 128 ∧ (fldS l).all okFd = true ∧ ∀ f ∈ fldS l, okF f := by
  have hg := parseOf_good (l := l)
  rcases hg with ⟨h1, h2, h3, h4, _⟩ | ⟨_, h2, _⟩
  · exact ⟨h4, h3, fun f hf => okFd_ok (List.all_eq_true.1 h3 f hf)⟩
  · have : fldS l = [] := h2
    rw [this]; exact ⟨by simp, rfl, fun f hf => by simp at hf⟩
theorem bodS_len {l : Bs} : (bodS l).length ≤ l.length := by unfold bodS; split <;> simp
theorem outN_sub {ns : List Bs} {fs : List Fld} : (outN ns fs).length ≤ fs.length ∧ ∀ f ∈ outN ns fs, f ∈ fs := ⟨List.length_filter_le _ _, fun f hf => (List.mem_filter.1 hf).1⟩
def stripM (l : Bs) (ns : List Bs) : Bs × Int := if okS l = true then joinT (outN ns (fldS l)) (bodS l) else ([], 50)
set_option maxHeartbeats 4000000 in
theorem tStrip_spec {x nm : PV} {l : Bs} {ns : List Bs} (hx : x.by = some l) (hl : l.length ≤ 100000000) (hxt : x.tokLt st.toks.length = true)
    (hn : nm.vs 1 = some (ns.map .str)) (hnl : ns.length ≤ 1000000) (hns : ∀ n ∈ ns, n.length ≤ 1000000) :
    ∃ r, call prog (.fn 365 []) [x, nm] st = some r ∧ byR st (stripM l ns).1 (stripM l ns).2 r := by
  refine call_ex prog_365 ?_
  unfold F_trace_Strip; dsimp only
  generalize hQ1 : endX st _ _ = Q0
  obtain ⟨⟨_, S1⟩, c1, hg1, v, w, rfl, hv, hv0, hw, hwt⟩ := tsplit_spec (st := { st with low := st.boxes.length }) hx hl hxt
  obtain ⟨f1, f2, f3⟩ := fldS_ok (l := l)
  cases hok : okS l with
  | false =>
    have her : errS l = 50 := by simp [errS, hok]
    have hst : stripM l ns = ([], 50) := by simp [stripM, hok]
    rw [her] at c1
    rw [hst] at hQ1
    simp (maxSteps := 1000000) (disch := omega) only [c1, qaaz, qabz, qacz, qaiz, qajz, qalz, evOp, qaoz, qapz, qaqz, qarz, qatz, qavz,
 ↓reduceIte, Nat.reduceEqDiff, List.map_cons, List.map_nil, qawz, Option.map_some, qazz, qbaz, qbhz, qbuz, decide_true, qcjz, List.getElem?_cons_zero, List.getElem?_cons_succ, reduceCtorEq, ne_eq, Int.reduceEq, not_false_eq_true]
    rw [← hQ1]
    exact ⟨.inr rfl, ret_by (hg1.kp Kept.start) (v := .nils) rfl rfl rfl rfl⟩
  | true =>
    have her : errS l = 0 := by simp [errS, hok]
    have hst : stripM l ns = joinT (outN ns (fldS l)) (bodS l) := by simp [stripM, hok]
    rw [her] at c1
    rw [hst] at hQ1
    obtain ⟨⟨y, S2⟩, c2, hg2, hy⟩ := without_spec (st := S1) hv (fun h => hv0 (by rw [h]; rfl)) f3 (by omega) hn hnl hns
    obtain ⟨o1, o2⟩ := outN_sub (ns := ns) (fs := fldS l)
    obtain ⟨⟨_, S3⟩, c3, hg3, z, rfl, hz, hzt⟩ := tjoin_spec (st := S2) hy (fun f hf => f3 f (o2 f hf)) (by omega) hw (by have := bodS_len (l := l); omega)
    simp (maxSteps := 1000000) (disch := omega) only [c1, c2, c3, qaaz, qabz, qacz, qaez, qaiz, qajz, qalz, evOp, qaoz, qapz, qaqz, qarz, qatz, qavz,
 ↓reduceIte, Nat.reduceEqDiff, List.map_cons, List.map_nil, qawz, qaxz, Option.map_some, qazz, qbhz, qbuz, decide_false,
 Bool.false_eq_true, qcjz, List.getElem?_cons_zero, List.getElem?_cons_succ, reduceCtorEq, ne_eq, not_true_eq_false]
    rw [← hQ1]
    exact ⟨.inr rfl, ret_by (hg3.kp (hg2.kp (hg1.kp Kept.start))) (v := z) rfl rfl hz rfl⟩
end Go.Ab
/-
  The law TraceStrips.
-/
namespace Go.Ab
set_option maxRecDepth 20000
variable {st s S : St} {e : Env}

theorem parseH {x : PV} {l : Bs} (hx : x.by = some l) (hl : l.length ≤ 100000000) (hxt : x.tokLt st.toks.length = true) :
    ∃ V S1, call prog (.fn 150 []) [x] st = some (.tup [V, .int .i64 ((parseOf l).2.1 : Int), .agg [.int .i64 (parseOf l).2.2.1, .int .i64 (parseOf l).2.2.2]], S1) ∧ V.vs 2 = some ((fldS l).map fV) ∧ Gr st S1 :=
  ⟨_, _, Parse_spec hx hl hxt, newSl_vs, Gr.newS⟩
theorem box2 {a c : Int} : ∃ S1, storePV ⟨S.boxes ++ [[.int .i64 0, .int .i64 0]], S.toks, S.loops, S.low⟩ 2 (.ptr S.boxes.length 0) (.agg [.int .i64 a, .int .i64 c]) = some S1 ∧ At S1 S.boxes.length [.int .i64 a, .int .i64 c] ∧ (∀ b ds, At S b ds → At S1 b ds) ∧ S1.toks = S.toks := by
  obtain ⟨S1, a1, w1⟩ := (At.last (s := S) (z := [.int .i64 0, .int .i64 0]) (T := S.toks) (Lp := S.loops) (lo := S.low)).st2 (v0 := .int .i64 a) (v1 := .int .i64 c) rfl rfl rfl rfl
  exact ⟨S1, a1, w1.at_, fun b ds h => w1.ot _ _ (by have := h.lt; omega) h.alloc, w1.tk⟩

theorem inN1 {n a : Bs} : inN [n] a = decide (lowOf a = lowOf n) := by simp [inN]
theorem outN_out {ns : List Bs} {fs : List Fld} : outN ns (outN ns fs) = outN ns fs := by simp [outN]
theorem strip_fail {l : Bs} {ns : List Bs} (h : (stripM l ns).2 ≠ 0) : (stripM l ns).1 = [] := by
  unfold stripM joinT at *
  split at h
  · rename_i h1
    rw [if_pos h1]
    split at h
    · exact absurd rfl h
    · rename_i h2; rw [if_neg h2]
  · rename_i h1; rw [if_neg h1]
theorem join_good {fs : List Fld} {b o : Bs} (h : joinT fs b = (o, 0)) : parseOf o = (fs, o.length - b.length, (0, 0)) ∧ o.drop (o.length - b.length) = b ∧ b.length ≤ o.length ∧ o.length ≤ 3840002 + b.length ∧ fs.length ≤ 128 := by
  unfold joinT at h
  split at h
  · rename_i h0
    rcases write_cases (fs := fs) with ⟨h1, _⟩ | ⟨h1, h2, h3, h4⟩
    · exact absurd h0 h1
    · rw [h4] at h
      have ho : o = (fs.flatMap fieldBytes ++ [13, 10]) ++ b := by injection h with h _; exact h.symm
      have hp := parse_written (more := b) h2 h3 h1
      have hw := written_len (fun f hf => okFd_ok (List.all_eq_true.1 h2 f hf)) h1
      rw [← ho] at hp
      obtain ⟨W, hW⟩ : ∃ W, W = fs.flatMap fieldBytes ++ [13, 10] := ⟨_, rfl⟩
      rw [← hW] at ho hp hw
      have hol : o.length = W.length + b.length := by rw [ho]; simp
      have hd : o.length - b.length = W.length := by omega
      rw [hd]
      exact ⟨hp, by rw [ho]; simp, by omega, by omega, h1⟩
  · rename_i h0
    injection h with _ h
    exact absurd h h0
theorem strip_good {l o : Bs} {ns : List Bs} (h : stripM l ns = (o, 0)) : okS l = true ∧ okS o = true ∧ fldS o = outN ns (fldS l) ∧ (parseOf o).2.2.2 = 0 ∧ o.drop (parseOf o).2.1 = bodS l ∧ bodS o = bodS l ∧ stripM o ns = (o, 0) ∧ o.length ≤ 3840002 + l.length := by
  have hx := h
  unfold stripM at h
  split at h
  · rename_i h1
    obtain ⟨q1, q2, q3, q4, q5⟩ := join_good h
    have hc : (parseOf o).2.2.2 = 0 := by rw [q1]
    have ho : okS o = true := by unfold okS; rw [q1]; rfl
    have hf : fldS o = outN ns (fldS l) := by unfold fldS; rw [q1]; rfl
    have hd : o.drop (parseOf o).2.1 = bodS l := by rw [q1]; exact q2
    have hb : bodS o = bodS l := by unfold bodS at *; rw [if_pos ho]; rw [hd]
    refine ⟨h1, ho, hf, hc, hd, hb, ?_, by have := bodS_len (l := l); omega⟩
    unfold stripM
    rw [if_pos ho, hf, hb, outN_out]; exact h
  · injection h with _ h; cases h

set_option maxHeartbeats 16000000 in
theorem law_TraceStrips {x : PV} {l n : Bs} (hx : x.by = some l) (hl : l.length ≤ maxLen) (hxt : x.tokLt 0 = true) (hn : n.length ≤ maxLen) :
    ∃ s', call prog (.fn 369 []) [x, .str n] ⟨[], [], [], 0⟩ = some (.bool true, s') := by
  have hML : maxLen ≤ 9223372036854775807 := by decide
  refine law_of_W prog_369 rfl ?_
  unfold F_posthornlaw25_TraceStrips; dsimp only
  generalize hQ1 : (fun (x : Ex) (e : Env) (_ : St) => (x = .normal ∨ x = .ret) ∧ e 4 = PV.bool true) = Q0
  have fin : ∀ E S, E 4 = .bool true → Q0 .ret E S := fun E S h => by rw [← hQ1]; exact ⟨.inr rfl, h⟩
  refine W_cut (fun E S => E 0 = x ∧ E 1 = .str n) ?_ ?_
  · simp (maxSteps := 1000000) (disch := omega) only [qabz, qajz, qalz, evOp, qapz, qarz, qatz, qavz,
 ↓reduceIte, Nat.reduceEqDiff, qawz, qaxz, true_and, and_true, reduceCtorEq]
  rintro e S ⟨h0, h1⟩
  by_cases c1 : 8000 < l.length
  · have e1 : (8000 : Int) < (l.length : Int) := by omega
    simp (maxSteps := 1000000) (disch := omega) only [h0, len_by hx, e1, alive25, qaaz, qabz, qacz, qaiz, qajz, qakz, qalz, qamz, qanz, evOp, qaoz, qapz, qaqz, qarz, qatz, qavz,
 ↓reduceIte, Nat.reduceEqDiff, List.map_nil, Option.map_some, qazz, qbaz, qbhz, qbrz, beq_false, decide_true, Bool.false_eq_true, Bool.not_true]
    exact fin _ _ rfl
  by_cases c2 : 200 < n.length
  · have e1 : ¬ (8000 : Int) < (l.length : Int) := by omega
    have e2 : (200 : Int) < (n.length : Int) := by omega
    simp (maxSteps := 1000000) (disch := omega) only [h0, h1, len_by hx, len_s, e1, e2, alive25, qaaz, qabz, qacz, qaiz, qajz, qakz, qalz, qamz, qanz, evOp, qaoz, qapz, qaqz, qarz, qatz, qavz,
 ↓reduceIte, Nat.reduceEqDiff, List.map_nil, Option.map_some, qazz, qbaz, qbhz, qbrz, beq_false, decide_true, decide_false,
 Bool.false_eq_true, Bool.not_false]
    exact fin _ _ rfl
  refine W_cut (fun E S => E 0 = x ∧ E 1 = .str n) ?_ ?_
  · have e1 : ¬ (8000 : Int) < (l.length : Int) := by omega
    have e2 : ¬ (200 : Int) < (n.length : Int) := by omega
    simp (maxSteps := 1000000) (disch := omega) only [h0, h1, len_by hx, len_s, e1, e2, qaaz, qabz, qacz, qaez, qajz, qakz, qalz, qamz, qanz, evOp, qaoz, qapz, qarz, qatz, qavz,
 ↓reduceIte, Nat.reduceEqDiff, Option.map_some, qazz, qbhz, qbrz, beq_false, decide_false,
 Bool.false_eq_true, and_true, reduceCtorEq, Bool.not_false]
  clear h0 h1 S
  rintro e S ⟨h0, h1⟩
  obtain ⟨o, ho⟩ : ∃ o, o = (stripM l [n]).1 := ⟨_, rfl⟩
  obtain ⟨er, her⟩ : ∃ c, c = (stripM l [n]).2 := ⟨_, rfl⟩
  refine W_cut (fun E S => (∃ w, E 5 = w ∧ w.by = some o ∧ w.tokLt S.toks.length = true) ∧ E 0 = x ∧ E 1 = .str n ∧ E 6 = .int .i64 er) ?_ ?_
  · obtain ⟨⟨_, S1⟩, c1, hg1, w, rfl, hw, hwt⟩ := tStrip_spec (st := S.tok1) (nm := .sl 1 (.own S.toks.length) [.str n]) (ns := [n]) hx (by omega) (tokLt_mono hxt (by omega)) (by simp [PV.vs]) (by simp) (fun m hm => by simp at hm; subst hm; omega)
    rw [← her] at c1
    rw [← ho] at hw
    simp (maxSteps := 1000000) (disch := omega) only [h0, h1, lit_s, freshT_eq, c1, qabz, qajz, qalz, evOp, qaoz, qaqz, qarz, qatz, qavz,
 ↓reduceIte, Nat.reduceEqDiff, List.map_cons, List.map_nil, Option.map_some, qcjz, List.getElem?_cons_zero, List.getElem?_cons_succ, true_and, and_true, reduceCtorEq, exists_eq_left']
    exact ⟨hw, hwt⟩
  clear h0 h1 S
  rintro e S ⟨⟨w, h5, hw, hwt⟩, h0, h1, h6⟩
  by_cases hz : ¬ er = 0
  · have hoe : o = [] := by rw [ho]; exact strip_fail (by rw [← her]; exact hz)
    have e1 : ((o.length : Nat) : Int) = 0 := by rw [hoe]; rfl
    simp (maxSteps := 1000000) (disch := omega) only [h5, h6, hz, len_by hw, e1, alive25, qaaz, qabz, qacz, qaiz, qajz, qakz, qalz, qamz, qanz, evOp, qaoz, qapz, qaqz, qarz, qatz, qavz,
 ↓reduceIte, Nat.reduceEqDiff, List.map_nil, Option.map_some, qazz, qbaz, qbhz, qbtz, qbuz, beq_true, decide_true, ne_eq, not_false_eq_true]
    exact fin _ _ rfl
  replace hz : er = 0 := Decidable.not_not.1 hz
  have hst : stripM l [n] = (o, 0) := by rw [ho, ← hz, her]
  obtain ⟨okl, oko, hfo, hco, hdo, hbo, hag, hol⟩ := strip_good hst
  clear ho her
  have hlc : (parseOf l).2.2.2 = 0 := by simpa [okS] using okl
  have hle := parse_end hlc
  have hoe := parse_end hco
  have hdl : l.drop (parseOf l).2.1 = bodS l := by unfold bodS; rw [if_pos okl]
  refine W_cut (fun E S => w.tokLt S.toks.length = true ∧ E 0 = x ∧ E 1 = .str n ∧ E 5 = w) ?_ ?_
  · simp (maxSteps := 1000000) (disch := omega) only [h0, h1, h5, h6, eq_true hz, qaaz, qabz, qacz, qaez, qajz, qalz, evOp, qaoz, qapz, qarz, qatz, qavz,
 ↓reduceIte, Nat.reduceEqDiff, Option.map_some, qazz, qbhz, qbuz, decide_false,
 Bool.false_eq_true, true_and, and_true, reduceCtorEq, ne_eq, not_true_eq_false]
    exact hwt
  clear h0 h1 h5 h6 hwt S
  rintro e S ⟨hwt, h0, h1, h5⟩
  obtain ⟨n1, hn1⟩ : ∃ k, k = (parseOf l).2.1 := ⟨_, rfl⟩
  obtain ⟨n2, hn2⟩ : ∃ k, k = (parseOf o).2.1 := ⟨_, rfl⟩
  rw [← hn1] at hle hdl
  rw [← hn2] at hoe hdo
  obtain ⟨b9, hb9⟩ : ∃ b, b = S.boxes.length := ⟨_, rfl⟩
  refine W_cut (fun E S => (∃ V a, V.vs 2 = some ((fldS l).map fV) ∧ At S b9 [.int .i64 a, .int .i64 0] ∧ E 7 = V) ∧ w.tokLt S.toks.length = true ∧ E 0 = x ∧ E 1 = .str n ∧ E 5 = w ∧ E 8 = .int .i64 (n1 : Int) ∧ E 9 = .ptr b9 0) ?_ ?_
  · obtain ⟨V, S1, c1, hv, hg⟩ := parseH (st := S) hx (by omega) (tokLt_mono hxt (by omega))
    rw [← hn1, hlc] at c1
    obtain ⟨S2, a1, a2, -, a4⟩ := box2 (S := S1) (a := (parseOf l).2.2.1) (c := 0)
    rw [hg.bx, ← hb9] at a1 a2
    have hbb : S1.boxes.length = b9 := by rw [hg.bx, hb9]
    simp (maxSteps := 1000000) (disch := omega) only [h0, h1, h5, c1, allocPV, hg.bx, ← hb9, a1, qabz, qajz, qalz, evOp, qaoz, qaqz, qarz, qatz, qauz, qavz,
 ↓reduceIte, Nat.reduceEqDiff, List.map_cons, List.map_nil, Option.map_some, qcjz, List.getElem?_cons_zero, List.getElem?_cons_succ, true_and, and_true, reduceCtorEq]
    exact ⟨⟨V, _, hv, a2, rfl⟩, tokLt_mono hwt (by rw [a4]; exact hg.tl)⟩
  clear h0 h1 h5 hwt hb9 S
  rintro e S ⟨⟨V, fa, hV, hA9, h7⟩, hwt, h0, h1, h5, h8, h9⟩
  obtain ⟨bc, hbc⟩ : ∃ b, b = S.boxes.length := ⟨_, rfl⟩
  refine W_cut (fun E S => (∃ U a, U.vs 2 = some ((fldS o).map fV) ∧ At S bc [.int .i64 a, .int .i64 0] ∧ E 10 = U) ∧ At S b9 [.int .i64 fa, .int .i64 0] ∧ w.tokLt S.toks.length = true ∧ E 0 = x ∧ E 1 = .str n ∧ E 5 = w ∧ E 7 = V ∧ E 8 = .int .i64 (n1 : Int) ∧ E 9 = .ptr b9 0 ∧ E 11 = .int .i64 (n2 : Int) ∧ E 12 = .ptr bc 0) ?_ ?_
  · obtain ⟨U, S1, c1, hv, hg⟩ := parseH (st := S) hw (by omega) hwt
    rw [← hn2, hco] at c1
    obtain ⟨S2, a1, a2, a3, a4⟩ := box2 (S := S1) (a := (parseOf o).2.2.1) (c := 0)
    rw [hg.bx, ← hbc] at a1 a2
    simp (maxSteps := 1000000) (disch := omega) only [h0, h1, h5, h7, h8, h9, c1, allocPV, hg.bx, ← hbc, a1, qabz, qajz, qalz, evOp, qaoz, qaqz, qarz, qatz, qauz, qavz,
 ↓reduceIte, Nat.reduceEqDiff, List.map_cons, List.map_nil, Option.map_some, qcjz, List.getElem?_cons_zero, List.getElem?_cons_succ, true_and, and_true, reduceCtorEq]
    exact ⟨⟨U, _, hv, a2, rfl⟩, a3 _ _ (hg.at hA9), tokLt_mono hwt (by rw [a4]; exact hg.tl)⟩
  clear h0 h1 h5 h7 h8 h9 hwt hbc hA9 S
  rintro e S ⟨⟨U, fb, hU, hAc, h10⟩, hA9, hwt, h0, h1, h5, h7, h8, h9, h11, h12⟩
  have hVl := len_vs hV
  have hUl := len_vs hU
  rw [List.length_map] at hVl hUl
  obtain ⟨f1, f2, f3⟩ := fldS_ok (l := l)
  obtain ⟨g1, g2, g3⟩ := fldS_ok (l := o)
  refine W_cut (fun E S => w.tokLt S.toks.length = true ∧ E 1 = .str n ∧ E 5 = w ∧ E 7 = V ∧ E 10 = U) ?_ ?_
  · have s1 := slc_lo (k := .i64) (c := (n1 : Int)) hx (by omega) (by omega)
    have s2 := slc_lo (k := .i64) (c := (n2 : Int)) hw (by omega) (by omega)
    rw [Int.toNat_natCast] at s1 s2
    have y1 : (x.dropB n1).by = some (bodS l) := by rw [← hdl]; exact dropB_by hx
    have y2 : (w.dropB n2).by = some (bodS l) := by rw [← hdo]; exact dropB_by hw
    have l9 := hA9.load (k := 1) rfl
    have lc := hAc.load (k := 1) rfl
    simp (maxSteps := 1000000) (disch := omega) only [h0, h1, h5, h7, h8, h9, h10, h11, h12, faP, Nat.zero_add, l9, lc, s1, s2, b2s_by y1, b2s_by y2, qaaz, qabz, qacz, qaez, qajz, qakz, qalz, qamz, qanz, evOp, qaoz, qapz, qarz, qatz, qavz,
 ↓reduceIte, Nat.reduceEqDiff, Option.map_some, Option.map_none, qazz, qbhz, qbuz, qccz, beq_false, decide_false,
 Bool.false_eq_true, true_and, and_true, reduceCtorEq, Bool.not_false, ne_eq, not_true_eq_false]
    exact hwt
  clear h0 h1 h5 h7 h8 h9 h10 h11 h12 hwt hA9 hAc S
  rintro e S ⟨hwt, h1, h5, h7, h10⟩
  refine W_cut (fun E S => w.tokLt S.toks.length = true ∧ E 1 = .str n ∧ E 5 = w ∧ E 7 = V ∧ E 10 = U ∧ E 13 = .int .i64 0) ?_ ?_
  · simp (maxSteps := 1000000) (disch := omega) only [h1, h5, h7, h10, qabz, qajz, qalz, evOp, qapz, qarz, qatz, qavz,
 ↓reduceIte, Nat.reduceEqDiff, true_and, and_true]
    exact hwt
  clear h1 h5 h7 h10 hwt S
  rintro e S ⟨hwt, h1, h5, h7, h10, h13⟩
  obtain ⟨fs, hfs⟩ : ∃ fs, fs = fldS l := ⟨_, rfl⟩
  rw [← hfs] at hV hVl f1 f2 f3 hfo
  rw [hfo] at hU hUl g1
  refine W_cut (fun E S => w.tokLt S.toks.length = true ∧ E 1 = .str n ∧ E 5 = w ∧ E 10 = U ∧ E 13 = .int .i64 ((outN [n] fs).length : Int)) ?_ ?_
  · simp (maxSteps := 1000000) (disch := omega) only [qaaz, qabz, qadz, qajz, qalz, evOp, qapz, qarz, qatz, qazz]
    obtain ⟨I, hI⟩ : ∃ I : Nat → Env → St → Prop, I = fun k E S' => ∃ (i : Nat), k = fs.length - i ∧ i ≤ fs.length ∧ S' = S ∧ E 1 = .str n ∧ E 5 = w ∧ E 7 = V ∧ E 10 = U ∧ E 13 = .int .i64 ((outN [n] (fs.take i)).length : Int) ∧ E 14 = .int .i64 (i : Int) := ⟨_, rfl⟩
    refine W_loop I ?_ (n := fs.length) (by
      rw [hI]; exact ⟨0, rfl, by omega, rfl, h1, h5, h7, h10, h13, rfl⟩)
    clear h1 h5 h7 h10 h13
    intro k E S' hh
    rw [hI] at hh
    obtain ⟨i, rfl, hi, rfl, h1, h5, h7, h10, h13, h14⟩ := hh
    by_cases hlt : i < fs.length
    · obtain ⟨f, hfe⟩ : ∃ f, f = fs.getD i ([], []) := ⟨_, rfl⟩
      have hfm : f ∈ fs := by rw [hfe]; exact getD_mem hlt
      have hia := iaddr_f (k := .i64) (c := (i : Int)) hV (by omega) (by rw [Int.toNat_natCast]; exact hlt)
      rw [Int.toNat_natCast, ← hfe] at hia
      have hdr : fs.drop i = f :: fs.drop (i + 1) := by
        rw [List.drop_eq_getElem_cons hlt, hfe]; simp [List.getD, hlt]
      have htk : fs.take (i + 1) = fs.take i ++ [f] := by rw [take_snoc (d := ([], [])) hlt, ← hfe]
      have hsm := fun S : St => Same_spec (st := S) (a := f.1) (b := n) (by have := (f3 f hfm).1; omega) (by omega)
      have hle' : (outN [n] (fs.take i)).length ≤ i := Nat.le_trans outN_sub.1 (by simp; omega)
      have hfl : faddrPV 0 (.cp [.str f.1, .str f.2]) = some (.cp [.str f.1, .str f.2]) := rfl
      by_cases hsn : lowOf f.1 = lowOf n
      · have hsucc : outN [n] (fs.take (i + 1)) = outN [n] (fs.take i) := by
          rw [htk]; unfold outN; rw [List.filter_append]; simp [inN1, hsn]
        rw [decide_eq_true hsn] at hsm
        simp (maxSteps := 1000000) (disch := omega) only [h1, h7, h14, hVl, hlt, hia, hfl, ldp0, hsm, add_n, loopQ_normal, qaaz, qabz, qacz, qadz, qaez, qagz, qajz, qalz, evOp, qaoz, qapz, qaqz, qarz, qatz, qavz,
 ↓reduceIte, Nat.reduceEqDiff, List.map_cons, List.map_nil, Option.map_some, qazz, qbbz, qbfz, qbhz, qbpz, decide_true, Int.ofNat_lt, Int.reduceToNat]
        refine ⟨fs.length - (i + 1), by omega, ?_⟩
        rw [hI]
        exact ⟨i + 1, rfl, by omega, rfl, h1, h5, h7, h10, by rw [hsucc]; exact h13, rfl⟩
      · have hsucc : outN [n] (fs.take (i + 1)) = outN [n] (fs.take i) ++ [f] := by
          rw [htk]; unfold outN; rw [List.filter_append]; simp [inN1, hsn]
        rw [decide_eq_false hsn] at hsm
        have hall : outN [n] fs = outN [n] (fs.take i) ++ f :: outN [n] (fs.drop (i + 1)) := by
          conv => lhs; rw [← List.take_append_drop i fs, hdr]
          unfold outN; rw [List.filter_append, List.filter_cons]; simp [inN1, hsn]
        have hj : (outN [n] (fs.take i)).length < (outN [n] fs).length := by rw [hall]; simp
        have hj' : ¬ (((outN [n] fs).length : Nat) : Int) ≤ ((outN [n] (fs.take i)).length : Int) := by omega
        have hgj : (outN [n] fs).getD (outN [n] (fs.take i)).length ([], []) = f := by rw [hall]; simp [List.getD]
        have hib := iaddr_f (k := .i64) (c := ((outN [n] (fs.take i)).length : Int)) hU (by omega) (by rw [Int.toNat_natCast]; exact hj)
        rw [Int.toNat_natCast, hgj] at hib
        have hj2 : ¬ (outN [n] fs).length ≤ (outN [n] (fs.take i)).length := by omega
        simp (maxSteps := 1000000) (disch := omega) only [h1, h7, h10, h13, h14, hVl, hUl, hlt, hia, hib, hj2, hfl, ldp0, ldp2, eqs_refl, hsm, add_n, loopQ_normal, qaaz, qabz, qacz, qadz, qaez, qajz, qakz, qalz, qamz, qanz, evOp, qaoz, qapz, qaqz, qarz, qatz, qavz,
 ↓reduceIte, Nat.reduceEqDiff, List.map_cons, List.map_nil, Option.map_some, qazz, qbdz, qbhz, qbpz, qbsz, beq_false, decide_true, decide_false,
 Int.ofNat_lt, Int.ofNat_le, Bool.false_eq_true, Int.reduceToNat, Bool.not_false]
        refine ⟨fs.length - (i + 1), by omega, ?_⟩
        rw [hI]
        exact ⟨i + 1, rfl, by omega, rfl, h1, h5, h7, h10, (by rw [hsucc, List.length_append]; rfl), rfl⟩
    · obtain rfl : i = fs.length := by omega
      rw [List.take_length] at h13
      simp (maxSteps := 1000000) (disch := omega) only [h1, h5, h7, h10, h13, h14, hVl, hlt, qaaz, qabz, qacz, qagz, qajz, qalz, evOp, qaoz, qarz, qatz, qavz,
 ↓reduceIte, Nat.reduceEqDiff, Option.map_some, qazz, qbbz, qbfz, qbhz, qbjz, qbpz, decide_false,
 Int.ofNat_lt, Bool.false_eq_true, true_and, and_true]
      exact hwt
  clear h1 h5 h7 h10 h13 hwt S
  rintro e S ⟨hwt, h1, h5, h10, h13⟩
  refine W_cut (fun E S => (∃ z, z.by = some o ∧ E 15 = z) ∧ E 5 = w ∧ E 10 = U ∧ E 13 = .int .i64 ((outN [n] fs).length : Int) ∧ E 16 = .int .i64 0) ?_ ?_
  · obtain ⟨⟨_, S1⟩, c1, hg1, z, rfl, hz, hzt⟩ := tStrip_spec (st := S.tok1) (nm := .sl 1 (.own S.toks.length) [.str n]) (ns := [n]) hw (by omega) (tokLt_mono hwt Gr.tok1.tl) (by simp [PV.vs]) (by simp) (fun m hm => by simp at hm; subst hm; omega)
    rw [hag] at c1 hz
    simp (maxSteps := 1000000) (disch := omega) only [h1, h5, h10, h13, lit_s, freshT_eq, c1, qabz, qajz, qalz, evOp, qaoz, qaqz, qarz, qatz, qavz,
 ↓reduceIte, Nat.reduceEqDiff, List.map_cons, List.map_nil, Option.map_some, qcjz, List.getElem?_cons_zero, List.getElem?_cons_succ, true_and, and_true]
    exact ⟨z, hz, rfl⟩
  clear h1 h5 h10 h13 hwt S
  rintro e S ⟨⟨z, hz', h15⟩, h5, h10, h13, h16⟩
  simp (maxSteps := 1000000) (disch := omega) only [h5, h10, h13, h15, h16, hUl, b2s_by hz', b2s_by hw, alive25, qaaz, qabz, qaiz, qajz, qakz, qalz, qamz, qanz, evOp, qaoz, qapz, qaqz, qarz, qatz, qavz,
 ↓reduceIte, Nat.reduceEqDiff, List.map_nil, Option.map_some, qazz, qbtz, qcbz, beq_true, decide_true]
  exact fin _ _ rfl
end Go.Ab
/-
  The library's searches as primitives, out of the shelf's contracts.
-/
namespace Go.Ab
open Go.Shelf Go.Proofs
variable {P : Program} {g : GMap} {ρ : Go.Shelf.Ren}

def numsOf (a : List UInt8) : List Int := a.map fun b => (b.toNat : Int)
theorem bytesOf_nums (a : List UInt8) : Lib.bytesOf (numsOf a) = a := by
  simp [Lib.bytesOf, numsOf, Function.comp_def]
theorem nums_range (a : List UInt8) : ∀ x ∈ numsOf a, 0 ≤ x ∧ x < 256 := by
  intro x hx
  simp only [numsOf, List.mem_map] at hx
  obtain ⟨b, _, rfl⟩ := hx
  have := b.toNat_lt
  omega
theorem nums_getD (a : List UInt8) {i : Nat} (h : i < a.length) : (numsOf a).getD i 0 = ((a[i]).toNat : Int) := by
  simp [numsOf, List.getD, h]

theorem cells_of {κ : K} {w : World} (hC : ∀ b i u, κ.C b i = some u → w.cell? ⟨b, i, none⟩ = some u) {blk off : Nat} {a : List UInt8} (hb : ∀ (i : Nat) (b : UInt8), a[i]? = some b → κ.C blk (off + i) = some (.int .u8 b.toNat)) :
    ∀ i, i < a.length → w.cell? ((⟨blk, off, none⟩ : Addr).add i) = some (.int .u8 ((numsOf a).getD i 0)) := by
  intro i hi
  rw [add_eq, nums_getD a hi]
  exact hC _ _ _ (hb i _ (by simp [hi]))

theorem primIndex (L : Lays.n185 P ρ) (hm : ∀ κ, g.inv κ → ∃ m, κ.C (ρ.g 1) 0 = some (.int .i64 m)) {pf : Func} (hpf : P.funcs[ρ.f 185]? = some pf) (hb : pf.body.isSome = true) (hn : pf.name ≠ "runtime.NumGoroutine") : PrimOK P g (ρ.f 185) pBytesIndex := by
  refine prim_of_calls hpf hb hn (fun κ w args ps v hi hC hsz hargs hp => ?_)
  obtain ⟨m, hm⟩ := hm κ hi
  have hmc := hC _ _ _ hm
  match ps, hp with
  | [x, y], hp =>
    simp only [pBytesIndex] at hp
    cases hx : x.by with
    | none => simp [hx] at hp
    | some a =>
      cases hy : y.by with
      | none => simp [hx, hy] at hp
      | some b =>
        simp only [hx, hy] at hp
        split at hp
        · rename_i hlen
          cases hp
          obtain ⟨u1, u2, rfl⟩ : ∃ u1 u2, args = #[u1, u2] := by
            obtain ⟨l⟩ := args
            match l, hsz with
            | [u1, u2], _ => exact ⟨u1, u2, rfl⟩
          have r1 := hargs 0 u1 x rfl rfl
          have r2 := hargs 1 u2 y rfl rfl
          have post : ∀ (n : Int), n = Lib.index a b → ∀ (e : Ending) (w' : World), (e = .returned (.int .i64 n) ∧ ∃ q, w' = w.drewN q) → ∃ z, e = .returned z ∧ (∀ κ', R g κ' z (.int .i64 (Lib.index a b))) ∧ w'.heap = w.heap ∧ w'.os = w.os ∧ w'.tape = w.tape ∧ w'.output = w.output := by
            rintro n rfl e w' ⟨rfl, q, rfl⟩
            exact ⟨_, rfl, fun κ' => .int .i64 _ (by decide), rfl, rfl, rfl, rfl⟩
          have post0 : ∀ (n : Int), n = Lib.index a b → ∀ (e : Ending) (w' : World), (e = .returned (.int .i64 n) ∧ w' = w) → ∃ z, e = .returned z ∧ (∀ κ', R g κ' z (.int .i64 (Lib.index a b))) ∧ w'.heap = w.heap ∧ w'.os = w.os ∧ w'.tape = w.tape ∧ w'.output = w.output := by
            rintro n rfl e w' ⟨rfl, rfl⟩
            exact ⟨_, rfl, fun κ' => .int .i64 _ (by decide), rfl, rfl, rfl, rfl⟩
          rcases by_cases' hx with ⟨rfl, rfl⟩ | ⟨t, rfl⟩
          · cases r1
            rcases by_cases' hy with ⟨rfl, rfl⟩ | ⟨t2, rfl⟩
            · cases r2
              exact (Any.bytes_Index_none L none none 0 0 0 w).mono (post0 0 (by simp [Lib.index]))
            · cases r2 with
              | bys blk off n c _ _ h1 h2 h3 h4 _ =>
                subst h1
                refine (Any.bytes_Index_nil L (some ⟨blk, off, none⟩) b.length c w (by omega) (fun h1 => ?_)).mono (post0 _ ?_)
                · have := cells_of hC h3 0 (by omega)
                  rw [add_eq] at this
                  exact ⟨blk, off, _, rfl, this⟩
                · cases b <;> simp [Lib.index]
          · cases r1 with
            | bys blk off n c _ _ h1 h2 h3 h4 _ =>
              subst h1
              rcases by_cases' hy with ⟨rfl, rfl⟩ | ⟨t2, rfl⟩
              · cases r2
                exact (Any.bytes_Index_none L (some ⟨blk, off, none⟩) none a.length c 0 w).mono (post0 0 (Lib.index_empty a).symm)
              · cases r2 with
                | bys blk2 off2 n2 c2 _ _ k1 k2 k3 k4 _ =>
                  subst k1
                  refine (Any.bytes_Index_at L ⟨blk, off, none⟩ ⟨blk2, off2, none⟩ a.length c b.length c2 (numsOf a) (numsOf b) m w (by simp [numsOf]) (by simp [numsOf]) (nums_range a) (nums_range b) (cells_of hC h3) (cells_of hC k3) h2 hlen.1 (by omega) hmc).mono (post _ ?_)
                  rw [bytesOf_nums, bytesOf_nums]
        · cases hp
  | [], hp => simp [pBytesIndex] at hp
  | [_], hp => simp [pBytesIndex] at hp
  | _ :: _ :: _ :: _, hp => simp [pBytesIndex] at hp
end Go.Ab
/-
  A Builder's text: the walk of the library's function, its end said whole (after the shelf's own proof).
-/
namespace Go.Proofs
open Go.Shelf Go.RowKit
variable {P : Program} {ρ : Ren}

set_option maxHeartbeats 2000000 in
set_option maxRecDepth 100000 in
theorem bstring_walk (L : Lays.n169 P ρ) (X : Builder.Extra P ρ) (b g cap cells : Nat) (l : List UInt8) (w : World) (h0 : l ≠ []) (hcap : l.length ≤ cap) (hcc : l.length ≤ cells) (hmax : l.length ≤ 9223372036854775807)
    (hb : w.cell? ⟨b, 1, none⟩ = some (.slice (some ⟨g, 0, none⟩) l.length cap)) (hsh : w.shape? g = some (ρ.t 5, cells)) (hcell : ∀ j x, l[j]? = some x → w.cell? ⟨g, j, none⟩ = some (.int .u8 x.toNat)) :
    Calls P (ρ.f 169) #[.pointer (some ⟨b, 0, none⟩)] w fun e w' => e = .returned (.string ⟨l.toArray⟩) ∧ w' = w.drew.freeze ⟨g, 0, none⟩ l.length := by
  have hl0 : l.length ≠ 0 := by simpa using h0
  have c1 : w.drew.cell? ⟨b, 1, none⟩ = some (.slice (some ⟨g, 0, none⟩) l.length cap) := hb
  have hSD : (Builtin.unsafeSliceData_ #[(ρ.t 37)] (ρ.t 127) #[.slice (some ⟨g, 0, none⟩) l.length cap]).run P w.drew = .ok (.pointer (some ⟨g, 0, none⟩)) w.drew :=
    Lib.run_unsafeSliceData_row _ _ _ _ _ _ (by omega)
  have hUS : (Builtin.unsafeString_ #[(ρ.t 127), (ρ.t 3)] (ρ.t 9) #[.pointer (some ⟨g, 0, none⟩), .int .i64 l.length]).run P w.drew = .ok (.string ⟨l.toArray⟩) (w.drew.freeze ⟨g, 0, none⟩ l.length) := by
    refine Lib.run_unsafeString_row w.drew (ρ.t 127) (ρ.t 3) (ρ.t 9) (ρ.t 5) L.t127 X.cellsByte g cells hsh l h0 hcc hmax ?_
    intro j x hx
    have := hcell j x hx
    simp only [Addr.add]
    split
    · rename_i h; subst h; exact this
    · simpa using this
  clear hcell hsh hb
  have mixed := L.mixed
  have t72 := L.t72; have a72 := L.a72; have z72 := L.z72; have v72 := L.v72; have u72 := run_underlying L.t72
  have t70 := L.t70; have a70 := L.a70; have z70 := L.z70; have v70 := L.v70; have u70 := run_underlying L.t70
  have t37 := L.t37; have a37 := L.a37; have z37 := L.z37; have v37 := L.v37; have u37 := run_underlying L.t37
  have t127 := L.t127; have a127 := L.a127; have z127 := L.z127; have v127 := L.v127; have u127 := run_underlying L.t127
  have t3 := L.t3; have a3 := L.a3; have z3 := L.z3; have v3 := L.v3; have u3 := run_underlying L.t3
  have t9 := L.t9; have a9 := L.a9; have z9 := L.z9; have v9 := L.v9; have u9 := run_underlying L.t9
  have t5 := X.t5; have a5 := X.a5; have z5 := X.z5; have v5 := X.v5; have u5 := run_underlying X.t5
  go_enter L.f169, Body.n169_ntmps ρ
  go_wp2
  go_region_o
  all_goals (go_wp2; go_ret; exact ⟨rfl, rfl⟩)

set_option maxHeartbeats 2000000 in
set_option maxRecDepth 100000 in
theorem bstring_nil (L : Lays.n169 P ρ) (X : Builder.Extra P ρ) (b : Nat) (w : World) (hb : w.cell? ⟨b, 1, none⟩ = some (.slice none 0 0)) :
    Calls P (ρ.f 169) #[.pointer (some ⟨b, 0, none⟩)] w fun e w' => e = .returned (.string ⟨#[]⟩) ∧ w' = w.drew := by
  have hUS := Any.unsafeString_none L X
  have hSD : (Builtin.unsafeSliceData_ #[(ρ.t 37)] (ρ.t 127) #[.slice none 0 0]).run P w.drew = .ok (.pointer none) w.drew := rfl
  have c1 : w.drew.cell? ⟨b, 1, none⟩ = some (.slice none 0 0) := hb
  have mixed := L.mixed
  have t72 := L.t72; have a72 := L.a72; have z72 := L.z72; have v72 := L.v72; have u72 := run_underlying L.t72
  have t70 := L.t70; have a70 := L.a70; have z70 := L.z70; have v70 := L.v70; have u70 := run_underlying L.t70
  have t37 := L.t37; have a37 := L.a37; have z37 := L.z37; have v37 := L.v37; have u37 := run_underlying L.t37
  have t127 := L.t127; have a127 := L.a127; have z127 := L.z127; have v127 := L.v127; have u127 := run_underlying L.t127
  have t3 := L.t3; have a3 := L.a3; have z3 := L.z3; have v3 := L.v3; have u3 := run_underlying L.t3
  have t9 := L.t9; have a9 := L.a9; have z9 := L.z9; have v9 := L.v9; have u9 := run_underlying L.t9
  have t5 := X.t5; have a5 := X.a5; have z5 := X.z5; have v5 := X.v5; have u5 := run_underlying X.t5
  go_enter L.f169, Body.n169_ntmps ρ
  go_wp2
  go_region_o
  all_goals (go_wp2; go_ret; exact ⟨rfl, rfl⟩)

structure CCLay (P : Program) (ρ : Ren) : Prop where
  mixed : P.follows .mixedOrders = true
  f240 : P.funcs[ρ.f 240]? = some (Body.n240 ρ)
  f276 : P.funcs[ρ.f 276]? = some (Body.n276 ρ)
  t4 : P.underlying (ρ.t 4) = some (TypeDesc.bool)
  a4 : ∀ w, (isAgg (ρ.t 4)).run P w = .ok false w
  z4 : ∀ w, (Go.sizeOf (ρ.t 4)).run P w = .ok 1 w
  v4 : ∀ w, (zeroValue (ρ.t 4)).run P w = .ok (Value.bool false) w
  t70 : P.underlying (ρ.t 70) = some (TypeDesc.pointer (ρ.t 72))
  a70 : ∀ w, (isAgg (ρ.t 70)).run P w = .ok false w
  z70 : ∀ w, (Go.sizeOf (ρ.t 70)).run P w = .ok 1 w
  v70 : ∀ w, (zeroValue (ρ.t 70)).run P w = .ok (Value.pointer none) w
  t72 : P.underlying (ρ.t 72) = some (TypeDesc.struct #[{ name := "addr", type := ρ.t 70, offset := 0, embedded := false, tag := "", pkgPath := "strings", byteOffset := 0 }, { name := "buf", type := ρ.t 37, offset := 1, embedded := false, tag := "", pkgPath := "strings", byteOffset := 8 }])
  a72 : ∀ w, (isAgg (ρ.t 72)).run P w = .ok true w
  z72 : ∀ w, (Go.sizeOf (ρ.t 72)).run P w = .ok 2 w
  v72 : ∀ w, (zeroValue (ρ.t 72)).run P w = .ok (Value.agg #[Value.pointer none, Value.slice none 0 0]) w
  t164 : P.underlying (ρ.t 164) = some (TypeDesc.unsafePointer)
  a164 : ∀ w, (isAgg (ρ.t 164)).run P w = .ok false w
  z164 : ∀ w, (Go.sizeOf (ρ.t 164)).run P w = .ok 1 w
  v164 : ∀ w, (zeroValue (ρ.t 164)).run P w = .ok (Value.pointer none) w

set_option maxHeartbeats 1000000 in
set_option maxRecDepth 100000 in
theorem cc_used (L : CCLay P ρ) (X : Builder.X72 P ρ) (b : Nat) (w : World) (h0 : w.cell? ⟨b, 0, none⟩ = some (.pointer (some ⟨b, 0, none⟩))) :
    Calls P (ρ.f 240) #[.pointer (some ⟨b, 0, none⟩)] w fun e w' => e = .returned (.tuple #[]) ∧ w' = w := by
  obtain ⟨j, hj, _⟩ := Option.map_eq_some_iff.1 X.sizeBuilder
  have mixed := L.mixed
  have t72 := L.t72; have a72 := L.a72; have z72 := L.z72; have v72 := L.v72; have u72 := run_underlying L.t72
  have t70 := L.t70; have a70 := L.a70; have z70 := L.z70; have v70 := L.v70; have u70 := run_underlying L.t70
  have t4 := L.t4; have a4 := L.a4; have z4 := L.z4; have v4 := L.v4; have u4 := run_underlying L.t4
  have t164 := L.t164; have a164 := L.a164; have z164 := L.z164; have v164 := L.v164; have u164 := run_underlying L.t164
  go_enter L.f240, Body.n240_ntmps ρ
  go_wp2
  rw [Lib.run_neq_ptr_same w _ L.t70 hj]
  go_wp2
  go_end0
  exact ⟨rfl, rfl⟩

set_option maxHeartbeats 1000000 in
set_option maxRecDepth 100000 in
theorem cc_fresh (L : CCLay P ρ) (X : Builder.X72 P ρ) (b : Nat) (w : World) (h0 : w.cell? ⟨b, 0, none⟩ = some (.pointer none)) (hsh : w.shape? b = some ((ρ.t 72), 2)) (hfz : w.frozen? ⟨b, 0, none⟩ = false) :
    Calls P (ρ.f 240) #[.pointer (some ⟨b, 0, none⟩)] w fun e w' => e = .returned (.tuple #[]) ∧ w' = w.setCell ⟨b, 0, none⟩ (.pointer (some ⟨b, 0, none⟩)) := by
  obtain ⟨j, hj, hjs⟩ := Option.map_eq_some_iff.1 X.sizeBuilder
  have mixed := L.mixed
  have t72 := L.t72; have a72 := L.a72; have z72 := L.z72; have v72 := L.v72; have u72 := run_underlying L.t72
  have t70 := L.t70; have a70 := L.a70; have z70 := L.z70; have v70 := L.v70; have u70 := run_underlying L.t70
  have t4 := L.t4; have a4 := L.a4; have z4 := L.z4; have v4 := L.v4; have u4 := run_underlying L.t4
  have t164 := L.t164; have a164 := L.a164; have z164 := L.z164; have v164 := L.v164; have u164 := run_underlying L.t164
  go_enter L.f240, Body.n240_ntmps ρ
  go_wp2
  rw [Lib.run_to_unsafe w ⟨b, 0, none⟩ L.t70 L.t164 hj (by rw [hjs]; decide) hsh (Nat.zero_lt_succ 1)]
  simp only [Result.andThen]
  rw [Oper.upon_value]
  go_wp2
  rw [run_callFunc_extern L.f276 (by kernel_rfl) (by kernel_rfl) (by kernel_rfl) (e := Extern.AbiNoEscape.same) (by kernel_rfl)]
  rw [Lib.run_noEscape]
  simp only [Result.andThen]
  rw [Oper.upon_value]
  go_wp2
  rw [Lib.run_from_unsafe w ⟨b, 0, none⟩ L.t164 L.t70 hj hsh X.liesBuilder]
  simp only [Result.andThen]
  rw [Oper.upon_value]
  go_wp2
  go_end0
  exact ⟨rfl, rfl⟩
end Go.Proofs
/-
  The library's functions on texts as primitives, out of the shelf's contracts.
-/
namespace Go.Ab
open Go.Shelf Go.Proofs
variable {P : Program} {g : GMap} {ρ : Go.Shelf.Ren}

theorem primStrIndex (L : Lays.n219 P ρ) (hm : ∀ κ, g.inv κ → ∃ m, κ.C (ρ.g 1) 0 = some (.int .i64 m)) {pf : Func} (hpf : P.funcs[ρ.f 219]? = some pf) (hb : pf.body.isSome = true) (hn : pf.name ≠ "runtime.NumGoroutine") : PrimOK P g (ρ.f 219) pStrIndex := by
  refine prim_of_calls hpf hb hn (fun κ w args ps v hi hC hsz hargs hp => ?_)
  obtain ⟨m, hm⟩ := hm κ hi
  have hmc := hC _ _ _ hm
  unfold pStrIndex at hp
  split at hp
  · rename_i a b
    split at hp
    · rename_i hlen
      cases hp
      obtain ⟨u1, u2, rfl⟩ : ∃ u1 u2, args = #[u1, u2] := by
        obtain ⟨l⟩ := args
        match l, hsz with
        | [u1, u2], _ => exact ⟨u1, u2, rfl⟩
      have r1 := hargs 0 u1 _ rfl rfl
      have r2 := hargs 1 u2 _ rfl rfl
      cases r1 with | str sa _ ha => cases r2 with | str sb _ hb =>
      refine (Any.stringslite_Index L sa sb m w (by rw [← ha] at hlen; simpa using hlen) hmc).mono ?_
      rintro e w' ⟨rfl, rfl⟩
      exact ⟨_, rfl, fun κ' => by rw [ha, hb]; exact .int .i64 _ (by decide), rfl, rfl, rfl, rfl⟩
    · cases hp
  · cases hp

theorem primStrIndexByte (L : Lays.n137 P ρ) {pf : Func} (hpf : P.funcs[ρ.f 137]? = some pf) (hb : pf.body.isSome = true) (hn : pf.name ≠ "runtime.NumGoroutine") : PrimOK P g (ρ.f 137) pStrIndexByte := by
  refine prim_of_calls hpf hb hn (fun κ w args ps v hi hC hsz hargs hp => ?_)
  unfold pStrIndexByte at hp
  split at hp
  · rename_i a c
    cases hp
    obtain ⟨u1, u2, rfl⟩ : ∃ u1 u2, args = #[u1, u2] := by
      obtain ⟨l⟩ := args
      match l, hsz with
      | [u1, u2], _ => exact ⟨u1, u2, rfl⟩
    have r1 := hargs 0 u1 _ rfl rfl
    have r2 := hargs 1 u2 _ rfl rfl
    cases r1 with | str sa _ ha => cases r2 with | b8 _ n hn =>
    refine (Any.strings_IndexByte L sa n w).mono ?_
    rintro e w' ⟨rfl, rfl⟩
    refine ⟨_, rfl, fun κ' => ?_, rfl, rfl, rfl, rfl⟩
    have : n.toNat.toUInt8 = c := by rw [hn]; simp
    rw [ha, this]; exact .int .i64 _ (by decide)
  · cases hp

theorem primS_of_calls {f' : FuncId} {p : List PV → List (List PV) → Option (PV × Upd)} {pf : Func} (hpf : P.funcs[f']? = some pf) (hb : pf.body.isSome = true) (hn : pf.name ≠ "runtime.NumGoroutine")
    (h : ∀ (base : Nat) (κ : K) (w : World) (st : St) (args : Array Value) (ps : List PV) (v : PV) (u : Upd) (st' : St), SR P g base κ w st → args.size = ps.length → (∀ (i : Nat) (u : Value) (q : PV), args[i]? = some u → ps[i]? = some q → R g κ u q) → p ps st.boxes = some (v, u) → updS st u = some st' →
      Calls P f' args w fun e w' => ∃ z, e = .returned z ∧ R g κ z v ∧ SR P g base κ w' st' ∧ Fr base κ.lam w w') : PrimSOK P g f' p := by
  intro base κ w st args ps v u st' hsr hsz hargs hp hu F hF nn o a next Q hnext
  have hrun : (callFunc f' args).run P w = .ok (.enter f' args) w := by
    have hb2 : pf.body.isNone = false := by
      cases hbb : pf.body with
      | none => rw [hbb] at hb; cases hb
      | some c => rfl
    have hn2 : (pf.name == "runtime.NumGoroutine") = false := by simpa using hn
    unfold callFunc
    simp only [Sem.run_bind, Go.program, Sem.run, Result.andThen, hpf, hn2, hb2]
    rfl
  rw [hrun]
  refine ⟨hF.deep, callsIn_of_calls hF ?_⟩
  refine (h base κ w st args ps v u st' hsr hsz hargs hp hu).mono ?_
  rintro e w' ⟨z, rfl, hz, hs, hf⟩
  exact hnext κ z w' (K.le.refl κ) rfl hs hz hf

theorem setCell_eq {w : World} {blk off : Nat} {v : Value} {rs : Array Value} {el : TypeId} {fz : Nat × Nat} (hw : w.heap[blk]? = some (.cells rs el fz)) : w.setCell ⟨blk, off, none⟩ v = setBlk w blk (setA rs off [v]) el fz := by
  have hlt := (Array.getElem?_eq_some_iff.1 hw).1
  simp only [World.setCell, setBlk]
  congr 1
  apply Array.ext_getElem?
  intro j
  rw [Array.getElem?_modify]
  by_cases hj : blk = j
  · subst hj
    rw [if_pos rfl, hw]
    simp [hlt, setA]
  · rw [if_neg hj, Array.getElem?_setIfInBounds_ne hj]

theorem primCopyCheck (L : CCLay P ρ) (X : Builder.X72 P ρ) (htB : g.tB = ρ.t 72) {pf : Func} (hpf : P.funcs[ρ.f 240]? = some pf) (hb : pf.body.isSome = true) (hn : pf.name ≠ "runtime.NumGoroutine") : PrimSOK P g (ρ.f 240) pCopyCheck := by
  refine primS_of_calls hpf hb hn (fun base κ w st args ps v u st' hsr hsz hargs hp hu => ?_)
  unfold pCopyCheck at hp
  split at hp
  · rename_i bs b
    obtain ⟨u1, rfl⟩ : ∃ u1, args = #[u1] := by
      obtain ⟨l⟩ := args
      match l, hsz with
      | [u1], _ => exact ⟨u1, rfl⟩
    have r1 := hargs 0 u1 _ rfl rfl
    cases r1 with | ptr _ _ blk hφ hμ =>
    split at hp
    · -- fresh
      rename_i x hbx
      simp only [Option.some.injEq, Prod.mk.injEq] at hp
      obtain ⟨rfl, rfl⟩ := hp
      have hB := hsr.bx b blk _ hbx hφ hμ
      obtain ⟨rs, ⟨el, lo, hi, hw, hf⟩, hl, hr⟩ := hB.ex
      obtain ⟨v0, h0, hr0⟩ := hr 0 .bslot rfl
      cases hr0
      have hsh := hB.sb (by simp)
      rw [htB] at hsh
      have hc0 : w.cell? ⟨blk, 0, none⟩ = some (.pointer none) := by simp [World.cell?, hw, h0]
      have hrs : rs.size = 2 := by
        simp only [World.shape?, hw, Option.some.injEq, Prod.mk.injEq] at hsh; exact hsh.2
      have hfz : w.frozen? ⟨blk, 0, none⟩ = false := by
        simp only [World.frozen?, hw, Bool.and_eq_false_iff, decide_eq_false_iff_not]
        rcases hf with h | h
        · subst h; omega
        · left; omega
      refine (cc_fresh L X blk w hc0 hsh hfz).mono ?_
      rintro e w' ⟨rfl, rfl⟩
      -- the store's own law
      have hst : storePV st 1 (.ptr b 0) (.ptr b 0) = some st' := hu
      simp only [storePV, hbx] at hst
      split at hst
      · cases hst
        refine ⟨_, rfl, .tup #[] [] rfl rfl (fun i v p a => by simp at a), ?_, ?_⟩
        · rw [setCell_eq hw]
          have := hsr.setBox (rs' := setA rs 0 [.pointer (some ⟨blk, 0, none⟩)]) (cs' := setCells [.bslot, x] 0 [.ptr b 0]) (if hasTok [PV.ptr b 0] then min st.low b else st.low) hbx hφ hμ hw hf (setA_size _ _ _) (by rw [setCells_length]; exact hl) (fun i c hc => ?_) ?_ (fun c hc => ?_) (fun hm => ?_)
          · exact this (fun hz => by cases hz)
          · simp only [setCells, List.set_cons_zero] at hc
            match i with
            | 0 =>
              simp at hc; subst hc
              exact ⟨.pointer (some ⟨blk, 0, none⟩), by simp [setA, hrs], .ptr b 0 blk hφ hμ⟩
            | i + 1 =>
              have hc' : [PV.bslot, x][i + 1]? = some c := by simpa using hc
              obtain ⟨v1, h1, hr1⟩ := hr (i + 1) c hc'
              refine ⟨v1, ?_, hr1⟩
              simp [setA]; exact h1
          · have := hB.lf
            simp only [setCells, List.set_cons_zero, List.all_cons, leafB] at this ⊢
            simpa using this
          · simp only [setCells, List.set_cons_zero, List.mem_cons, List.not_mem_nil, or_false] at hc
            rcases hc with rfl | rfl
            · simp [PV.inB]
            · exact hB.lw _ (by simp)
          · simp
        · rw [setCell_eq hw]
          exact Fr.setBlk hw hB.ge
      · cases hst
    · -- used
      rename_i b' x hbx
      split at hp
      · rename_i hbb
        subst hbb
        simp only [Option.some.injEq, Prod.mk.injEq] at hp
        obtain ⟨rfl, rfl⟩ := hp
        simp only [updS, Option.some.injEq] at hu
        subst hu
        have hB := hsr.bx b' blk _ hbx hφ hμ
        obtain ⟨rs, ⟨el, lo, hi, hw, hf⟩, hl, hr⟩ := hB.ex
        obtain ⟨v0, h0, hr0⟩ := hr 0 _ rfl
        cases hr0 with | ptr _ _ blk' hφ' _ =>
        rw [hφ] at hφ'; cases hφ'
        have hc0 : w.cell? ⟨blk, 0, none⟩ = some (.pointer (some ⟨blk, 0, none⟩)) := by simp [World.cell?, hw, h0]
        refine (cc_used L X blk w hc0).mono ?_
        rintro e w' ⟨rfl, rfl⟩
        exact ⟨_, rfl, .tup #[] [] rfl rfl (fun i v p a => by simp at a), hsr, Fr.refl _ _⟩
      · cases hp
    · cases hp
  · cases hp


theorem SR.kill {base : Nat} {κ : K} {w w' : World} {st : St} (h : SR P g base κ w st) {i blk e ce : Nat} {rs : Array Value} {el : TypeId} {fz fz' : Nat × Nat} (hi : st.toks[i]? = some true) (hτ : κ.τ[i]? = some (blk, e, ce))
    (hw : w.heap[blk]? = some (.cells rs el fz)) (hw' : w'.heap = (setBlk w blk rs el fz').heap) : SR P g base κ w' { st with toks := st.toks.set i false } := by
  have hk := h.tk i blk e ce hi hτ
  suffices hs : SR P g base κ (setBlk w blk rs el fz') { st with toks := st.toks.set i false } from hs.heap hw'
  have hcell : ∀ b i, (setBlk w blk rs el fz').cell? ⟨b, i, none⟩ = w.cell? ⟨b, i, none⟩ := fun b i => by
    by_cases hb : b = blk
    · subst hb
      have hlt := (Array.getElem?_eq_some_iff.1 hw).1
      have h2 : (setBlk w b rs el fz').heap[b]? = some (.cells rs el fz') := by simp [setBlk, hlt]
      simp only [World.cell?]
      rw [h2, hw]
    · exact cell_setBlk_other hb
  have hobj : ∀ (k : Nat) (o : Obj), w.heap[k]? = some o → isCells o = false → (setBlk w blk rs el fz').heap[k]? = some o := fun k o ho hc => by
    rw [setBlk_other]
    · exact ho
    · rintro rfl; rw [hw] at ho; cases ho; simp [isCells] at hc
  have hset : ∀ j : Nat, (st.toks.set i false)[j]? = some true → st.toks[j]? = some true ∧ j ≠ i := fun j hj => by
    by_cases hji : j = i
    · subst hji
      rw [List.getElem?_set] at hj
      simp at hj
    · rw [List.getElem?_set_ne (fun h => hji h.symm)] at hj
      exact ⟨hj, hji⟩
  refine { cC := fun b i v hc => by rw [hcell]; exact h.cC b i v hc, sh := fun b t hb => (h.sh b t hb).imp fun n hn => (by rw [shape_setBlk hw rfl]; exact hn), bl := h.bl, bn := h.bn, mx := fun b k cs h1 h2 hm => (h.mx b k cs h1 h2 hm).setBlk hw, mz := h.mz, bx := fun b k cs h1 h2 hm => ?_, tl := by simp [h.tl], tk := fun j k e ce h1 h2 => ?_,
           td := fun a b ba ea ca bb eb cb h1 h2 h3 h4 h5 => h.td a b ba ea ca bb eb cb (hset a h1).1 (hset b h2).1 h3 h4 h5, ll := h.ll, ln := h.ln, lb := h.lb, lp := fun k l D r h1 h2 => (h.lp k l D r h1 h2).mono (K.le.refl _) hobj, hb := by simpa [setBlk] using h.hb, gv := h.gv }
  · have hx := h.bx b k cs h1 h2 hm
    have hne : k ≠ blk := by rintro rfl; exact hk.nb (List.mem_of_getElem? h2)
    obtain ⟨rs', hc, h3, h4⟩ := hx.ex
    exact ⟨hx.ge, hx.nc, ⟨rs', hc.congr (setBlk_other hne), h3, h4⟩, hx.lf, hx.lw, fun hm => by rw [← hx.sb hm]; exact shape_congr (setBlk_other hne)⟩
  · obtain ⟨q1, q2⟩ := hset j h1
    have hx := h.tk j k e ce q1 h2
    have hne : k ≠ blk := h.td j i k e ce blk _ _ q1 hi h2 hτ q2
    obtain ⟨rs', hc, h3⟩ := hx.ex
    exact ⟨hx.ge, hx.nb, hx.nc, ⟨rs', hc.congr (setBlk_other hne), h3⟩⟩

theorem primBuilderString (L : Lays.n169 P ρ) (X : Builder.Extra P ρ) (htU : g.tU = ρ.t 5) {pf : Func} (hpf : P.funcs[ρ.f 169]? = some pf) (hb : pf.body.isSome = true) (hn : pf.name ≠ "runtime.NumGoroutine") : PrimSOK P g (ρ.f 169) pBuilderString := by
  refine primS_of_calls hpf hb hn (fun base κ w st args ps v u st' hsr hsz hargs hp hu => ?_)
  unfold pBuilderString at hp
  split at hp
  · rename_i bs b
    obtain ⟨u1, rfl⟩ : ∃ u1, args = #[u1] := by
      obtain ⟨l⟩ := args
      match l, hsz with
      | [u1], _ => exact ⟨u1, rfl⟩
    have r1 := hargs 0 u1 _ rfl rfl
    cases r1 with | ptr _ _ blk hφ hμ =>
    split at hp
    · -- nothing was written
      rename_i c0 hbx
      simp only [Option.some.injEq, Prod.mk.injEq] at hp
      obtain ⟨rfl, rfl⟩ := hp
      simp only [updS, Option.some.injEq] at hu
      subst hu
      have hB := hsr.bx b blk _ hbx hφ hμ
      obtain ⟨rs, ⟨el, lo, hi, hw, hf⟩, hl, hr⟩ := hB.ex
      obtain ⟨v0, h0, hr0⟩ := hr 1 .nils rfl
      cases hr0
      have hc : w.cell? ⟨blk, 1, none⟩ = some (.slice none 0 0) := by simp [World.cell?, hw, h0]
      refine (bstring_nil L X blk w hc).mono ?_
      rintro e w' ⟨rfl, rfl⟩
      exact ⟨_, rfl, .str _ _ rfl, hsr.heap rfl, Fr.same rfl rfl rfl rfl⟩
    · rename_i c0 i l hbx
      split at hp
      · cases hp
      · rename_i hne0
        obtain ⟨hne, hrm⟩ : l ≠ [] ∧ l.length ≤ room := by simpa [not_or] using hne0
        simp only [Option.some.injEq, Prod.mk.injEq] at hp
        obtain ⟨rfl, rfl⟩ := hp
        simp only [updS] at hu
        split at hu
        · rename_i hti
          cases hu
          have hB := hsr.bx b blk _ hbx hφ hμ
          obtain ⟨rs, ⟨el, lo, hi, hw, hf⟩, hl, hr⟩ := hB.ex
          obtain ⟨v0, h0, hr0⟩ := hr 1 _ rfl
          cases hr0 with
          | bys blk' off n c _ _ hn2 hc hbb ht hz =>
            obtain ⟨rfl, hS⟩ := hz i rfl
            subst hn2
            obtain ⟨n', hsh⟩ := hsr.sh blk' _ hS
            obtain ⟨e', ce, hτ, hroom⟩ := ht
            have hTK := hsr.tk i blk' e' ce hti hτ
            obtain ⟨rs', ⟨el', lo', hi', hw', hf'⟩, hce⟩ := hTK.ex
            have hn' : n' = rs'.size ∧ el' = g.tU := by
              simp only [World.shape?, hw', Option.some.injEq, Prod.mk.injEq] at hsh
              exact ⟨hsh.2.symm, hsh.1⟩
            have hcl : ∀ j x, l[j]? = some x → w.cell? ⟨blk', j, none⟩ = some (.int .u8 x.toNat) := fun j x hx => by
              have := hsr.cC _ _ _ (hbb j x hx)
              simpa using this
            have hcells : l.length ≤ n' := by
              rcases Nat.lt_or_ge n' l.length with h1 | h1
              · exfalso
                have h2 := hcl n' l[n'] (by simp [h1])
                simp only [World.cell?, hw'] at h2
                simp [hn'.1] at h2
              · exact h1
            have hmax : l.length ≤ 9223372036854775807 := by have e : room = 68719476736 := rfl; omega
            have hcell : w.cell? ⟨blk, 1, none⟩ = some (.slice (some ⟨blk', 0, none⟩) l.length c) := by simp [World.cell?, hw, h0]
            refine (bstring_walk L X blk blk' c n' l w hne hc hcells hmax hcell (by rw [hsh, htU]) hcl).mono ?_
            rintro e w1 ⟨rfl, rfl⟩
            have hlt := (Array.getElem?_eq_some_iff.1 hw').1
            have hfr : ∃ fz, (w.drew.freeze ⟨blk', 0, none⟩ l.length).heap = (setBlk w blk' rs' el' fz).heap := by
              refine ⟨if lo' == hi' then (0, 0 + l.length) else (min lo' 0, max hi' (0 + l.length)), ?_⟩
              simp only [World.freeze, setBlk, World.drew]
              rw [if_neg (by simpa using hne)]
              apply Array.ext_getElem?
              intro j
              rw [Array.getElem?_modify]
              by_cases hj : blk' = j
              · subst hj; rw [if_pos rfl, hw']; simp [hlt]
              · rw [if_neg hj, Array.getElem?_setIfInBounds_ne hj]
            obtain ⟨fz, hfr⟩ := hfr
            refine ⟨_, rfl, .str _ _ rfl, hsr.kill hti hτ hw' hfr, ?_⟩
            refine Fr.of ⟨?_, ?_, ?_, ?_, fun k hk => ?_⟩ fun k o ho hc => ?_
            · simp only [World.freeze]; split <;> rfl
            · simp only [World.freeze]; split <;> rfl
            · simp only [World.freeze]; split <;> rfl
            · rw [hfr]; simp [setBlk]
            · rw [hfr]; exact setBlk_other (by have := hTK.ge; omega)
            · rw [hfr, setBlk_other]
              · exact ho
              · rintro rfl; rw [hw'] at ho; cases ho; simp [isCells] at hc
        · cases hu
    · cases hp
  · cases hp
end Go.Ab
/-
  slices.Clone, a primitive that makes a box, out of the shelf's contract.
-/
namespace Go.Ab
open Go.Proofs Go.Shelf Go.RowKit

variable {P : Program} {g : GMap} {ρ : Go.Shelf.Ren} {base : Nat} {κ : K} {w : World} {st : St}

theorem SR.adopt (h : SR P g base κ w st) {blk : Nat} {rs : Array Value} {el : TypeId} {fz : Nat × Nat} {cs : List PV} (hb : base ≤ blk) (hw : w.heap[blk]? = some (.cells rs el fz)) (hfz : fz.1 = fz.2 ∨ rs.size ≤ fz.1)
    (hn : ∀ i, κ.C blk i = none) (hp : blk ∉ κ.φ) (ht : ∀ (i b e ce : Nat), st.toks[i]? = some true → κ.τ[i]? = some (b, e, ce) → b ≠ blk) (hl : cs.length ≤ rs.size)
    (hr : ∀ (i : Nat) (c : PV), cs[i]? = some c → ∃ v, rs[i]? = some v ∧ R g κ v c) (hz : cs.all zeroLeaf = true) :
    K.le κ { κ with φ := κ.φ ++ [blk] } ∧ SR P g base { κ with φ := κ.φ ++ [blk] } w { st with boxes := st.boxes ++ [cs] } := by
  have hle : K.le κ { κ with φ := κ.φ ++ [blk] } := ⟨fun _ _ _ h => h, fun i x hx => by
    have := (List.getElem?_eq_some_iff.1 hx).1
    simp [List.getElem?_append_left this, hx], fun _ _ h => h, fun _ _ h => h, fun _ _ h => h, fun _ _ => rfl⟩
  refine ⟨hle, ?_⟩
  refine { cC := h.cC, sh := h.sh, bl := by simp [h.bl], bn := ?_, bx := ?_, mx := ?_, mz := fun b hb => h.mz b (by simp at hb; omega), tl := h.tl, tk := ?_, td := h.td, ll := h.ll, ln := h.ln, lb := h.lb, lp := ?_, hb := h.hb, gv := g.mono _ _ hle.C h.gv }
  · rw [List.nodup_append]
    refine ⟨h.bn, by simp, fun a ha b hb => ?_⟩
    simp at hb
    subst hb
    rintro rfl; exact hp ha
  · intro b blk' cs' h1 h2 hm
    by_cases hb' : b < st.boxes.length
    · simp only [List.getElem?_append_left hb'] at h1
      simp only [List.getElem?_append_left (show b < κ.φ.length by rw [h.bl]; exact hb')] at h2
      have hx := h.bx b blk' cs' h1 h2 hm
      obtain ⟨rs', hc, h3, h4⟩ := hx.ex
      exact ⟨hx.ge, hx.nc, ⟨rs', hc, h3, fun i c hi => by
        obtain ⟨v, hv, hr'⟩ := h4 i c hi
        exact ⟨v, hv, hr'.mono hle⟩⟩, hx.lf, hx.lw, hx.sb⟩
    · have hbe : b = st.boxes.length := by
        have := (List.getElem?_eq_some_iff.1 h1).1
        simp at this; omega
      subst hbe
      simp only [List.getElem?_concat_length, Option.some.injEq] at h1
      simp only [← h.bl, List.getElem?_concat_length, Option.some.injEq] at h2
      subst h1 h2
      have hzz : ∀ q ∈ cs, zeroLeaf q = true := fun q hq => List.all_eq_true.1 hz q hq
      refine ⟨hb, fun _ i => hn i, ⟨rs, ⟨el, fz.1, fz.2, hw, hfz⟩, hl, fun i c hi => ?_⟩, ?_, fun c hc => ?_, fun hm => ?_⟩
      · obtain ⟨v, hv, hr'⟩ := hr i c hi
        exact ⟨v, hv, hr'.mono hle⟩
      · rw [List.all_eq_true]; exact fun q hq => leafB_of (zeroLeaf_ok (hzz q hq)).1
      · have := hzz c hc
        cases c <;> simp_all [zeroLeaf, PV.inB]
      · have := hzz _ hm; simp [zeroLeaf] at this
  · intro b blk' cs' h1 h2 hm
    have hb' : b < st.boxes.length := by
      rcases Nat.lt_or_ge b st.boxes.length with hlt | hge
      · exact hlt
      · have := h.mz b (by rw [h.bl]; exact hge)
        simp only at hm; rw [this] at hm; cases hm
    simp only [List.getElem?_append_left hb'] at h1
    simp only [List.getElem?_append_left (show b < κ.φ.length by rw [h.bl]; exact hb')] at h2
    exact h.mx b blk' cs' h1 h2 hm
  · intro i blk' e ce h1 h2
    have hx := h.tk i blk' e ce h1 h2
    refine ⟨hx.ge, ?_, hx.nc, hx.ex⟩
    simp only [List.mem_append, List.mem_singleton, not_or]
    exact ⟨hx.nb, ht i blk' e ce h1 h2⟩
  · intro k l D r h1 h2
    exact (h.lp k l D r h1 h2).mono hle (fun k o ho _ => ho)

theorem primS_of_callsK {f' : FuncId} {p : List PV → List (List PV) → Option (PV × Upd)} {pf : Func} (hpf : P.funcs[f']? = some pf) (hb : pf.body.isSome = true) (hn : pf.name ≠ "runtime.NumGoroutine")
    (h : ∀ (base : Nat) (κ : K) (w : World) (st : St) (args : Array Value) (ps : List PV) (v : PV) (u : Upd) (st' : St), SR P g base κ w st → args.size = ps.length → (∀ (i : Nat) (u : Value) (q : PV), args[i]? = some u → ps[i]? = some q → R g κ u q) → p ps st.boxes = some (v, u) → updS st u = some st' →
      Calls P f' args w fun e w' => ∃ z κ', e = .returned z ∧ K.le κ κ' ∧ κ'.lam = κ.lam ∧ R g κ' z v ∧ SR P g base κ' w' st' ∧ Fr base κ.lam w w') : PrimSOK P g f' p := by
  intro base κ w st args ps v u st' hsr hsz hargs hp hu F hF nn o a next Q hnext
  have hrun : (callFunc f' args).run P w = .ok (.enter f' args) w := by
    have hb2 : pf.body.isNone = false := by
      cases hbb : pf.body with
      | none => rw [hbb] at hb; cases hb
      | some c => rfl
    have hn2 : (pf.name == "runtime.NumGoroutine") = false := by simpa using hn
    unfold callFunc
    simp only [Sem.run_bind, Go.program, Sem.run, Result.andThen, hpf, hn2, hb2]
    rfl
  rw [hrun]
  refine ⟨hF.deep, callsIn_of_calls hF ?_⟩
  refine (h base κ w st args ps v u st' hsr hsz hargs hp hu).mono ?_
  rintro e w' ⟨z, κ', rfl, hle, hlam, hz, hs, hf⟩
  exact hnext κ' z w' hle hlam hs hz hf

theorem oneCell'_of {v : Value} {p : PV} (h : R g κ v p) (hz : zeroLeaf p = true) : v.oneCell' = true := by
  cases h <;> first | rfl | simp [zeroLeaf] at hz

theorem primClone {esz by_ : Nat} (L : SlLaysE0.n41 P ρ) (hinfo : (P.info? (ρ.t 23)).map (fun i => (i.zero.map (fun z => z.cells.size), i.size, i.bytes)) = some (some esz, esz, by_)) (h0 : 0 < esz) (hby : by_ ≤ 256)
    {pf : Func} (hpf : P.funcs[ρ.f 41]? = some pf) (hb : pf.body.isSome = true) (hn : pf.name ≠ "runtime.NumGoroutine") : PrimSOK P g (ρ.f 41) (pClone esz) := by
  obtain ⟨i0, hi0⟩ : ∃ i0, P.info? (ρ.t 23) = some i0 := by
    cases hi : P.info? (ρ.t 23) with
    | none => simp [hi] at hinfo
    | some i0 => exact ⟨i0, rfl⟩
  rw [hi0] at hinfo
  simp only [Option.map_some, Option.some.injEq, Prod.mk.injEq] at hinfo
  obtain ⟨hz0, hsz0, hb0⟩ := hinfo
  obtain ⟨z0, hz1, hz2⟩ : ∃ z0, i0.zero = some z0 ∧ z0.cells.size = esz := by
    cases hz : i0.zero with
    | none => simp [hz] at hz0
    | some z0 => rw [hz] at hz0; simp at hz0; exact ⟨z0, rfl, hz0⟩
  refine primS_of_callsK hpf hb hn ?_
  intro base κ w st args ps v u st' hsr hsz hargs hp hu
  unfold pClone at hp
  split at hp
  · cases hp
    obtain ⟨a, rfl⟩ : ∃ a, args = #[a] := by
      obtain ⟨l⟩ := args
      match l, hsz with
      | [a], _ => exact ⟨a, rfl⟩
    have r1 := hargs 0 a _ rfl rfl
    cases r1
    simp only [updS, Option.some.injEq] at hu
    subst hu
    refine (AnyE.slices_Clone_nil L 0 0 w).mono ?_
    rintro e w' ⟨rfl, rfl⟩
    exact ⟨_, κ, rfl, K.le.refl κ, rfl, .nils, hsr, Fr.refl _ _⟩
  · rename_i e t xs
    split at hp
    · rename_i hc
      obtain ⟨rfl, hne, hroom, hzl⟩ := hc
      cases hp
      obtain ⟨a, rfl⟩ : ∃ a, args = #[a] := by
        obtain ⟨l⟩ := args
        match l, hsz with
        | [a], _ => exact ⟨a, rfl⟩
      have r1 := hargs 0 a _ rfl rfl
      cases r1 with
      | sl0 a esz t ht => exact absurd rfl hne
      | sl blk off n c esz t xs vs hn' hc he hl hv hr hd hlf htok =>
      have hzl' : ∀ q ∈ flat xs, zeroLeaf q = true := fun q hq => List.all_eq_true.1 hzl q hq
      have hfl : (flat xs).length = xs.length * e := flat_length he
      have hzu : (flat xs).all zeroLeaf = true := hzl
      simp only [updS] at hu
      rw [if_pos hzl] at hu
      cases hu
      have hmax : room ≤ maxLen := by decide
      have hroom' : room = 68719476736 := rfl
      refine (AnyE.slices_Clone L i0 z0 e by_ hi0 hz1 hsz0 hb0 hz2 h0 (fun w => by
          have : sizeT P (ρ.t 23) = some e := by simp [sizeT, hi0, hsz0]
          exact run_sizeOf this) blk off n c vs w (by rw [hl, hfl, hn']) (by rw [hn']; omega) (by
          rw [hn']
          have := Nat.mul_le_mul hroom hby
          rw [hroom'] at this; omega) (fun j u hj => hsr.cC _ _ _ (hv j u hj)) (fun u hu => by
          obtain ⟨i, hi⟩ := List.getElem?_of_mem hu
          have hlt : i < (flat xs).length := by rw [← hl]; exact (List.getElem?_eq_some_iff.1 hi).1
          exact oneCell'_of (hr i u (flat xs)[i] hi (by simp [hlt])) (hzl' _ (List.getElem_mem _)))).mono ?_
      rintro ee w' ⟨v', rfl, how, hnn, hbel⟩
      obtain ⟨hol, ho⟩ := how
      rcases ho with ⟨rfl, _⟩ | ⟨gb, cap, cur, rfl, hgb, hgw, hnc, hcm, hcs, hct⟩
      · exact absurd rfl hnn
      have hs1 := hsr.below hbel
      have hcl : (flat xs).length ≤ cur.size := by rw [hcs, hfl, ← hn']; exact Nat.mul_le_mul_right _ hnc
      obtain ⟨k1, k2⟩ := hs1.adopt (cs := flat xs) (Nat.le_trans hsr.hb hgb) hgw (.inl rfl) (fun i => by
          cases hci : κ.C gb i with
          | none => rfl
          | some u => have := hsr.C_lt hci; omega) (fun hmem => by
          obtain ⟨i, hi⟩ := List.getElem?_of_mem hmem
          have := hsr.phi_lt hi; omega) (fun i b e ce h1 h2 => by
          obtain ⟨rs, hcx, _⟩ := (hsr.tk i b e ce h1 h2).ex
          have := hcx.lt; omega) hcl (fun i c hi => by
          have hlt := (List.getElem?_eq_some_iff.1 hi).1
          have hvi : vs[i]? = some (vs[i]'(by rw [hl]; exact hlt)) := by simp [show i < vs.length by rw [hl]; exact hlt]
          refine ⟨_, ?_, hr i _ c hvi hi⟩
          have hct' : (cur.toList.take (n * e))[i]? = some (vs[i]'(by rw [hl]; exact hlt)) := by rw [hct]; exact hvi
          rw [List.getElem?_take, if_pos (by rw [hn', ← hfl]; exact hlt)] at hct'
          simpa using hct') hzu
      refine ⟨_, _, rfl, k1, rfl, ?_, k2, fr_below hsr.hb hbel⟩
      rw [← hn']
      refine .ms _ _ _ _ _ gb ?_ hnc (.inr rfl) (hsr.mz _ (by rw [hsr.bl]; exact Nat.le_refl _))
      show (κ.φ ++ [gb])[st.boxes.length]? = _
      rw [← hsr.bl]; simp
    · cases hp
  · cases hp
end Go.Ab
/-
  strings.Split as a primitive: a new row of texts.
-/
namespace Go.Ab
open Go.Shelf Go.Proofs
variable {P : Program} {g : GMap} {ρ : Go.Shelf.Ren} {base : Nat}

theorem prim_of_lays {f' : FuncId} {p : List PV → Option PV} {pf : Func} (hpf : P.funcs[f']? = some pf) (hb : pf.body.isSome = true) (hn : pf.name ≠ "runtime.NumGoroutine")
    (h : ∀ (κ : K) (w : World) (args : Array Value) (ps : List PV) (v : PV), g.inv κ → (∀ b i v, κ.C b i = some v → w.cell? ⟨b, i, none⟩ = some v) → args.size = ps.length → (∀ (i : Nat) (u : Value) (q : PV), args[i]? = some u → ps[i]? = some q → R g κ u q) → p ps = some v →
      ∃ (z : Value) (rs : Array Value) (el : TypeId), Calls P f' args w (fun e w' => e = .returned z ∧ w' = w.alloc (.cells rs el)) ∧ R g (κ.addC w.heap.size fun i => rs[i]?) z v) : PrimOK P g f' p := by
  intro base κ w st args ps v hsr hsz hargs hp F hF nn o a next Q hnext
  have hrun : (callFunc f' args).run P w = .ok (.enter f' args) w := by
    have hb2 : pf.body.isNone = false := by
      cases hbb : pf.body with
      | none => rw [hbb] at hb; cases hb
      | some c => rfl
    have hn2 : (pf.name == "runtime.NumGoroutine") = false := by simpa using hn
    unfold callFunc
    simp only [Sem.run_bind, Go.program, Sem.run, Result.andThen, hpf, hn2, hb2]
    rfl
  rw [hrun]
  refine ⟨hF.deep, callsIn_of_calls hF ?_⟩
  obtain ⟨z, rs, el, hc, hr⟩ := h κ w args ps v hsr.gv hsr.cC hsz hargs hp
  refine hc.mono ?_
  rintro e w' ⟨rfl, rfl⟩
  obtain ⟨hle, hs⟩ := hsr.addC (w' := w.alloc (.cells rs el)) rs el (0, 0) rfl
  exact hnext _ z _ hle rfl hs hr (Fr.push hsr.hb rfl rfl rfl rfl)

theorem occ_one {c : UInt8} {s : List UInt8} {j : Nat} : Lib.occAt s [c] j = true → s[j]? = some c := fun h => Lib.occAt_head rfl h
theorem index_one_cases (c : UInt8) (s : List UInt8) : (c ∉ s ∧ Lib.index s [c] = -1) ∨ ∃ n r, s = n ++ c :: r ∧ c ∉ n ∧ Lib.index s [c] = n.length := by
  rcases Lib.index_spec s [c] with ⟨h1, h2⟩ | ⟨i, h1, h2, h3, h4⟩
  · refine .inl ⟨fun hm => ?_, h1⟩
    obtain ⟨j, hj, e⟩ := List.mem_iff_getElem.1 hm
    have := h2 j (by omega)
    rw [Lib.occAt_iff_take _ _ _ (by simp; omega)] at this
    rw [List.drop_eq_getElem_cons hj] at this
    simp [e] at this
  · have hi := occ_one h3
    have hlt := (List.getElem?_eq_some_iff.1 hi).1
    have he := (List.getElem?_eq_some_iff.1 hi).2
    refine .inr ⟨s.take i, s.drop (i + 1), ?_, fun hm => ?_, ?_⟩
    · rw [← he, ← List.drop_eq_getElem_cons hlt, List.take_append_drop]
    · obtain ⟨j, hj, e⟩ := List.mem_iff_getElem.1 hm
      simp only [List.length_take] at hj
      simp only [List.getElem_take] at e
      have := h4 j (by omega)
      rw [Lib.occAt_iff_take _ _ _ (by simp; omega)] at this
      rw [List.drop_eq_getElem_cons (show j < s.length by omega)] at this
      simp [e] at this
    · rw [h1]; simp; omega
theorem splitOn_none {c : UInt8} : ∀ (n acc : List UInt8), c ∉ n → splitOn c acc n = [acc ++ n] := by
  intro n
  induction n with
  | nil => intro acc _; simp [splitOn]
  | cons d n ih =>
    intro acc h
    simp only [List.mem_cons, not_or] at h
    rw [splitOn, if_neg (fun e => h.1 e.symm), ih _ h.2]; simp
theorem splitOn_hit {c : UInt8} {r : List UInt8} : ∀ (n acc : List UInt8), c ∉ n → splitOn c acc (n ++ c :: r) = (acc ++ n) :: splitOn c [] r := by
  intro n
  induction n with
  | nil => intro acc _; simp [splitOn]
  | cons d n ih =>
    intro acc h
    simp only [List.mem_cons, not_or] at h
    rw [List.cons_append, splitOn, if_neg (fun e => h.1 e.symm), ih _ h.2]; simp
theorem splitK_on {c : UInt8} : ∀ (f : Nat) (s : List UInt8), s.length < f → Lib.splitK [c] 0 (Lib.countFrom [c] f s) s = splitOn c [] s := by
  intro f
  induction f with
  | zero => intro s h; omega
  | succ f ih =>
    intro s h
    rcases index_one_cases c s with ⟨h1, h2⟩ | ⟨n, r, h1, h2, h3⟩
    · rw [splitOn_none s [] h1]
      simp [Lib.countFrom, h2, Lib.splitK]
    · have hne : (Lib.index s [c] == -1) = false := by rw [h3, beq_eq_false_iff_ne]; omega
      have hd : s.drop (n.length + 1) = r := by rw [h1, ← List.drop_drop, List.drop_left]; rfl
      have ht : s.take n.length = n := by rw [h1, List.take_left]
      have hc : Lib.countFrom [c] (f + 1) s = Lib.countFrom [c] f r + 1 := by
        simp only [Lib.countFrom, hne]
        rw [h3]
        simp only [Int.toNat_natCast, List.length_singleton, hd]
        simp; omega
      have hl := congrArg List.length h1
      simp only [List.length_append, List.length_cons] at hl
      rw [hc, Lib.splitK, hne, h3]
      simp only [Int.toNat_natCast, List.length_singleton, Nat.add_zero, ht, hd]
      rw [ih r (by omega), h1, splitOn_hit n [] h2]
      simp
theorem primStrSplit (L : Lays.n146 P ρ) (hi9 : (P.info? (ρ.t 9)).map (fun i => (i.zero, i.size, i.bytes)) = some (some (.string ByteArray.empty), 1, 16)) (hm : ∀ κ, g.inv κ → ∃ m, κ.C (ρ.g 1) 0 = some (.int .i64 m)) {pf : Func} (hpf : P.funcs[ρ.f 146]? = some pf) (hb : pf.body.isSome = true) (hn : pf.name ≠ "runtime.NumGoroutine") : PrimOK P g (ρ.f 146) pStrSplit := by
  refine prim_of_lays hpf hb hn (fun κ w args ps v hi hC hsz hargs hp => ?_)
  obtain ⟨m, hm⟩ := hm κ hi
  have hmc := hC _ _ _ hm
  unfold pStrSplit at hp
  split at hp
  · rename_i a c
    split at hp
    · rename_i hlen
      cases hp
      obtain ⟨u1, u2, rfl⟩ : ∃ u1 u2, args = #[u1, u2] := by
        obtain ⟨l⟩ := args
        match l, hsz with
        | [u1, u2], _ => exact ⟨u1, u2, rfl⟩
      have r1 := hargs 0 u1 _ rfl rfl
      have r2 := hargs 1 u2 _ rfl rfl
      cases r1 with | str sa _ ha => cases r2 with | str sb _ hb2 =>
      have hsa : sa.size = a.length := by rw [← ha]; simp
      have hsb : sb.size = 1 := by
        have := congrArg List.length hb2
        simpa using this
      refine ⟨_, _, _, Any.strings_Split L hi9 sa sb m w (by omega) hmc (by omega), ?_⟩
      -- the pieces
      obtain ⟨bs, hbs⟩ : ∃ bs, bs = Lib.splitB sb 0 (Lib.countB sa sb) sa := ⟨_, rfl⟩
      have hdat : bs.map (·.data.toList) = splitOn c [] a := by
        rw [hbs, Lib.splitB_data, hb2, ha]
        have hcnt : Lib.countB sa sb = Lib.countFrom [c] (a.length + 1) a := by
          show Lib.count sa.data.toList sb.data.toList = _
          rw [hb2, ha]; rfl
        rw [hcnt]
        exact splitK_on _ _ (by omega)
      have hlenb : bs.length = Lib.countB sa sb + 1 := by rw [hbs]; exact Lib.splitB_all sb (by omega) 0 _ sa rfl
      have hlen2 : (splitOn c [] a).length = bs.length := by rw [← hdat]; simp
      rw [← hbs, ← hlenb]
      have hflat : flat ((splitOn c [] a).map PV.str) = (splitOn c [] a).map PV.str := by
        generalize splitOn c [] a = xs
        induction xs with
        | nil => rfl
        | cons x xs ih => simp only [List.map_cons, flat, List.flatMap_cons, PV.cells] at ih ⊢; rw [ih]; rfl
      have hgetR : ∀ (i : Nat) (v : Value) (p : PV), (bs.map Value.string)[i]? = some v → ((splitOn c [] a).map PV.str)[i]? = some p → ∀ κ', R g κ' v p := by
        intro i v p h1 h2 κ'
        rw [← hdat] at h2
        simp only [List.getElem?_map, Option.map_eq_some_iff] at h1 h2
        obtain ⟨b, e1, rfl⟩ := h1
        obtain ⟨y, ⟨b2, e2, rfl⟩, rfl⟩ := h2
        rw [e1] at e2; cases e2
        exact .str b _ rfl
      refine .sl w.heap.size 0 bs.length bs.length 1 .no _ (bs.map Value.string) (by simp [hlen2]) (Nat.le_refl _) (fun x hx => ?_) (by rw [hflat]; simp [hlen2]) (fun i v hv => ?_) (fun i v p h1 h2 => ?_) ?_ ?_ trivial
      · obtain ⟨y, _, rfl⟩ := List.mem_map.1 hx; rfl
      · have hne : (bs.map Value.string).toArray[i]? = some v := by simpa using hv
        simp only [K.addC, Nat.zero_add, if_pos]
        rw [hne]
      · rw [hflat] at h2; exact hgetR i v p h1 h2 _
      · generalize splitOn c [] a = xs
        induction xs with
        | nil => rfl
        | cons x xs ih => simp [dataAll, PV.data, ih]
      · rw [hflat, List.all_eq_true]
        intro x hx
        obtain ⟨y, _, rfl⟩ := List.mem_map.1 hx; rfl
    · cases hp
  · cases hp
end Go.Ab
/-
  A row that lists variables: the wrap, the world's shape and what the listed variables hold kept.
-/
namespace Go.Ab
open Go
variable {H : Type} {enc : TypeId × Value → H}

theorem returns_laid_shaped {a : Assume} {C : Checked} {os : Os} {f : FuncId} {fn : Func} {s : ChangeSpec} {conds : List PathCond} {apart fresh handsOn again : Bool} (X : World → Prop) (hX : ∀ w w' : World, w.heap = w'.heap → X w → X w')
    (own : ownKnob C.prog.godebug = none) (started : os.Started) (noInit : C.prog.inits.idxOf? f = none) (hfn : C.prog.funcs[f]? = some fn)
    (witness : ∃ (w : World) (tape : Tape) (i : Input), w.os = os ∧ (w.forCall tape i).Shaped C.prog ∧ i.vars = [] ∧ Input.okWide C.prog (w.forCall tape i) .any w.heap.size f i ∧
      ((s.pre enc C.prog fn conds apart (w.forCall tape i).memory i.args ∧ X (w.forCall tape i).memory) ∧ sizedMet enc C.prog fn (OpenSpec.ofChange s) apart (w.forCall tape i).memory i.args) ∧ a.holds C.prog (lone (Frame.enter C.prog f i.args .normal) [] (w.forCall tape i)))
    (contract : ∀ (W : World) (base : Nat) (args : Array Value) (ds gs : List (DataW H)) (before : List MemPlace),
      (∀ (j : Nat) t v, fn.params[j]? = some t → args[j]? = some v → Value.okWide C.prog W .any base t v) →
      DataW.Whole enc C.prog fn.params.toList s.vars apart W args.toList ds gs before →
      X W →
      (DataW.weightsEach C.prog (fn.params.toList ++ s.plain.varTypes C.prog) (ds ++ gs)).all (· ≤ reachBytes) = true →
      W.ShapedOpen C.prog →
      a.holds C.prog (lone (Frame.enter C.prog f args .normal) [] W) →
      Calls C.prog f args W fun e W' => ∃ v, e = .returned v ∧ s.post enc C.prog fn apart fresh handsOn again W args v W') :
    ReturnsInHanded a C os f .any (fun w args => (s.pre enc C.prog fn conds apart w args ∧ X w) ∧ sizedMet enc C.prog fn (OpenSpec.ofChange s) apart w args) (s.post enc C.prog fn apart fresh handsOn again) := by
  refine returnsInHanded_of_calls own started noInit witness ?_
  intro w tape i _ hshape _ hok hpre hholds
  obtain ⟨_, _, _, fn2, hfn2, _, _, _, _, hval⟩ := hok
  obtain rfl : fn2 = fn := Option.some.inj (hfn2.symm.trans hfn)
  obtain ⟨⟨⟨ds, gs, before, hwhole, _⟩, hlaid⟩, hsized⟩ := hpre
  have hlaid2 : X (w.forCall tape i) := hX _ _ (by rfl) hlaid
  have hwhole2 := DataW.Whole.of_heap (w' := w.forCall tape i) (by rfl) hwhole
  have hrun := contract _ w.heap.size i.args ds gs before hval hwhole2 hlaid2 (hsized.weights hwhole) hshape hholds
  refine hrun.mono ?_
  rintro e W2 ⟨v, rfl, hpost⟩
  exact ChangeSpec.post_blind hpost
end Go.Ab
