/-
  A line's text is read, walked.
-/
import Derived.Test.YtiiedcmkmnfdiaaDoorA4
import Derived.Test.YtiiedcmkmnfdiaaDoorA3
import Derived.KernelRfl
import Derived.Test.YtiiedcmkmnfdiaaDoorA2
import Derived.Shelf.Bytes.SlIndexWhole
import Derived.Shelf.Bytes.IndexByte
import Derived.Shelf.Strings.Builder1
import Derived.Shelf.Strings.Search2
import Derived.Shelf.Small.Strs
import Derived.HandedShaped
import Derived.LaidLaws
import Derived.Lay
namespace Go.Ab
set_option linter.unusedVariables false
set_option linter.unusedSimpArgs false
set_option maxRecDepth 20000
variable {st s : St} {e : Env}

/-! ### Boxes that are written -/
structure Wrote (S S' : St) (b : Nat) (cs : List PV) : Prop where
  at_ : At S' b cs
  ot : ∀ c ds, c ≠ b → At S c ds → At S' c ds
  kp : ∀ st, Kept st S → st.boxes.length ≤ b → Kept st S'
  tk : S'.toks = S.toks
  bl : S'.boxes.length = S.boxes.length
  lp : S'.loops = S.loops
  lw : S'.low ≤ S.low
theorem At.lt {b : Nat} {cs : List PV} (h : At s b cs) : b < s.boxes.length := (List.getElem?_eq_some_iff.1 h).1
theorem At.bx {s' : St} {b : Nat} {cs : List PV} (h : At s b cs) (hb : s'.boxes = s.boxes) : At s' b cs := by unfold At at *; rw [hb]; exact h
theorem wrote_set {S : St} {b lo : Nat} {cs ds : List PV} (h : At S b cs) (hlo : lo = S.low ∨ lo = min S.low b) : Wrote S ⟨S.boxes.set b ds, S.toks, S.loops, lo⟩ b ds := by
  have hlt := h.lt
  refine ⟨by simp [At, hlt], fun c es hc hA => by simp only [At] at *; rw [List.getElem?_set_ne (Ne.symm hc)]; exact hA, fun st hk hb => ?_, rfl, by simp, rfl, by rcases hlo with rfl | rfl <;> simp only <;> omega⟩
  refine hk.of (by simp [List.take_set, List.set_eq_of_length_le (show (List.take st.boxes.length S.boxes).length ≤ b by simp; omega)]) rfl ?_ (fun i _ => rfl) hk.tl
  have := hk.lw
  simp only
  rcases hlo with rfl | rfl <;> omega
theorem At.st1 {S : St} {b off : Nat} {cs : List PV} {v : PV} (h : At S b cs) (hv : Leaf v) (hb : v.inB (b + 1) = true) (ho : off < cs.length) : ∃ S', storePV S 1 (.ptr b off) v = some S' ∧ Wrote S S' b (cs.set off v) := by
  refine ⟨_, ?_, wrote_set (ds := cs.set off v) (lo := if hasTok v.cells then min S.low b else S.low) h (by split <;> simp)⟩
  unfold At at h
  simp only [storePV, h, hv.1, setCells]
  rw [if_pos ⟨rfl, by omega, hb, by simp [hv.2]⟩]
theorem At.st2 {S : St} {b : Nat} {c0 c1 v0 v1 : PV} (h : At S b [c0, c1]) (l0 : leafOk v0 = true) (l1 : leafOk v1 = true) (i0 : v0.inB (b + 1) = true) (i1 : v1.inB (b + 1) = true) : ∃ S', storePV S 2 (.ptr b 0) (.agg [v0, v1]) = some S' ∧ Wrote S S' b [v0, v1] := by
  refine ⟨_, ?_, wrote_set (ds := [v0, v1]) (lo := if hasTok [v0, v1] then min S.low b else S.low) h (by split <;> simp)⟩
  unfold At at h
  simp [storePV, h, PV.cells, setCells, PV.inB, PV.inB.inBAll, l0, l1, i0, i1]; rfl
theorem At.st3 {S : St} {b : Nat} {c0 c1 c2 v0 v1 v2 : PV} (h : At S b [c0, c1, c2]) (l0 : leafOk v0 = true) (l1 : leafOk v1 = true) (l2 : leafOk v2 = true) (i0 : v0.inB (b + 1) = true) (i1 : v1.inB (b + 1) = true) (i2 : v2.inB (b + 1) = true) :
    ∃ S', storePV S 3 (.ptr b 0) (.agg [v0, v1, v2]) = some S' ∧ Wrote S S' b [v0, v1, v2] := by
  refine ⟨_, ?_, wrote_set (ds := [v0, v1, v2]) (lo := if hasTok [v0, v1, v2] then min S.low b else S.low) h (by split <;> simp)⟩
  unfold At at h
  simp [storePV, h, PV.cells, setCells, PV.inB, PV.inB.inBAll, l0, l1, l2, i0, i1, i2]; rfl
theorem At.ld2 {S : St} {b : Nat} {x y : PV} (h : At S b [x, y]) : loadPV S true 2 (.ptr b 0) = some (.agg [x, y]) := by
  unfold At at h; simp [loadPV, h, readCells]
theorem At.ld3 {S : St} {b : Nat} {x y z : PV} (h : At S b [x, y, z]) : loadPV S true 3 (.ptr b 0) = some (.agg [x, y, z]) := by
  unfold At at h; simp [loadPV, h, readCells]
theorem Own.tks {s' : St} {esz : Nat} {v : PV} {xs : List PV} (h : Own st s esz v xs) (ht : s'.toks = s.toks) : Own st s' esz v xs := by
  rcases h with h | ⟨i, h1, h2, h3⟩
  · exact .inl h
  · exact .inr ⟨i, h1, h2, by rw [ht]; exact h3⟩
theorem own_leaf {esz : Nat} {v : PV} {xs : List PV} (h : Own st s esz v xs) : Leaf v ∧ ∀ n, v.inB n = true := by
  rcases h with ⟨rfl, _⟩ | ⟨i, rfl, _⟩
  · exact ⟨⟨rfl, rfl⟩, fun _ => rfl⟩
  · exact ⟨⟨rfl, rfl⟩, fun _ => rfl⟩
theorem own_vs {v : PV} {xs : List PV} (h : Own st s 2 v xs) : v.vs 2 = some xs := by
  rcases h with ⟨rfl, rfl⟩ | ⟨i, rfl, _⟩
  · simp [PV.vs]
  · simp [PV.vs]
theorem leave_line {S : St} {pv : PV} {xs : List PV} {n v : Bs} {k : IntKind} {c : Int} (hk : Kept st S) (h : Own st S 2 pv xs) (hne : xs = [] → pv = .nils) :
    leave st S (.tup [.agg [.str n, pv, .str v], .int k c]) = (.tup [.agg [.str n, newSl st 2 xs, .str v], .int k c], newS st xs.isEmpty) := by
  have e1 := hk.bx; have e2 := hk.lp; have e3 := hk.tk
  rcases h with ⟨rfl, rfl⟩ | ⟨i, rfl, h2, h3⟩
  · simp [leave, PV.inB, PV.inB.inBAll, hk.lw, keepRes, keepVals, keepVal, keepCells, keepLeaf, newSl, newS, e1, e2, e3]
  · by_cases hx : xs = []
    · have := hne hx; cases this
    · simp [leave, PV.inB, PV.inB.inBAll, hk.lw, keepRes, keepVals, keepVal, keepCells, keepLeaf, keepTok, newSl, newS, hx, h3, show ¬ i < st.toks.length by omega, e1, e2, e3, St.tok1]

/-- A line that was read, as a value. -/
def oneV (st : St) (r : Option LnD) : PV × St := match r with
  | none => (.tup [.agg [.str [], .nils, .str []], .int .i64 90], st)
  | some d => (.tup [.agg [.str d.1, newSl st 2 (d.2.1.map fV), .str d.2.2], .int .i64 0], newS st (d.2.1.map fV).isEmpty)
theorem W_cutX {A : AP} {a b : ACode} {Q : Ex → Env → St → Prop} (M : Env → St → Prop) (h1 : W A a e st (fun x e' s' => (x = .normal ∧ M e' s') ∨ (x ≠ .normal ∧ Q x e' s'))) (h2 : ∀ e' s', M e' s' → W A b e' s' Q) : W A (.seq a b) e st Q := by
  rw [qaaz]
  refine W_mono h1 ?_
  rintro x e s (⟨rfl, h⟩ | ⟨hx, h⟩)
  · exact h2 e s h
  · cases x with
    | normal => exact absurd rfl hx
    | ret => rw [qbaz]; exact h
    | exit i => rw [qbbz]; exact h
    | goto i => rw [qbcz]; exact h

theorem goL_bad {f : Nat} {acc : List Fld} {b : UInt8} {r : Bs} (h1 : b ≠ 59) (h2 : b ≠ 58) : goL f acc b r = none := by
  cases f with
  | zero => rfl
  | succ f => simp [goL, h1, h2]
set_option maxHeartbeats 4000000 in
theorem One_spec {x : Bs} (hl : x.length ≤ 1000000) : call prog (.fn 55 []) [.str x] st = some (oneV st (oneL x)) := by
  refine call_of_W prog_55 ?_
  unfold F_sheet_One; dsimp only
  obtain ⟨b2, hb2⟩ : ∃ b2, b2 = st.boxes.length := ⟨_, rfl⟩
  obtain ⟨Z, hZ⟩ : ∃ Z : List PV, Z = [.str [], .nils, .str []] := ⟨_, rfl⟩
  refine W_cut (fun E S => Kept st S ∧ At S b2 Z ∧ E 0 = .str x ∧ E 2 = .ptr b2 0) ?_ ?_
  · simp (maxSteps := 1000000) (disch := omega) only [allocPV, qaaz, qabz, qacz, qadz, qaez, qafz, qagz, qahz, qaiz, qajz, qakz, qalz, qamz, qanz, evOp, qaoz, qapz, qaqz, qarz, qasz, qatz, qauz, qavz,
 ↓reduceIte, Nat.reduceEqDiff, List.nil_append, List.cons_append, List.append_nil, List.map_cons, List.map_nil, qawz, qaxz, qayz, Option.map_some, Option.map_none, qazz, qbaz, qbbz, qbcz, qbdz, qbez, qbfz, qbgz, qbhz, qbiz, qbjz, qbkz, qblz, qbmz, qbnz, qboz,
 qbpz, qbqz, qbrz, qbsz, qbtz, qbuz, qbvz, qbwz, qbxz, qbyz, qbzz, qcaz, qcbz, qccz, qcdz, qcez, qcfz, qcgz, qchz, qciz, beq_true, beq_false, Bool.not_eq_true', decide_eq_true_eq, decide_eq_false_iff_not, decide_true, decide_false,
 Int.toNat_natCast, Int.ofNat_lt, Int.ofNat_le, Int.natCast_inj, Bool.false_eq_true, Bool.true_eq_false, qcjz, List.getElem?_cons_zero, List.getElem?_cons_succ, qckz, Int.reduceToNat, Int.reduceLE, true_and, and_true, reduceCtorEq, or_false, false_or, or_true, Option.some.injEq, exists_eq_left', Bool.not_true, Bool.not_false, ne_eq, Int.reduceEq, not_true_eq_false, not_false_eq_true, Int.reduceLT, UInt8.reduceLT, UInt8.reduceLE, UInt8.reduceToNat]
    exact ⟨Kept.start.alloc', by rw [hb2, hZ]; exact At.last (s := ⟨st.boxes, st.toks, st.loops, st.boxes.length⟩), by rw [hb2]⟩
  rintro e S ⟨hk, hA2, h0, h2⟩
  refine W_scope1 rfl ?_
  generalize hR : scopeQ prog _ _ _ = R
  have fin : ∀ (E : Env) (S : St) (n v : Bs) (pv : PV) (ps : List Fld), Kept st S → Own st S 2 pv (ps.map fV) → (ps.map fV = [] → pv = .nils) → At S b2 [.str n, pv, .str v] → oneL x = some (n, ps, v) → E 2 = .ptr b2 0 → E 3 = .int .i64 0 → R .ret E S := by
    intro E S n v pv ps k1 ko kn kA ho k2 k3
    rw [← hR]
    show endQ _ _ _ .ret E S
    rw [qblz]
    refine ⟨.tup [.agg [.str n, pv, .str v], .int .i64 0], by simp [resOf, rvAll, rv1, k2, k3, kA.ld3, notTup, packRes], ?_⟩
    rw [ho]; exact leave_line k1 ko kn
  have wrong : ∀ (E : Env) (S : St), Kept st S → At S b2 Z → E 2 = .ptr b2 0 → oneL x = none → R (.goto 0) E S := by
    intro E S k1 kA k2 ho
    rw [← hR]
    simp only [scopeQ, if_true]
    refine W_scopeAt ?_
    rw [hZ] at kA
    obtain ⟨S', a1, w1⟩ := kA.st3 (v0 := .str []) (v1 := .nils) (v2 := .str []) rfl rfl rfl rfl rfl rfl
    have hbu : buildCells [.str [], .nils, .str []] [] = some [.str [], .nils, .str []] := rfl
    simp (maxSteps := 1000000) (disch := omega) only [k2, hbu, a1, qaaz, qabz, qacz, qadz, qaez, qafz, qagz, qahz, qaiz, qajz, qakz, qalz, qamz, qanz, evOp, qaoz, qapz, qaqz, qarz, qasz, qatz, qauz, qavz,
 ↓reduceIte, Nat.reduceEqDiff, List.nil_append, List.cons_append, List.append_nil, List.map_cons, List.map_nil, qawz, qaxz, qayz, Option.map_some, Option.map_none, qazz, qbaz, qbbz, qbcz, qbdz, qbez, qbfz, qbgz, qbhz, qbiz, qbjz, qbkz, qblz, qbmz, qbnz, qboz,
 qbpz, qbqz, qbrz, qbsz, qbtz, qbuz, qbvz, qbwz, qbxz, qbyz, qbzz, qcaz, qcbz, qccz, qcdz, qcez, qcfz, qcgz, qchz, qciz, beq_true, beq_false, Bool.not_eq_true', decide_eq_true_eq, decide_eq_false_iff_not, decide_true, decide_false,
 Int.toNat_natCast, Int.ofNat_lt, Int.ofNat_le, Int.natCast_inj, Bool.false_eq_true, Bool.true_eq_false, qcjz, List.getElem?_cons_zero, List.getElem?_cons_succ, qckz, Int.reduceToNat, Int.reduceLE, true_and, and_true, reduceCtorEq, or_false, false_or, or_true, Option.some.injEq, exists_eq_left', Bool.not_true, Bool.not_false, ne_eq, Int.reduceEq, not_true_eq_false, not_false_eq_true, Int.reduceLT, UInt8.reduceLT, UInt8.reduceLE, UInt8.reduceToNat]
    refine ⟨.tup [.agg [.str [], .nils, .str []], .int .i64 90], by simp [resOf, rvAll, rv1, qavz, k2, w1.at_.ld3, notTup, packRes], ?_⟩
    rw [ho]
    exact (w1.kp st k1 (by omega)).leave' ⟨fun _ => rfl, fun _ _ => rfl⟩
  clear hR
  obtain ⟨b4, hb4⟩ : ∃ b4, b4 = S.boxes.length := ⟨_, rfl⟩
  have hne24 : b2 ≠ b4 := by have := hA2.lt; omega
  have hle4 : st.boxes.length ≤ b4 := by have := hk.bl; omega
  refine W_cut (fun E S => Kept st S ∧ At S b2 Z ∧ At S b4 Z ∧ E 0 = .str x ∧ E 2 = .ptr b2 0 ∧ E 4 = .ptr b4 0) ?_ ?_
  · simp (maxSteps := 1000000) (disch := omega) only [allocPV, h0, h2, qaaz, qabz, qacz, qadz, qaez, qafz, qagz, qahz, qaiz, qajz, qakz, qalz, qamz, qanz, evOp, qaoz, qapz, qaqz, qarz, qasz, qatz, qauz, qavz,
 ↓reduceIte, Nat.reduceEqDiff, List.nil_append, List.cons_append, List.append_nil, List.map_cons, List.map_nil, qawz, qaxz, qayz, Option.map_some, Option.map_none, qazz, qbaz, qbbz, qbcz, qbdz, qbez, qbfz, qbgz, qbhz, qbiz, qbjz, qbkz, qblz, qbmz, qbnz, qboz,
 qbpz, qbqz, qbrz, qbsz, qbtz, qbuz, qbvz, qbwz, qbxz, qbyz, qbzz, qcaz, qcbz, qccz, qcdz, qcez, qcfz, qcgz, qchz, qciz, beq_true, beq_false, Bool.not_eq_true', decide_eq_true_eq, decide_eq_false_iff_not, decide_true, decide_false,
 Int.toNat_natCast, Int.ofNat_lt, Int.ofNat_le, Int.natCast_inj, Bool.false_eq_true, Bool.true_eq_false, qcjz, List.getElem?_cons_zero, List.getElem?_cons_succ, qckz, Int.reduceToNat, Int.reduceLE, true_and, and_true, reduceCtorEq, or_false, false_or, or_true, Option.some.injEq, exists_eq_left', Bool.not_true, Bool.not_false, ne_eq, Int.reduceEq, not_true_eq_false, not_false_eq_true, Int.reduceLT, UInt8.reduceLT, UInt8.reduceLE, UInt8.reduceToNat]
    exact ⟨hk.alloc', hA2.alloc, by rw [hb4, hZ]; exact At.last, by rw [hb4]⟩
  clear hk hA2 h0 h2 hb4
  rintro e S ⟨hk, hA2, hA4, h0, h2, h4⟩
  obtain ⟨c, hc⟩ : ∃ c, c = cutV [59, 58] x := ⟨_, rfl⟩
  have hcs := cutV_sum (e := [59, 58]) (s := x)
  rw [← hc] at hcs
  obtain ⟨nm, hnm⟩ : ∃ nm, nm = upOf c.1 := ⟨_, rfl⟩
  have hnl : nm.length ≤ 1000000 := by rw [hnm]; simp [upOf]; omega
  refine W_cut (fun E S => Kept st S ∧ At S b2 Z ∧ At S b4 Z ∧ E 2 = .ptr b2 0 ∧ E 4 = .ptr b4 0 ∧ E 5 = .str c.1 ∧ E 6 = .b8 c.2.1 ∧ E 7 = .str c.2.2) ?_ ?_
  · have hcut := fun S : St => cut_spec (st := S) (x := x) (e := [59, 58]) (by omega) (by simp)
    rw [← hc] at hcut
    simp (maxSteps := 1000000) (disch := omega) only [h0, h2, h4, hcut, qaaz, qabz, qacz, qadz, qaez, qafz, qagz, qahz, qaiz, qajz, qakz, qalz, qamz, qanz, evOp, qaoz, qapz, qaqz, qarz, qasz, qatz, qauz, qavz,
 ↓reduceIte, Nat.reduceEqDiff, List.nil_append, List.cons_append, List.append_nil, List.map_cons, List.map_nil, qawz, qaxz, qayz, Option.map_some, Option.map_none, qazz, qbaz, qbbz, qbcz, qbdz, qbez, qbfz, qbgz, qbhz, qbiz, qbjz, qbkz, qblz, qbmz, qbnz, qboz,
 qbpz, qbqz, qbrz, qbsz, qbtz, qbuz, qbvz, qbwz, qbxz, qbyz, qbzz, qcaz, qcbz, qccz, qcdz, qcez, qcfz, qcgz, qchz, qciz, beq_true, beq_false, Bool.not_eq_true', decide_eq_true_eq, decide_eq_false_iff_not, decide_true, decide_false,
 Int.toNat_natCast, Int.ofNat_lt, Int.ofNat_le, Int.natCast_inj, Bool.false_eq_true, Bool.true_eq_false, qcjz, List.getElem?_cons_zero, List.getElem?_cons_succ, qckz, Int.reduceToNat, Int.reduceLE, true_and, and_true, reduceCtorEq, or_false, false_or, or_true, Option.some.injEq, exists_eq_left', Bool.not_true, Bool.not_false, ne_eq, Int.reduceEq, not_true_eq_false, not_false_eq_true, Int.reduceLT, UInt8.reduceLT, UInt8.reduceLE, UInt8.reduceToNat]
    exact ⟨hk, hA2, hA4⟩
  clear hk hA2 hA4 h0 h2 h4
  rintro e S ⟨hk, hA2, hA4, h2, h4, h5, h6, h7⟩
  refine W_cut (fun E S => Kept st S ∧ At S b2 Z ∧ At S b4 [.str nm, .nils, .str []] ∧ E 2 = .ptr b2 0 ∧ E 4 = .ptr b4 0 ∧ E 6 = .b8 c.2.1 ∧ E 7 = .str c.2.2) ?_ ?_
  · have hup := fun S : St => upper_spec (st := S) (s := c.1) (by omega)
    rw [← hnm] at hup
    rw [hZ] at hA4
    obtain ⟨S', a1, w1⟩ := hA4.st1 (off := 0) (v := .str nm) Leaf_str rfl (by simp)
    simp (maxSteps := 1000000) (disch := omega) only [h2, h4, h5, h6, h7, hup, faddrPV, Nat.zero_add, a1, qaaz, qabz, qacz, qadz, qaez, qafz, qagz, qahz, qaiz, qajz, qakz, qalz, qamz, qanz, evOp, qaoz, qapz, qaqz, qarz, qasz, qatz, qauz, qavz,
 ↓reduceIte, Nat.reduceEqDiff, List.nil_append, List.cons_append, List.append_nil, List.map_cons, List.map_nil, qawz, qaxz, qayz, Option.map_some, Option.map_none, qazz, qbaz, qbbz, qbcz, qbdz, qbez, qbfz, qbgz, qbhz, qbiz, qbjz, qbkz, qblz, qbmz, qbnz, qboz,
 qbpz, qbqz, qbrz, qbsz, qbtz, qbuz, qbvz, qbwz, qbxz, qbyz, qbzz, qcaz, qcbz, qccz, qcdz, qcez, qcfz, qcgz, qchz, qciz, beq_true, beq_false, Bool.not_eq_true', decide_eq_true_eq, decide_eq_false_iff_not, decide_true, decide_false,
 Int.toNat_natCast, Int.ofNat_lt, Int.ofNat_le, Int.natCast_inj, Bool.false_eq_true, Bool.true_eq_false, qcjz, List.getElem?_cons_zero, List.getElem?_cons_succ, qckz, Int.reduceToNat, Int.reduceLE, true_and, and_true, reduceCtorEq, or_false, false_or, or_true, Option.some.injEq, exists_eq_left', Bool.not_true, Bool.not_false, ne_eq, Int.reduceEq, not_true_eq_false, not_false_eq_true, Int.reduceLT, UInt8.reduceLT, UInt8.reduceLE, UInt8.reduceToNat]
    exact ⟨w1.kp st hk hle4, w1.ot _ _ hne24 hA2, w1.at_⟩
  clear hk hA2 hA4 h2 h4 h5 h6 h7
  rintro e S ⟨hk, hA2, hA4, h2, h4, h6, h7⟩
  obtain ⟨G, hG⟩ : ∃ G, G = goL (x.length + 1) [] c.2.1 c.2.2 := ⟨_, rfl⟩
  have hone : oneL x = oneG nm G := by
    rw [hG, hc, hnm, hc]; rfl
  have hnone : G = none → oneL x = none := fun h => by rw [hone, h]; rfl
  obtain ⟨J, hJ⟩ : ∃ J : Bs → Env → St → Prop, J = fun rest E S => ∃ (fuel : Nat) (acc : List Fld) (pv : PV) (b : UInt8), rest.length < fuel ∧ acc.length + rest.length ≤ 1000000 ∧ (∀ p ∈ acc, p.1.length + p.2.length ≤ 1000000) ∧ G = goL fuel acc b rest ∧
      Kept st S ∧ At S b2 Z ∧ At S b4 [.str nm, pv, .str []] ∧ Own st S 2 pv (acc.map fV) ∧ (acc.map fV = [] → pv = .nils) ∧ E 2 = .ptr b2 0 ∧ E 4 = .ptr b4 0 ∧ E 6 = .b8 b ∧ E 7 = .str rest := ⟨_, rfl⟩
  refine W_cutX (fun E S => ∃ rest, J rest E S ∧ E 6 ≠ .b8 59) ?_ ?_
  · obtain ⟨QQ, hQQ⟩ : ∃ QQ : Ex → Env → St → Prop, QQ = fun xx e' s' => (xx = .normal ∧ ∃ rest, J rest e' s' ∧ e' 6 ≠ .b8 59) ∨ (xx ≠ .normal ∧ R xx e' s') := ⟨_, rfl⟩
    rw [← hQQ]
    have wr : ∀ (E : Env) (S : St), Kept st S → At S b2 Z → E 2 = .ptr b2 0 → G = none → QQ (.goto 0) E S := fun E S k1 k2 k3 k4 => by
      rw [hQQ]; exact .inr ⟨by simp, wrong E S k1 k2 k3 (hnone k4)⟩
    rw [qadz]
    refine W_loop (fun n E S => ∃ rest, n = rest.length ∧ J rest E S) ?_ (n := c.2.2.length) ⟨c.2.2, rfl, by
      rw [hJ]
      exact ⟨x.length + 1, [], .nils, c.2.1, by omega, by simp; omega, fun p hp => by simp at hp, hG, hk, hA2, hA4, .inl ⟨rfl, rfl⟩, fun _ => rfl, h2, h4, h6, h7⟩⟩
    clear hk hA2 hA4 h2 h4 h6 h7
    rintro n e S ⟨rest, rfl, hh⟩
    have hJJ := hh
    rw [hJ] at hh
    obtain ⟨fuel, acc, pv, b, hf, hal, hps, hg, hk, hA2, hA4, ho, hn, h2, h4, h6, h7⟩ := hh
    by_cases hb : b = 59
    · obtain ⟨f, rfl⟩ : ∃ f, fuel = f + 1 := ⟨fuel - 1, by omega⟩
      subst hb
      rw [goL, if_pos rfl] at hg
      obtain ⟨b8, hb8⟩ : ∃ b8, b8 = S.boxes.length := ⟨_, rfl⟩
      have hne28 : b2 ≠ b8 := by have := hA2.lt; omega
      have hne48 : b4 ≠ b8 := by have := hA4.lt; omega
      have hle8 : st.boxes.length ≤ b8 := by have := hk.bl; omega
      have hown8 : ∀ S' : St, S'.toks = S.toks → Own st S' 2 pv (acc.map fV) := fun S' h => ho.tks h
      obtain ⟨c1, hc1⟩ : ∃ c1, c1 = cutV [61, 59, 58] rest := ⟨_, rfl⟩
      have hc1s := cutV_sum (e := [61, 59, 58]) (s := rest)
      rw [← hc1] at hc1s
      have hpar : parL rest = if c1.2.1 = 61 then
          if [34] <+: c1.2.2 then
            if (cutV [34] (c1.2.2.drop 1)).2.1 = 0 then none
            else some ((upOf c1.1, (cutV [34] (c1.2.2.drop 1)).1), (cutV [34] (c1.2.2.drop 1)).2.2.getD 0 0, (cutV [34] (c1.2.2.drop 1)).2.2.drop 1)
          else some ((upOf c1.1, (cutV [59, 58, 44, 34] c1.2.2).1), (cutV [59, 58, 44, 34] c1.2.2).2.1, (cutV [59, 58, 44, 34] c1.2.2).2.2)
        else none := by rw [hc1]; rfl
      rw [qaaz]
      simp (maxSteps := 1000000) (disch := omega) only [h6, qaaz, qabz, qacz, qaez, qafz, qagz, qahz, qaiz, qajz, qakz, qalz, qamz, qanz, evOp, qaoz, qapz, qaqz, qarz, qasz, qatz, qauz, qavz,
 ↓reduceIte, Nat.reduceEqDiff, List.nil_append, List.cons_append, List.append_nil, List.map_cons, List.map_nil, qawz, qaxz, qayz, Option.map_some, Option.map_none, qazz, qbaz, qbbz, qbcz, qbdz, qbez, qbfz, qbgz, qbhz, qbiz, qbjz, qbkz, qblz, qbmz, qbnz, qboz,
 qbpz, qbqz, qbrz, qbsz, qbtz, qbuz, qbvz, qbwz, qbxz, qbyz, qbzz, qcaz, qcbz, qccz, qcdz, qcez, qcfz, qcgz, qchz, qciz, beq_true, beq_false, Bool.not_eq_true', decide_eq_true_eq, decide_eq_false_iff_not, decide_true, decide_false,
 Int.toNat_natCast, Int.ofNat_lt, Int.ofNat_le, Int.natCast_inj, Bool.false_eq_true, Bool.true_eq_false, qcjz, List.getElem?_cons_zero, List.getElem?_cons_succ, qckz, Int.reduceToNat, Int.reduceLE, true_and, and_true, reduceCtorEq, or_false, false_or, or_true, Option.some.injEq, exists_eq_left', Bool.not_true, Bool.not_false, ne_eq, Int.reduceEq, not_true_eq_false, not_false_eq_true, Int.reduceLT, UInt8.reduceLT, UInt8.reduceLE, UInt8.reduceToNat]
      rw [qadz]
      refine W_cut (fun E S => Kept st S ∧ At S b2 Z ∧ At S b4 [.str nm, pv, .str []] ∧ At S b8 [.str [], .str []] ∧ Own st S 2 pv (acc.map fV) ∧ E 2 = .ptr b2 0 ∧ E 4 = .ptr b4 0 ∧ E 7 = .str rest ∧ E 8 = .ptr b8 0) ?_ ?_
      · simp (maxSteps := 1000000) (disch := omega) only [allocPV, h2, h4, h7, qaaz, qabz, qacz, qadz, qaez, qafz, qagz, qahz, qaiz, qajz, qakz, qalz, qamz, qanz, evOp, qaoz, qapz, qaqz, qarz, qasz, qatz, qauz, qavz,
 ↓reduceIte, Nat.reduceEqDiff, List.nil_append, List.cons_append, List.append_nil, List.map_cons, List.map_nil, qawz, qaxz, qayz, Option.map_some, Option.map_none, qazz, qbaz, qbbz, qbcz, qbdz, qbez, qbfz, qbgz, qbhz, qbiz, qbjz, qbkz, qblz, qbmz, qbnz, qboz,
 qbpz, qbqz, qbrz, qbsz, qbtz, qbuz, qbvz, qbwz, qbxz, qbyz, qbzz, qcaz, qcbz, qccz, qcdz, qcez, qcfz, qcgz, qchz, qciz, beq_true, beq_false, Bool.not_eq_true', decide_eq_true_eq, decide_eq_false_iff_not, decide_true, decide_false,
 Int.toNat_natCast, Int.ofNat_lt, Int.ofNat_le, Int.natCast_inj, Bool.false_eq_true, Bool.true_eq_false, qcjz, List.getElem?_cons_zero, List.getElem?_cons_succ, qckz, Int.reduceToNat, Int.reduceLE, true_and, and_true, reduceCtorEq, or_false, false_or, or_true, Option.some.injEq, exists_eq_left', Bool.not_true, Bool.not_false, ne_eq, Int.reduceEq, not_true_eq_false, not_false_eq_true, Int.reduceLT, UInt8.reduceLT, UInt8.reduceLE, UInt8.reduceToNat]
        exact ⟨hk.alloc', hA2.alloc, hA4.alloc, by rw [hb8]; exact At.last, hown8 _ rfl, by rw [hb8]⟩
      clear hk hA2 hA4 h2 h4 h6 h7 ho hown8 hb8
      rintro e S ⟨hk, hA2, hA4, hA8, ho, h2, h4, h7, h8⟩
      refine W_cut (fun E S => Kept st S ∧ At S b2 Z ∧ At S b4 [.str nm, pv, .str []] ∧ At S b8 [.str c1.1, .str []] ∧ Own st S 2 pv (acc.map fV) ∧ E 2 = .ptr b2 0 ∧ E 4 = .ptr b4 0 ∧ E 6 = .b8 c1.2.1 ∧ E 7 = .str c1.2.2 ∧ E 8 = .ptr b8 0) ?_ ?_
      · have hcut := fun S : St => cut_spec (st := S) (x := rest) (e := [61, 59, 58]) (by omega) (by simp)
        rw [← hc1] at hcut
        obtain ⟨S', a1, w1⟩ := hA8.st1 (off := 0) (v := .str c1.1) Leaf_str rfl (by simp)
        simp (maxSteps := 1000000) (disch := omega) only [h2, h4, h7, h8, hcut, faddrPV, Nat.zero_add, a1, qaaz, qabz, qacz, qadz, qaez, qafz, qagz, qahz, qaiz, qajz, qakz, qalz, qamz, qanz, evOp, qaoz, qapz, qaqz, qarz, qasz, qatz, qauz, qavz,
 ↓reduceIte, Nat.reduceEqDiff, List.nil_append, List.cons_append, List.append_nil, List.map_cons, List.map_nil, qawz, qaxz, qayz, Option.map_some, Option.map_none, qazz, qbaz, qbbz, qbcz, qbdz, qbez, qbfz, qbgz, qbhz, qbiz, qbjz, qbkz, qblz, qbmz, qbnz, qboz,
 qbpz, qbqz, qbrz, qbsz, qbtz, qbuz, qbvz, qbwz, qbxz, qbyz, qbzz, qcaz, qcbz, qccz, qcdz, qcez, qcfz, qcgz, qchz, qciz, beq_true, beq_false, Bool.not_eq_true', decide_eq_true_eq, decide_eq_false_iff_not, decide_true, decide_false,
 Int.toNat_natCast, Int.ofNat_lt, Int.ofNat_le, Int.natCast_inj, Bool.false_eq_true, Bool.true_eq_false, qcjz, List.getElem?_cons_zero, List.getElem?_cons_succ, qckz, Int.reduceToNat, Int.reduceLE, true_and, and_true, reduceCtorEq, or_false, false_or, or_true, Option.some.injEq, exists_eq_left', Bool.not_true, Bool.not_false, ne_eq, Int.reduceEq, not_true_eq_false, not_false_eq_true, Int.reduceLT, UInt8.reduceLT, UInt8.reduceLE, UInt8.reduceToNat]
        exact ⟨w1.kp st hk hle8, w1.ot _ _ hne28 hA2, w1.ot _ _ hne48 hA4, w1.at_, ho.tks w1.tk⟩
      clear hk hA2 hA4 hA8 h2 h4 h7 h8 ho
      rintro e S ⟨hk, hA2, hA4, hA8, ho, h2, h4, h6, h7, h8⟩
      refine W_cut (fun E S => Kept st S ∧ At S b2 Z ∧ At S b4 [.str nm, pv, .str []] ∧ At S b8 [.str (upOf c1.1), .str []] ∧ Own st S 2 pv (acc.map fV) ∧ E 2 = .ptr b2 0 ∧ E 4 = .ptr b4 0 ∧ E 6 = .b8 c1.2.1 ∧ E 7 = .str c1.2.2 ∧ E 8 = .ptr b8 0) ?_ ?_
      · have hup := fun S : St => upper_spec (st := S) (s := c1.1) (by omega)
        have hld := hA8.load (k := 0) (v := .str c1.1) (r := [.str []]) rfl
        obtain ⟨S', a1, w1⟩ := hA8.st1 (off := 0) (v := .str (upOf c1.1)) Leaf_str rfl (by simp)
        simp (maxSteps := 1000000) (disch := omega) only [h2, h4, h6, h7, h8, hld, hup, faddrPV, Nat.zero_add, a1, qaaz, qabz, qacz, qadz, qaez, qafz, qagz, qahz, qaiz, qajz, qakz, qalz, qamz, qanz, evOp, qaoz, qapz, qaqz, qarz, qasz, qatz, qauz, qavz,
 ↓reduceIte, Nat.reduceEqDiff, List.nil_append, List.cons_append, List.append_nil, List.map_cons, List.map_nil, qawz, qaxz, qayz, Option.map_some, Option.map_none, qazz, qbaz, qbbz, qbcz, qbdz, qbez, qbfz, qbgz, qbhz, qbiz, qbjz, qbkz, qblz, qbmz, qbnz, qboz,
 qbpz, qbqz, qbrz, qbsz, qbtz, qbuz, qbvz, qbwz, qbxz, qbyz, qbzz, qcaz, qcbz, qccz, qcdz, qcez, qcfz, qcgz, qchz, qciz, beq_true, beq_false, Bool.not_eq_true', decide_eq_true_eq, decide_eq_false_iff_not, decide_true, decide_false,
 Int.toNat_natCast, Int.ofNat_lt, Int.ofNat_le, Int.natCast_inj, Bool.false_eq_true, Bool.true_eq_false, qcjz, List.getElem?_cons_zero, List.getElem?_cons_succ, qckz, Int.reduceToNat, Int.reduceLE, true_and, and_true, reduceCtorEq, or_false, false_or, or_true, Option.some.injEq, exists_eq_left', Bool.not_true, Bool.not_false, ne_eq, Int.reduceEq, not_true_eq_false, not_false_eq_true, Int.reduceLT, UInt8.reduceLT, UInt8.reduceLE, UInt8.reduceToNat]
        exact ⟨w1.kp st hk hle8, w1.ot _ _ hne28 hA2, w1.ot _ _ hne48 hA4, w1.at_, ho.tks w1.tk⟩
      clear hk hA2 hA4 hA8 h2 h4 h6 h7 h8 ho
      rintro e S ⟨hk, hA2, hA4, hA8, ho, h2, h4, h6, h7, h8⟩
      by_cases h61 : c1.2.1 = 61
      · rw [if_pos h61] at hpar
        have h61d : decide (c1.2.1 ≠ 61) = false := by simp [h61]
        -- a value was read
        have tail : ∀ (S : St) (w : Bs) (b' : UInt8) (r' : Bs), parL rest = some ((upOf c1.1, w), b', r') → Kept st S → At S b2 Z → At S b4 [.str nm, pv, .str []] → At S b8 [.str (upOf c1.1), .str w] → Own st S 2 pv (acc.map fV) →
            ∃ v' s' S', Ab.appV 2 S.tok1 pv (.sl 2 (.own S.toks.length) [fV (upOf c1.1, w)]) = some (v', s') ∧ storePV s' 1 (.ptr b4 1) v' = some S' ∧ r'.length < rest.length ∧ loadPV S false 1 (.ptr b4 1) = some pv ∧ loadPV S true 2 (.ptr b8 0) = some (.agg [.str (upOf c1.1), .str w]) ∧ (∀ E' : Env, E' 2 = .ptr b2 0 → E' 4 = .ptr b4 0 → E' 6 = .b8 b' → E' 7 = .str r' → J r' E' S') := by
          intro S w b' r' hp hk hA2 hA4 hA8 ho
          have hlt := parL_lt hp
          simp only at hlt
          obtain ⟨v', s', q1, q2, q3, q4⟩ := hk.appV (u := fV (upOf c1.1, w)) (w := .undef) ho (by simp [room]; omega)
          obtain ⟨S', q5, w5⟩ := (hA4.bx q4).st1 (off := 1) (v := v') (own_leaf q3).1 ((own_leaf q3).2 _) (by simp)
          refine ⟨v', s', S', q1, q5, hlt.1, hA4.load (k := 1) (v := pv) (r := [.str []]) rfl, hA8.ld2, fun E' k2 k4 k6 k7 => ?_⟩
          rw [hJ]
          refine ⟨f, acc ++ [(upOf c1.1, w)], v', b', by omega, by simp; omega, ?_, by rw [hg, hp], w5.kp st q2 hle4, w5.ot _ _ hne24 (hA2.bx q4), w5.at_, ?_, fun h => by simp at h, k2, k4, k6, k7⟩
          · intro p hpm
            rcases List.mem_append.1 hpm with hpm | hpm
            · exact hps p hpm
            · simp only [List.mem_singleton] at hpm; subst hpm; simp only; omega
          · have := q3.tks w5.tk
            simpa using this
        have hlit : ∀ z w, litFill 2 (List.replicate 1 z) [(0, .agg [.str (upOf c1.1), .str w])] = some [fV (upOf c1.1, w)] := fun z w => lit1 rfl rfl
        have hbad : ∀ (b' : UInt8) (p : Fld) (r' : Bs), parL rest = some (p, b', r') → b' ≠ 59 → b' ≠ 58 → G = none := fun b' p r' hp k1 k2 => by
          rw [hg, hp]
          exact goL_bad k1 k2
        by_cases h34 : [34] <+: c1.2.2
        · rw [if_pos h34] at hpar
          have hpos := h34.length_le
          simp only [List.length_singleton] at hpos
          obtain ⟨d, hd⟩ : ∃ d, d = cutV [34] (c1.2.2.drop 1) := ⟨_, rfl⟩
          have hds := cutV_sum (e := [34]) (s := c1.2.2.drop 1)
          rw [← hd] at hpar hds
          simp only [List.length_drop] at hds
          have hcut := fun S : St => cut_spec (st := S) (x := c1.2.2.drop 1) (e := [34]) (by simp; omega) (by simp)
          rw [← hd] at hcut
          have hs1 : slcPV 0 (.str c1.2.2) (some (.int .i64 1)) none none = some (.str (c1.2.2.drop 1)) := by
            rw [slc_s_lo (by omega) (by simpa using hpos)]; rfl
          obtain ⟨S1, a1, w1⟩ := hA8.st1 (off := 1) (v := .str d.1) Leaf_str rfl (by simp)
          have k1 := w1.kp st hk hle8
          have k2 := w1.ot _ _ hne28 hA2
          have k4 := w1.ot _ _ hne48 hA4
          have k8 : At S1 b8 [.str (upOf c1.1), .str d.1] := w1.at_
          have ko := ho.tks w1.tk
          by_cases hd0 : d.2.1 = 0
          · rw [if_pos hd0] at hpar
            simp (maxSteps := 1000000) (disch := omega) only [h2, h4, h6, h7, h8, eq_true h61, sHasPrefix_spec, h34, hs1, hcut, faddrPV, Nat.zero_add, a1, eq_true hd0, qaaz, qabz, qacz, qadz, qaez, qafz, qagz, qahz, qaiz, qajz, qakz, qalz, qamz, qanz, evOp, qaoz, qapz, qaqz, qarz, qasz, qatz, qauz, qavz,
 ↓reduceIte, Nat.reduceEqDiff, List.nil_append, List.cons_append, List.append_nil, List.map_cons, List.map_nil, qawz, qaxz, qayz, Option.map_some, Option.map_none, qazz, qbaz, qbbz, qbcz, qbdz, qbez, qbfz, qbgz, qbhz, qbiz, qbjz, qbkz, qblz, qbmz, qbnz, qboz,
 qbpz, qbqz, qbrz, qbsz, qbtz, qbuz, qbvz, qbwz, qbxz, qbyz, qbzz, qcaz, qcbz, qccz, qcdz, qcez, qcfz, qcgz, qchz, qciz, beq_true, beq_false, Bool.not_eq_true', decide_eq_true_eq, decide_eq_false_iff_not, decide_true, decide_false,
 Int.toNat_natCast, Int.ofNat_lt, Int.ofNat_le, Int.natCast_inj, Bool.false_eq_true, Bool.true_eq_false, qcjz, List.getElem?_cons_zero, List.getElem?_cons_succ, qckz, Int.reduceToNat, Int.reduceLE, true_and, and_true, reduceCtorEq, or_false, false_or, or_true, Option.some.injEq, exists_eq_left', Bool.not_true, Bool.not_false, ne_eq, Int.reduceEq, not_true_eq_false, not_false_eq_true, Int.reduceLT, UInt8.reduceLT, UInt8.reduceLE, UInt8.reduceToNat]
            exact wr _ _ k1 k2 h2 (by rw [hg, hpar])
          · rw [if_neg hd0] at hpar
            by_cases hr : d.2.2 = []
            · simp (maxSteps := 1000000) (disch := omega) only [h2, h4, h6, h7, h8, eq_true h61, sHasPrefix_spec, h34, hs1, hcut, faddrPV, Nat.zero_add, a1, hd0, eq_true hr, qaaz, qabz, qacz, qadz, qaez, qafz, qagz, qahz, qaiz, qajz, qakz, qalz, qamz, qanz, evOp, qaoz, qapz, qaqz, qarz, qasz, qatz, qauz, qavz,
 ↓reduceIte, Nat.reduceEqDiff, List.nil_append, List.cons_append, List.append_nil, List.map_cons, List.map_nil, qawz, qaxz, qayz, Option.map_some, Option.map_none, qazz, qbaz, qbbz, qbcz, qbdz, qbez, qbfz, qbgz, qbhz, qbiz, qbjz, qbkz, qblz, qbmz, qbnz, qboz,
 qbpz, qbqz, qbrz, qbsz, qbtz, qbuz, qbvz, qbwz, qbxz, qbyz, qbzz, qcaz, qcbz, qccz, qcdz, qcez, qcfz, qcgz, qchz, qciz, beq_true, beq_false, Bool.not_eq_true', decide_eq_true_eq, decide_eq_false_iff_not, decide_true, decide_false,
 Int.toNat_natCast, Int.ofNat_lt, Int.ofNat_le, Int.natCast_inj, Bool.false_eq_true, Bool.true_eq_false, qcjz, List.getElem?_cons_zero, List.getElem?_cons_succ, qckz, Int.reduceToNat, Int.reduceLE, true_and, and_true, reduceCtorEq, or_false, false_or, or_true, Option.some.injEq, exists_eq_left', Bool.not_true, Bool.not_false, ne_eq, Int.reduceEq, not_true_eq_false, not_false_eq_true, Int.reduceLT, UInt8.reduceLT, UInt8.reduceLE, UInt8.reduceToNat]
              exact wr _ _ k1 k2 h2 (hbad _ _ _ hpar (by rw [hr]; decide) (by rw [hr]; decide))
            · have hrl := List.length_pos_iff.2 hr
              obtain ⟨b', hb'⟩ : ∃ b', b' = d.2.2.getD 0 0 := ⟨_, rfl⟩
              have hix : idxSPV (.str d.2.2) (.int .i64 0) = some (.b8 b') := by
                have := idx_s (l := d.2.2) (k := .i64) (c := 0) (by omega) (by simpa using hrl)
                rw [hb']; exact this
              have hs2 : slcPV 0 (.str d.2.2) (some (.int .i64 1)) none none = some (.str (d.2.2.drop 1)) := by
                rw [slc_s_lo (by omega) (show (1 : Int).toNat ≤ _ by rw [show (1 : Int).toNat = 1 from rfl]; omega)]; rfl
              rw [← hb'] at hpar
              obtain ⟨v', s', S', t1, t2, t3, t4, t5, t6⟩ := tail S1 d.1 b' (d.2.2.drop 1) hpar k1 k2 k4 k8 ko
              by_cases h59 : b' = 59
              · simp (maxSteps := 1000000) (disch := omega) only [h2, h4, h6, h7, h8, eq_true h61, sHasPrefix_spec, h34, hs1, hcut, faddrPV, Nat.zero_add, a1, hd0, hr, hix, hs2, eq_true h59, t4, t5, hlit, freshT_eq, t1, t2, loopQ_normal, qaaz, qabz, qacz, qadz, qaez, qafz, qagz, qahz, qaiz, qajz, qakz, qalz, qamz, qanz, evOp, qaoz, qapz, qaqz, qarz, qasz, qatz, qauz, qavz,
 ↓reduceIte, Nat.reduceEqDiff, List.nil_append, List.cons_append, List.append_nil, List.map_cons, List.map_nil, qawz, qaxz, qayz, Option.map_some, Option.map_none, qazz, qbaz, qbbz, qbcz, qbdz, qbez, qbfz, qbgz, qbhz, qbiz, qbjz, qbkz, qblz, qbmz, qbnz, qboz,
 qbpz, qbqz, qbrz, qbsz, qbtz, qbuz, qbvz, qbwz, qbxz, qbyz, qbzz, qcaz, qcbz, qccz, qcdz, qcez, qcfz, qcgz, qchz, qciz, beq_true, beq_false, Bool.not_eq_true', decide_eq_true_eq, decide_eq_false_iff_not, decide_true, decide_false,
 Int.toNat_natCast, Int.ofNat_lt, Int.ofNat_le, Int.natCast_inj, Bool.false_eq_true, Bool.true_eq_false, qcjz, List.getElem?_cons_zero, List.getElem?_cons_succ, qckz, Int.reduceToNat, Int.reduceLE, true_and, and_true, reduceCtorEq, or_false, false_or, or_true, Option.some.injEq, exists_eq_left', Bool.not_true, Bool.not_false, ne_eq, Int.reduceEq, not_true_eq_false, not_false_eq_true, Int.reduceLT, UInt8.reduceLT, UInt8.reduceLE, UInt8.reduceToNat]
                exact ⟨_, t3, _, rfl, t6 _ h2 h4 rfl rfl⟩
              · by_cases h58 : b' = 58
                · simp (maxSteps := 1000000) (disch := omega) only [h2, h4, h6, h7, h8, eq_true h61, sHasPrefix_spec, h34, hs1, hcut, faddrPV, Nat.zero_add, a1, hd0, hr, hix, hs2, h59, eq_true h58, t4, t5, hlit, freshT_eq, t1, t2, loopQ_normal, qaaz, qabz, qacz, qadz, qaez, qafz, qagz, qahz, qaiz, qajz, qakz, qalz, qamz, qanz, evOp, qaoz, qapz, qaqz, qarz, qasz, qatz, qauz, qavz,
 ↓reduceIte, Nat.reduceEqDiff, List.nil_append, List.cons_append, List.append_nil, List.map_cons, List.map_nil, qawz, qaxz, qayz, Option.map_some, Option.map_none, qazz, qbaz, qbbz, qbcz, qbdz, qbez, qbfz, qbgz, qbhz, qbiz, qbjz, qbkz, qblz, qbmz, qbnz, qboz,
 qbpz, qbqz, qbrz, qbsz, qbtz, qbuz, qbvz, qbwz, qbxz, qbyz, qbzz, qcaz, qcbz, qccz, qcdz, qcez, qcfz, qcgz, qchz, qciz, beq_true, beq_false, Bool.not_eq_true', decide_eq_true_eq, decide_eq_false_iff_not, decide_true, decide_false,
 Int.toNat_natCast, Int.ofNat_lt, Int.ofNat_le, Int.natCast_inj, Bool.false_eq_true, Bool.true_eq_false, qcjz, List.getElem?_cons_zero, List.getElem?_cons_succ, qckz, Int.reduceToNat, Int.reduceLE, true_and, and_true, reduceCtorEq, or_false, false_or, or_true, Option.some.injEq, exists_eq_left', Bool.not_true, Bool.not_false, ne_eq, Int.reduceEq, not_true_eq_false, not_false_eq_true, Int.reduceLT, UInt8.reduceLT, UInt8.reduceLE, UInt8.reduceToNat]
                  exact ⟨_, t3, _, rfl, t6 _ h2 h4 rfl rfl⟩
                · simp (maxSteps := 1000000) (disch := omega) only [h2, h4, h6, h7, h8, eq_true h61, sHasPrefix_spec, h34, hs1, hcut, faddrPV, Nat.zero_add, a1, hd0, hr, hix, hs2, h59, h58, qaaz, qabz, qacz, qadz, qaez, qafz, qagz, qahz, qaiz, qajz, qakz, qalz, qamz, qanz, evOp, qaoz, qapz, qaqz, qarz, qasz, qatz, qauz, qavz,
 ↓reduceIte, Nat.reduceEqDiff, List.nil_append, List.cons_append, List.append_nil, List.map_cons, List.map_nil, qawz, qaxz, qayz, Option.map_some, Option.map_none, qazz, qbaz, qbbz, qbcz, qbdz, qbez, qbfz, qbgz, qbhz, qbiz, qbjz, qbkz, qblz, qbmz, qbnz, qboz,
 qbpz, qbqz, qbrz, qbsz, qbtz, qbuz, qbvz, qbwz, qbxz, qbyz, qbzz, qcaz, qcbz, qccz, qcdz, qcez, qcfz, qcgz, qchz, qciz, beq_true, beq_false, Bool.not_eq_true', decide_eq_true_eq, decide_eq_false_iff_not, decide_true, decide_false,
 Int.toNat_natCast, Int.ofNat_lt, Int.ofNat_le, Int.natCast_inj, Bool.false_eq_true, Bool.true_eq_false, qcjz, List.getElem?_cons_zero, List.getElem?_cons_succ, qckz, Int.reduceToNat, Int.reduceLE, true_and, and_true, reduceCtorEq, or_false, false_or, or_true, Option.some.injEq, exists_eq_left', Bool.not_true, Bool.not_false, ne_eq, Int.reduceEq, not_true_eq_false, not_false_eq_true, Int.reduceLT, UInt8.reduceLT, UInt8.reduceLE, UInt8.reduceToNat]
                  exact wr _ _ k1 k2 h2 (hbad _ _ _ hpar h59 h58)
        · rw [if_neg h34] at hpar
          obtain ⟨d, hd⟩ : ∃ d, d = cutV [59, 58, 44, 34] c1.2.2 := ⟨_, rfl⟩
          have hds := cutV_sum (e := [59, 58, 44, 34]) (s := c1.2.2)
          rw [← hd] at hpar hds
          have hcut := fun S : St => cut_spec (st := S) (x := c1.2.2) (e := [59, 58, 44, 34]) (by omega) (by simp)
          rw [← hd] at hcut
          obtain ⟨S1, a1, w1⟩ := hA8.st1 (off := 1) (v := .str d.1) Leaf_str rfl (by simp)
          have k1 := w1.kp st hk hle8
          have k2 := w1.ot _ _ hne28 hA2
          have k4 := w1.ot _ _ hne48 hA4
          have k8 : At S1 b8 [.str (upOf c1.1), .str d.1] := w1.at_
          have ko := ho.tks w1.tk
          obtain ⟨v', s', S', t1, t2, t3, t4, t5, t6⟩ := tail S1 d.1 d.2.1 d.2.2 hpar k1 k2 k4 k8 ko
          simp (maxSteps := 1000000) (disch := omega) only [h2, h4, h6, h7, h8, eq_true h61, sHasPrefix_spec, h34, hcut, faddrPV, Nat.zero_add, a1, t4, t5, hlit, freshT_eq, t1, t2, loopQ_normal, qaaz, qabz, qacz, qadz, qaez, qafz, qagz, qahz, qaiz, qajz, qakz, qalz, qamz, qanz, evOp, qaoz, qapz, qaqz, qarz, qasz, qatz, qauz, qavz,
 ↓reduceIte, Nat.reduceEqDiff, List.nil_append, List.cons_append, List.append_nil, List.map_cons, List.map_nil, qawz, qaxz, qayz, Option.map_some, Option.map_none, qazz, qbaz, qbbz, qbcz, qbdz, qbez, qbfz, qbgz, qbhz, qbiz, qbjz, qbkz, qblz, qbmz, qbnz, qboz,
 qbpz, qbqz, qbrz, qbsz, qbtz, qbuz, qbvz, qbwz, qbxz, qbyz, qbzz, qcaz, qcbz, qccz, qcdz, qcez, qcfz, qcgz, qchz, qciz, beq_true, beq_false, Bool.not_eq_true', decide_eq_true_eq, decide_eq_false_iff_not, decide_true, decide_false,
 Int.toNat_natCast, Int.ofNat_lt, Int.ofNat_le, Int.natCast_inj, Bool.false_eq_true, Bool.true_eq_false, qcjz, List.getElem?_cons_zero, List.getElem?_cons_succ, qckz, Int.reduceToNat, Int.reduceLE, true_and, and_true, reduceCtorEq, or_false, false_or, or_true, Option.some.injEq, exists_eq_left', Bool.not_true, Bool.not_false, ne_eq, Int.reduceEq, not_true_eq_false, not_false_eq_true, Int.reduceLT, UInt8.reduceLT, UInt8.reduceLE, UInt8.reduceToNat]
          exact ⟨_, t3, _, rfl, t6 _ h2 h4 rfl rfl⟩
      · rw [if_neg h61] at hpar
        have h61d : decide (c1.2.1 ≠ 61) = true := by simp [h61]
        simp (maxSteps := 1000000) (disch := omega) only [h6, h61, qaaz, qabz, qacz, qadz, qaez, qafz, qagz, qahz, qaiz, qajz, qakz, qalz, qamz, qanz, evOp, qaoz, qapz, qaqz, qarz, qasz, qatz, qauz, qavz,
 ↓reduceIte, Nat.reduceEqDiff, List.nil_append, List.cons_append, List.append_nil, List.map_cons, List.map_nil, qawz, qaxz, qayz, Option.map_some, Option.map_none, qazz, qbaz, qbbz, qbcz, qbdz, qbez, qbfz, qbgz, qbhz, qbiz, qbjz, qbkz, qblz, qbmz, qbnz, qboz,
 qbpz, qbqz, qbrz, qbsz, qbtz, qbuz, qbvz, qbwz, qbxz, qbyz, qbzz, qcaz, qcbz, qccz, qcdz, qcez, qcfz, qcgz, qchz, qciz, beq_true, beq_false, Bool.not_eq_true', decide_eq_true_eq, decide_eq_false_iff_not, decide_true, decide_false,
 Int.toNat_natCast, Int.ofNat_lt, Int.ofNat_le, Int.natCast_inj, Bool.false_eq_true, Bool.true_eq_false, qcjz, List.getElem?_cons_zero, List.getElem?_cons_succ, qckz, Int.reduceToNat, Int.reduceLE, true_and, and_true, reduceCtorEq, or_false, false_or, or_true, Option.some.injEq, exists_eq_left', Bool.not_true, Bool.not_false, ne_eq, Int.reduceEq, not_true_eq_false, not_false_eq_true, Int.reduceLT, UInt8.reduceLT, UInt8.reduceLE, UInt8.reduceToNat]
        exact wr _ _ hk hA2 h2 (by rw [hg, hpar])
    · simp (maxSteps := 1000000) (disch := omega) only [h6, hb, qaaz, qabz, qacz, qadz, qaez, qafz, qagz, qahz, qaiz, qajz, qakz, qalz, qamz, qanz, evOp, qaoz, qapz, qaqz, qarz, qasz, qatz, qauz, qavz,
 ↓reduceIte, Nat.reduceEqDiff, List.nil_append, List.cons_append, List.append_nil, List.map_cons, List.map_nil, qawz, qaxz, qayz, Option.map_some, Option.map_none, qazz, qbaz, qbbz, qbcz, qbdz, qbez, qbfz, qbgz, qbhz, qbiz, qbjz, qbkz, qblz, qbmz, qbnz, qboz,
 qbpz, qbqz, qbrz, qbsz, qbtz, qbuz, qbvz, qbwz, qbxz, qbyz, qbzz, qcaz, qcbz, qccz, qcdz, qcez, qcfz, qcgz, qchz, qciz, beq_true, beq_false, Bool.not_eq_true', decide_eq_true_eq, decide_eq_false_iff_not, decide_true, decide_false,
 Int.toNat_natCast, Int.ofNat_lt, Int.ofNat_le, Int.natCast_inj, Bool.false_eq_true, Bool.true_eq_false, qcjz, List.getElem?_cons_zero, List.getElem?_cons_succ, qckz, Int.reduceToNat, Int.reduceLE, true_and, and_true, reduceCtorEq, or_false, false_or, or_true, Option.some.injEq, exists_eq_left', Bool.not_true, Bool.not_false, ne_eq, Int.reduceEq, not_true_eq_false, not_false_eq_true, Int.reduceLT, UInt8.reduceLT, UInt8.reduceLE, UInt8.reduceToNat]
      rw [hQQ]
      exact .inl ⟨rfl, rest, by rw [hJ]; exact ⟨fuel, acc, pv, b, hf, hal, hps, hg, hk, hA2, hA4, ho, hn, h2, h4, h6, h7⟩, by show e 6 ≠ .b8 59; rw [h6]; simpa using hb⟩
  · clear hk hA2 hA4 h2 h4 h6 h7
    rintro e S ⟨rest, hh, h59⟩
    rw [hJ] at hh
    obtain ⟨fuel, acc, pv, b, hf, hal, hps, hg, hk, hA2, hA4, ho, hn, h2, h4, h6, h7⟩ := hh
    rw [h6] at h59
    have h59' : b ≠ 59 := fun q => h59 (by rw [q])
    obtain ⟨f, rfl⟩ : ∃ f, fuel = f + 1 := ⟨fuel - 1, by omega⟩
    rw [goL, if_neg h59'] at hg
    obtain ⟨S1, a1, w1⟩ := hA4.st1 (off := 2) (v := .str rest) Leaf_str rfl (by simp)
    have k1 := w1.kp st hk hle4
    have k2 := w1.ot _ _ hne24 hA2
    have k4 : At S1 b4 [.str nm, pv, .str rest] := w1.at_
    have ko := ho.tks w1.tk
    clear hk hA2 hA4 ho w1
    by_cases h58 : b = 58
    · rw [if_pos h58] at hg
      rw [hg] at hone
      have hok : (⟨nm, pv, acc, rest⟩ : Ln).okR := ⟨own_vs ko, (own_leaf ko).2, (own_leaf ko).1.2, hnl, by simp only; omega, by simp only; omega, hps⟩
      have hrt := fun S : St => sRightR_spec (st := S) hok
      simp only [lV] at hrt
      rw [rtB_pv (w := .nils)] at hrt
      simp only [oneG] at hone
      cases hrb : rtB ⟨nm, .nils, acc, rest⟩ with
      | true =>
        rw [hrb] at hrt hone
        rw [if_pos rfl] at hone
        rw [hZ] at k2
        obtain ⟨S2, a2, w2⟩ := k2.st3 (v0 := .str nm) (v1 := pv) (v2 := .str rest) rfl (own_leaf ko).1.2 rfl rfl ((own_leaf ko).2 _) rfl
        simp (maxSteps := 1000000) (disch := omega) only [h2, h4, h6, h7, faddrPV, Nat.zero_add, a1, eq_true h58, k4.ld3, hrt, a2, qaaz, qabz, qacz, qadz, qaez, qafz, qagz, qahz, qaiz, qajz, qakz, qalz, qamz, qanz, evOp, qaoz, qapz, qaqz, qarz, qasz, qatz, qauz, qavz,
 ↓reduceIte, Nat.reduceEqDiff, List.nil_append, List.cons_append, List.append_nil, List.map_cons, List.map_nil, qawz, qaxz, qayz, Option.map_some, Option.map_none, qazz, qbaz, qbbz, qbcz, qbdz, qbez, qbfz, qbgz, qbhz, qbiz, qbjz, qbkz, qblz, qbmz, qbnz, qboz,
 qbpz, qbqz, qbrz, qbsz, qbtz, qbuz, qbvz, qbwz, qbxz, qbyz, qbzz, qcaz, qcbz, qccz, qcdz, qcez, qcfz, qcgz, qchz, qciz, beq_true, beq_false, Bool.not_eq_true', decide_eq_true_eq, decide_eq_false_iff_not, decide_true, decide_false,
 Int.toNat_natCast, Int.ofNat_lt, Int.ofNat_le, Int.natCast_inj, Bool.false_eq_true, Bool.true_eq_false, qcjz, List.getElem?_cons_zero, List.getElem?_cons_succ, qckz, Int.reduceToNat, Int.reduceLE, true_and, and_true, reduceCtorEq, or_false, false_or, or_true, Option.some.injEq, exists_eq_left', Bool.not_true, Bool.not_false, ne_eq, Int.reduceEq, not_true_eq_false, not_false_eq_true, Int.reduceLT, UInt8.reduceLT, UInt8.reduceLE, UInt8.reduceToNat]
        exact fin _ _ _ _ _ _ (w2.kp st k1 (by omega)) (ko.tks w2.tk) hn w2.at_ hone h2 rfl
      | false =>
        rw [hrb] at hrt hone
        rw [if_neg (by simp)] at hone
        simp (maxSteps := 1000000) (disch := omega) only [h2, h4, h6, h7, faddrPV, Nat.zero_add, a1, eq_true h58, k4.ld3, hrt, qaaz, qabz, qacz, qadz, qaez, qafz, qagz, qahz, qaiz, qajz, qakz, qalz, qamz, qanz, evOp, qaoz, qapz, qaqz, qarz, qasz, qatz, qauz, qavz,
 ↓reduceIte, Nat.reduceEqDiff, List.nil_append, List.cons_append, List.append_nil, List.map_cons, List.map_nil, qawz, qaxz, qayz, Option.map_some, Option.map_none, qazz, qbaz, qbbz, qbcz, qbdz, qbez, qbfz, qbgz, qbhz, qbiz, qbjz, qbkz, qblz, qbmz, qbnz, qboz,
 qbpz, qbqz, qbrz, qbsz, qbtz, qbuz, qbvz, qbwz, qbxz, qbyz, qbzz, qcaz, qcbz, qccz, qcdz, qcez, qcfz, qcgz, qchz, qciz, beq_true, beq_false, Bool.not_eq_true', decide_eq_true_eq, decide_eq_false_iff_not, decide_true, decide_false,
 Int.toNat_natCast, Int.ofNat_lt, Int.ofNat_le, Int.natCast_inj, Bool.false_eq_true, Bool.true_eq_false, qcjz, List.getElem?_cons_zero, List.getElem?_cons_succ, qckz, Int.reduceToNat, Int.reduceLE, true_and, and_true, reduceCtorEq, or_false, false_or, or_true, Option.some.injEq, exists_eq_left', Bool.not_true, Bool.not_false, ne_eq, Int.reduceEq, not_true_eq_false, not_false_eq_true, Int.reduceLT, UInt8.reduceLT, UInt8.reduceLE, UInt8.reduceToNat]
        exact wrong _ _ k1 k2 h2 hone
    · rw [if_neg h58] at hg
      simp (maxSteps := 1000000) (disch := omega) only [h2, h4, h6, h7, faddrPV, Nat.zero_add, a1, h58, qaaz, qabz, qacz, qadz, qaez, qafz, qagz, qahz, qaiz, qajz, qakz, qalz, qamz, qanz, evOp, qaoz, qapz, qaqz, qarz, qasz, qatz, qauz, qavz,
 ↓reduceIte, Nat.reduceEqDiff, List.nil_append, List.cons_append, List.append_nil, List.map_cons, List.map_nil, qawz, qaxz, qayz, Option.map_some, Option.map_none, qazz, qbaz, qbbz, qbcz, qbdz, qbez, qbfz, qbgz, qbhz, qbiz, qbjz, qbkz, qblz, qbmz, qbnz, qboz,
 qbpz, qbqz, qbrz, qbsz, qbtz, qbuz, qbvz, qbwz, qbxz, qbyz, qbzz, qcaz, qcbz, qccz, qcdz, qcez, qcfz, qcgz, qchz, qciz, beq_true, beq_false, Bool.not_eq_true', decide_eq_true_eq, decide_eq_false_iff_not, decide_true, decide_false,
 Int.toNat_natCast, Int.ofNat_lt, Int.ofNat_le, Int.natCast_inj, Bool.false_eq_true, Bool.true_eq_false, qcjz, List.getElem?_cons_zero, List.getElem?_cons_succ, qckz, Int.reduceToNat, Int.reduceLE, true_and, and_true, reduceCtorEq, or_false, false_or, or_true, Option.some.injEq, exists_eq_left', Bool.not_true, Bool.not_false, ne_eq, Int.reduceEq, not_true_eq_false, not_false_eq_true, Int.reduceLT, UInt8.reduceLT, UInt8.reduceLE, UInt8.reduceToNat]
      exact wrong _ _ k1 k2 h2 (hnone hg)
end Go.Ab

/-
  Lines are read, walked.
-/
namespace Go.Ab
set_option linter.unusedVariables false
set_option linter.unusedSimpArgs false
set_option maxRecDepth 20000
variable {st s : St} {e : Env}

theorem sLines_spec {x : PV} {l : Bs} (hx : x.by = some l) : call prog (.fn 97 []) [x] st = some (.fn 102 [.ptr st.boxes.length 0], { boxes := st.boxes ++ [[x]], toks := st.toks, loops := st.loops, low := min st.low st.boxes.length }) := by
  refine call_of_W prog_97 ?_
  unfold F_sheet_lines; dsimp only
  have hc := Leaf_by hx
  simp (maxSteps := 1000000) (disch := omega) only [by_inB hx, and_self, allocPV, hc.1, hc.2, capOk, List.all_cons, List.all_nil, Bool.and_true, qaaz, qabz, qacz, qadz, qaez, qafz, qagz, qahz, qaiz, qajz, qakz, qalz, qamz, qanz, evOp, qaoz, qapz, qaqz, qarz, qasz, qatz, qauz, qavz,
 ↓reduceIte, Nat.reduceEqDiff, List.nil_append, List.cons_append, List.append_nil, List.map_cons, List.map_nil, qawz, qaxz, qayz, Option.map_some, Option.map_none, qazz, qbaz, qbbz, qbcz, qbdz, qbez, qbfz, qbgz, qbhz, qbiz, qbjz, qbkz, qblz, qbmz, qbnz, qboz,
 qbpz, qbqz, qbrz, qbsz, qbtz, qbuz, qbvz, qbwz, qbxz, qbyz, qbzz, qcaz, qcbz, qccz, qcdz, qcez, qcfz, qcgz, qchz, qciz, beq_true, beq_false, Bool.not_eq_true', decide_eq_true_eq, decide_eq_false_iff_not, decide_true, decide_false,
 Int.toNat_natCast, Int.ofNat_lt, Int.ofNat_le, Int.natCast_inj, Bool.false_eq_true, Bool.true_eq_false, qcjz, List.getElem?_cons_zero, List.getElem?_cons_succ, qckz, Int.reduceToNat, Int.reduceLE, true_and, and_true, reduceCtorEq, or_false, false_or, or_true, Option.some.injEq, exists_eq_left', Bool.not_true, Bool.not_false, ne_eq, Int.reduceEq, not_true_eq_false, not_false_eq_true, Int.reduceLT, UInt8.reduceLT, UInt8.reduceLE, UInt8.reduceToNat]
  exact ⟨.fn 102 [.ptr st.boxes.length 0], rfl, by simp [leave, PV.inB, PV.inB.inBAll]⟩

/-- **The iterator**: what no pair ends is yielded without bytes. -/
theorem slines_iter {x : PV} {l : Bs} (hx : x.by = some l) (hl : l.length ≤ 100000000) {b k : Nat} {P : List (Nat × Bs × Bool) → St → Prop} {D : St → Prop}
    (hbox : ∀ r s, P r s → s.boxes[b]? = some [x]) (htok : ∀ r s, P r s → P r s.tok1)
    (hE : ∀ s q, P [q] s → q.2.2 = false → ∃ t s', call prog (.yld k) [.int .i64 (q.1 : Int), .nils] s = some (.bool t, s') ∧ D s')
    (hY : ∀ q r s v, P (q :: r) s → q.2.2 = true → v.by = some (full q) → (∃ s', call prog (.yld k) [.int .i64 (q.1 : Int), v] s = some (.bool true, s') ∧ P r s') ∨ (∃ s', call prog (.yld k) [.int .i64 (q.1 : Int), v] s = some (.bool false, s') ∧ D s'))
    (h0 : P (refLines l) { st with low := st.boxes.length }) : ∃ s1, (D s1 ∨ P [] s1) ∧ call prog (.fn 102 [.ptr b 0]) [.yld k] st = some (leave st s1 (.tup [])) := by
  have key : W prog F_sheet_lines_c1.body (env0 ([.yld k] ++ [.ptr b 0])) { st with low := st.boxes.length } (fun xx e1 s1 => (xx = .normal ∨ xx = .ret) ∧ (D s1 ∨ P [] s1)) := by
    obtain ⟨QQ, hQQ⟩ : ∃ QQ : Ex → Env → St → Prop, QQ = fun xx e1 s1 => (xx = .normal ∨ xx = .ret) ∧ (D s1 ∨ P [] s1) := ⟨_, rfl⟩
    rw [← hQQ]
    unfold F_sheet_lines_c1; dsimp only
    simp (maxSteps := 1000000) (disch := omega) only [qaaz, qabz, qacz, qadz, qaez, qafz, qagz, qahz, qaiz, qajz, qakz, qalz, qamz, qanz, evOp, qaoz, qapz, qaqz, qarz, qasz, qatz, qauz, qavz,
 ↓reduceIte, Nat.reduceEqDiff, List.nil_append, List.cons_append, List.append_nil, List.map_cons, List.map_nil, qawz, qaxz, qayz, Option.map_some, Option.map_none, qazz, qbaz, qbbz, qbcz, qbdz, qbez, qbfz, qbgz, qbhz, qbiz, qbjz, qbkz, qblz, qbmz, qbnz, qboz,
 qbpz, qbqz, qbrz, qbsz, qbtz, qbuz, qbvz, qbwz, qbxz, qbyz, qbzz, qcaz, qcbz, qccz, qcdz, qcez, qcfz, qcgz, qchz, qciz, beq_true, beq_false, Bool.not_eq_true', decide_eq_true_eq, decide_eq_false_iff_not, decide_true, decide_false,
 Int.toNat_natCast, Int.ofNat_lt, Int.ofNat_le, Int.natCast_inj, Bool.false_eq_true, Bool.true_eq_false, qcjz, List.getElem?_cons_zero, List.getElem?_cons_succ, qckz, Int.reduceToNat, Int.reduceLE, true_and, and_true, reduceCtorEq, or_false, false_or, or_true, Option.some.injEq, exists_eq_left', Bool.not_true, Bool.not_false, ne_eq, Int.reduceEq, not_true_eq_false, not_false_eq_true, Int.reduceLT, UInt8.reduceLT, UInt8.reduceLE, UInt8.reduceToNat]
    obtain ⟨I, hI⟩ : ∃ I : Nat → Env → St → Prop, I = fun n e s => ∃ (a : Nat), n = l.length - a ∧ a ≤ l.length ∧ P (place a (segs (l.drop a) [])) s ∧ e 0 = .yld k ∧ e 1 = .ptr b 0 ∧ e 3 = .int .i64 (a : Int) := ⟨_, rfl⟩
    refine W_loop I ?_ (n := l.length) (by rw [hI]; exact ⟨0, rfl, by omega, h0, rfl, rfl, rfl⟩)
    intro n e s h
    rw [hI] at h
    obtain ⟨a, rfl, ha, hP, e0, e1, e3⟩ := h
    have hb := hbox _ _ hP
    have hld : loadPV s false 1 (.ptr b 0) = some x := by simp [loadPV, hb, readCells]
    by_cases hal : a < l.length
    · have hd := dropB_by (i := a) hx
      have hP1 := htok _ _ hP
      have hb1 := hbox _ _ hP1
      have hld1 : loadPV s.tok1 false 1 (.ptr b 0) = some x := by simp [loadPV, hb1, readCells]
      have htk : s.tok1.toks[s.toks.length]? = some true := by simp [St.tok1]
      have hidx : call prog (.fn 32 []) [x.dropB a, .bys (.own s.toks.length) [13, 10]] s.tok1 = some (.int .i64 (Lib.index (l.drop a) [13, 10]), s.tok1) := bIndex_spec hd rfl (by simp; omega) (by simp)
      rcases segs_index (l.drop a) [] with ⟨i1, i2⟩ | ⟨n, i1, i2, i3⟩
      · have hq : ¬ ([] : List UInt8) ++ l.drop a = [] := fun hq => by
          have := congrArg List.length hq
          simp at this; omega
        rw [i2, if_neg hq] at hP1
        obtain ⟨t, s', c1, c2⟩ := hE _ _ hP1 rfl
        simp only at c1
        simp (maxSteps := 1000000) (disch := omega) only [e0, e1, e3, hld, len_by hx, hal, slc_lo hx, lit8_2, freshT_eq, htk, hidx, i1, Int.reduceNeg, Int.reduceLT, c1, qaaz, qabz, qacz, qadz, qaez, qafz, qagz, qahz, qaiz, qajz, qakz, qalz, qamz, qanz, evOp, qaoz, qapz, qaqz, qarz, qasz, qatz, qauz, qavz,
 ↓reduceIte, Nat.reduceEqDiff, List.nil_append, List.cons_append, List.append_nil, List.map_cons, List.map_nil, qawz, qaxz, qayz, Option.map_some, Option.map_none, qazz, qbaz, qbbz, qbcz, qbdz, qbez, qbfz, qbgz, qbhz, qbiz, qbjz, qbkz, qblz, qbmz, qbnz, qboz,
 qbpz, qbqz, qbrz, qbsz, qbtz, qbuz, qbvz, qbwz, qbxz, qbyz, qbzz, qcaz, qcbz, qccz, qcdz, qcez, qcfz, qcgz, qchz, qciz, beq_true, beq_false, Bool.not_eq_true', decide_eq_true_eq, decide_eq_false_iff_not, decide_true, decide_false,
 Int.toNat_natCast, Int.ofNat_lt, Int.ofNat_le, Int.natCast_inj, Bool.false_eq_true, Bool.true_eq_false, qcjz, List.getElem?_cons_zero, List.getElem?_cons_succ, qckz, Int.reduceToNat, Int.reduceLE, true_and, and_true, reduceCtorEq, or_false, false_or, or_true, Option.some.injEq, exists_eq_left', Bool.not_true, Bool.not_false, ne_eq, Int.reduceEq, not_true_eq_false, not_false_eq_true, Int.reduceLT, UInt8.reduceLT, UInt8.reduceLE, UInt8.reduceToNat]
        rw [hQQ]; exact ⟨.inr rfl, .inl c2⟩
      · simp only [List.length_drop] at i2
        have hm := midB_by (i := a) (j := a + n + 2) hx
        have hfull : (l.take (a + n + 2)).drop a = full (a, (l.drop a).take n, true) := by
          simp only [full, if_true]
          rw [List.drop_take, show a + n + 2 - a = n + 2 by omega, segs_take i1]
        rw [i3] at hP1
        simp only [place, List.nil_append] at hP1
        have hlen : ((l.drop a).take n).length = n := by simp; omega
        rw [hlen, List.drop_drop, show a + (n + 2) = a + n + 2 by omega] at hP1
        have hn0 : ¬ ((n : Int) < 0) := by omega
        rcases hY (a, (l.drop a).take n, true) _ s.tok1 (x.midB a (a + n + 2)) hP1 rfl (by rw [hm, hfull]) with ⟨s', c1, c2⟩ | ⟨s', c1, c2⟩
        · simp (maxSteps := 1000000) (disch := omega) only [e0, e1, e3, hld, len_by hx, hal, slc_lo hx, lit8_2, freshT_eq, htk, hidx, hld1, i1, hn0, add_n, slc_lohi hx, c1, qaaz, qabz, qacz, qadz, qaez, qafz, qagz, qahz, qaiz, qajz, qakz, qalz, qamz, qanz, evOp, qaoz, qapz, qaqz, qarz, qasz, qatz, qauz, qavz,
 ↓reduceIte, Nat.reduceEqDiff, List.nil_append, List.cons_append, List.append_nil, List.map_cons, List.map_nil, qawz, qaxz, qayz, Option.map_some, Option.map_none, qazz, qbaz, qbbz, qbcz, qbdz, qbez, qbfz, qbgz, qbhz, qbiz, qbjz, qbkz, qblz, qbmz, qbnz, qboz,
 qbpz, qbqz, qbrz, qbsz, qbtz, qbuz, qbvz, qbwz, qbxz, qbyz, qbzz, qcaz, qcbz, qccz, qcdz, qcez, qcfz, qcgz, qchz, qciz, beq_true, beq_false, Bool.not_eq_true', decide_eq_true_eq, decide_eq_false_iff_not, decide_true, decide_false,
 Int.toNat_natCast, Int.ofNat_lt, Int.ofNat_le, Int.natCast_inj, Bool.false_eq_true, Bool.true_eq_false, qcjz, List.getElem?_cons_zero, List.getElem?_cons_succ, qckz, Int.reduceToNat, Int.reduceLE, true_and, and_true, reduceCtorEq, or_false, false_or, or_true, Option.some.injEq, exists_eq_left', Bool.not_true, Bool.not_false, ne_eq, Int.reduceEq, not_true_eq_false, not_false_eq_true, Int.reduceLT, UInt8.reduceLT, UInt8.reduceLE, UInt8.reduceToNat]
          refine loopQ_intro (m := l.length - (a + (n + 2))) (by omega) ?_
          rw [hI]
          exact ⟨a + (n + 2), rfl, by omega, by rw [show a + (n + 2) = a + n + 2 by omega]; exact c2, e0, e1, rfl⟩
        · simp (maxSteps := 1000000) (disch := omega) only [e0, e1, e3, hld, len_by hx, hal, slc_lo hx, lit8_2, freshT_eq, htk, hidx, hld1, i1, hn0, add_n, slc_lohi hx, c1, qaaz, qabz, qacz, qadz, qaez, qafz, qagz, qahz, qaiz, qajz, qakz, qalz, qamz, qanz, evOp, qaoz, qapz, qaqz, qarz, qasz, qatz, qauz, qavz,
 ↓reduceIte, Nat.reduceEqDiff, List.nil_append, List.cons_append, List.append_nil, List.map_cons, List.map_nil, qawz, qaxz, qayz, Option.map_some, Option.map_none, qazz, qbaz, qbbz, qbcz, qbdz, qbez, qbfz, qbgz, qbhz, qbiz, qbjz, qbkz, qblz, qbmz, qbnz, qboz,
 qbpz, qbqz, qbrz, qbsz, qbtz, qbuz, qbvz, qbwz, qbxz, qbyz, qbzz, qcaz, qcbz, qccz, qcdz, qcez, qcfz, qcgz, qchz, qciz, beq_true, beq_false, Bool.not_eq_true', decide_eq_true_eq, decide_eq_false_iff_not, decide_true, decide_false,
 Int.toNat_natCast, Int.ofNat_lt, Int.ofNat_le, Int.natCast_inj, Bool.false_eq_true, Bool.true_eq_false, qcjz, List.getElem?_cons_zero, List.getElem?_cons_succ, qckz, Int.reduceToNat, Int.reduceLE, true_and, and_true, reduceCtorEq, or_false, false_or, or_true, Option.some.injEq, exists_eq_left', Bool.not_true, Bool.not_false, ne_eq, Int.reduceEq, not_true_eq_false, not_false_eq_true, Int.reduceLT, UInt8.reduceLT, UInt8.reduceLE, UInt8.reduceToNat]
          rw [hQQ]; exact ⟨.inr rfl, .inl c2⟩
    · rw [List.drop_of_length_le (by omega)] at hP
      have hP' : P [] s := hP
      simp (maxSteps := 1000000) (disch := omega) only [e0, e1, e3, hld, len_by hx, hal, qaaz, qabz, qacz, qadz, qaez, qafz, qagz, qahz, qaiz, qajz, qakz, qalz, qamz, qanz, evOp, qaoz, qapz, qaqz, qarz, qasz, qatz, qauz, qavz,
 ↓reduceIte, Nat.reduceEqDiff, List.nil_append, List.cons_append, List.append_nil, List.map_cons, List.map_nil, qawz, qaxz, qayz, Option.map_some, Option.map_none, qazz, qbaz, qbbz, qbcz, qbdz, qbez, qbfz, qbgz, qbhz, qbiz, qbjz, qbkz, qblz, qbmz, qbnz, qboz,
 qbpz, qbqz, qbrz, qbsz, qbtz, qbuz, qbvz, qbwz, qbxz, qbyz, qbzz, qcaz, qcbz, qccz, qcdz, qcez, qcfz, qcgz, qchz, qciz, beq_true, beq_false, Bool.not_eq_true', decide_eq_true_eq, decide_eq_false_iff_not, decide_true, decide_false,
 Int.toNat_natCast, Int.ofNat_lt, Int.ofNat_le, Int.natCast_inj, Bool.false_eq_true, Bool.true_eq_false, qcjz, List.getElem?_cons_zero, List.getElem?_cons_succ, qckz, Int.reduceToNat, Int.reduceLE, true_and, and_true, reduceCtorEq, or_false, false_or, or_true, Option.some.injEq, exists_eq_left', Bool.not_true, Bool.not_false, ne_eq, Int.reduceEq, not_true_eq_false, not_false_eq_true, Int.reduceLT, UInt8.reduceLT, UInt8.reduceLE, UInt8.reduceToNat]
      rw [hQQ]; exact ⟨.inl rfl, .inr hP'⟩
  obtain ⟨⟨xx, e1, s1⟩, h1, h2, h3⟩ := key
  refine ⟨s1, h3, ?_⟩
  rw [call_fn prog_102, h1]
  have hr : resOf e1 s1 F_sheet_lines_c1.results = some (.tup []) := rfl
  rcases h2 with rfl | rfl <;> simp [finish, hr]

/-! ### What stays behind the iterator -/
theorem leave_unit {c s1 : St} : ∃ X : St, leave c s1 (.tup []) = (.tup [], X) ∧ X.boxes = s1.boxes.take c.boxes.length ∧ X.loops = s1.loops ∧ (X.low = c.low ∨ X.low = min c.low s1.low) ∧ (X.toks = s1.toks ∨ (X.toks = s1.toks.take c.toks.length ∧ c.boxes.length ≤ s1.low)) := by
  by_cases h : c.boxes.length ≤ s1.low
  · exact ⟨⟨s1.boxes.take c.boxes.length, s1.toks.take c.toks.length, s1.loops, c.low⟩, by simp [leave, PV.inB, PV.inB.inBAll, keepRes, keepVals, h], rfl, rfl, .inl rfl, .inr ⟨rfl, h⟩⟩
  · exact ⟨⟨s1.boxes.take c.boxes.length, s1.toks, s1.loops, min c.low s1.low⟩, by simp [leave, PV.inB, PV.inB.inBAll, h], rfl, rfl, .inr rfl, .inl rfl⟩
theorem At.take {X : St} {b n : Nat} {cs : List PV} (h : At s b cs) (hb : b < n) (hX : X.boxes = s.boxes.take n) : At X b cs := by
  unfold At at *; rw [hX, List.getElem?_take, if_pos hb]; exact h
def stL (st : St) (rs : List LoopS) : St := ⟨st.boxes, st.toks, st.loops ++ rs, st.low⟩
theorem At.stk {S : St} {b : Nat} (h : At S b [.nils]) : storePV S 1 (.ptr b 0) .nils = some S := by
  unfold At at h
  have h2 := (List.getElem?_eq_some_iff.1 h)
  obtain ⟨hlt, hg⟩ := h2
  have : S.boxes.set b [.nils] = S.boxes := by rw [← hg]; simp
  simp [storePV, h, PV.cells, PV.inB, setCells, leafOk, hasTok, tokOf, this]
theorem At.st1own {S : St} {b i esz : Nat} {c : PV} {xs : List PV} (h : At S b [c]) : ∃ S', storePV S 1 (.ptr b 0) (.sl esz (.own i) xs) = some S' ∧ Wrote S S' b [.sl esz (.own i) xs] ∧ S'.low ≤ b := by
  refine ⟨_, ?_, wrote_set (ds := [.sl esz (.own i) xs]) (lo := min S.low b) h (.inr rfl), by simp only; omega⟩
  unfold At at h
  simp [storePV, h, PV.cells, PV.inB, setCells, leafOk, hasTok, tokOf]

/-- Lines that were read, as values. -/
def dV (d : LnD) : PV := lV (toLn d)
def readV (st : St) : Except (Nat × Int) (List LnD) → PV × St
  | .error (j, c) => (.tup [.nils, .agg [.int .i64 (j : Int), .int .i64 c]], st)
  | .ok ds => (.tup [newSl st 3 (ds.map dV), .agg [.int .i64 0, .int .i64 0]], newS st (ds.map dV).isEmpty)
def preE (ds : List LnD) : Except Nat (List LnD) → Except Nat (List LnD)
  | .error j => .error j
  | .ok l => .ok (ds ++ l)
theorem preE_nil {r : Except Nat (List LnD)} : preE [] r = r := by cases r <;> rfl
theorem leave_rows {S : St} {v : PV} {xs : List PV} {a c : Int} (hk : Kept st S) (h : Own st S 3 v xs) (hne : xs = [] → v = .nils) :
    leave st S (.tup [v, .agg [.int .i64 a, .int .i64 c]]) = (.tup [newSl st 3 xs, .agg [.int .i64 a, .int .i64 c]], newS st xs.isEmpty) := by
  have e1 := hk.bx; have e2 := hk.lp; have e3 := hk.tk
  rcases h with ⟨rfl, rfl⟩ | ⟨i, rfl, h2, h3⟩
  · simp [leave, PV.inB, PV.inB.inBAll, hk.lw, keepRes, keepVals, keepVal, keepCells, keepLeaf, newSl, newS, e1, e2, e3]
  · by_cases hx : xs = []
    · have := hne hx; cases this
    · simp [leave, PV.inB, PV.inB.inBAll, hk.lw, keepRes, keepVals, keepVal, keepCells, keepLeaf, keepTok, newSl, newS, hx, h3, show ¬ i < st.toks.length by omega, e1, e2, e3, St.tok1]
theorem lit_line {S : St} {d : LnD} {z : PV} : litFill 3 (List.replicate 1 z) [(0, .agg [.str d.1, newSl S 2 (d.2.1.map fV), .str d.2.2])] = some [dV d] := by
  refine lit1 ?_ rfl
  obtain ⟨n, ps, v⟩ := d
  cases ps with
  | nil => simp [newSl, strip, stripAll, stripLeaf, dV, lV, toLn]
  | cons p r => simp [newSl, strip, stripAll, stripLeaf, dV, lV, toLn]
theorem newS_bx {S : St} {b : Bool} : (newS S b).boxes = S.boxes ∧ (newS S b).low = S.low ∧ (newS S b).loops = S.loops := by cases b <;> exact ⟨rfl, rfl, rfl⟩
theorem Kept.newS {S : St} {b : Bool} (h : Kept st S) : Kept st (newS S b) := by cases b; exact h.tok1; exact h
theorem Own.newS {S : St} {b : Bool} {esz : Nat} {v : PV} {xs : List PV} (h : Own st S esz v xs) : Own st (newS S b) esz v xs := by cases b; exact h.tok1; exact h
theorem newSl_leaf {S : St} {esz : Nat} {xs : List PV} : leafOk (newSl S esz xs) = true ∧ ∀ n, (newSl S esz xs).inB n = true := by unfold newSl; split <;> exact ⟨rfl, fun _ => rfl⟩
end Go.Ab

/-
  Lines are read, walked.
-/
namespace Go.Ab
set_option linter.unusedVariables false
set_option linter.unusedSimpArgs false
set_option maxRecDepth 20000
variable {st s : St} {e : Env}

theorem eqnB {t : Tok} {l : List UInt8} : binPV .eql .slice (.bys t l) .nils = some (.bool false) := rfl
theorem eqnN : binPV .eql .slice .nils .nils = some (.bool true) := rfl
theorem lenB {t : Tok} {l : List UInt8} : lenPV false (.bys t l) = some (.int .i64 (l.length : Int)) := rfl
theorem own_len {esz : Nat} {v : PV} {xs : List PV} (h : Own st s esz v xs) : lenPV false v = some (.int .i64 (xs.length : Int)) := by
  rcases h with ⟨rfl, rfl⟩ | ⟨i, rfl, _⟩ <;> simp [lenPV]
theorem Kept.swap {S : St} {r r' : LoopS} (h : Kept (stL st [r]) S) : Kept (stL st [r']) { S with loops := S.loops.set st.loops.length r' } := by
  refine ⟨h.bx, ?_, h.lw, h.tk⟩
  have := h.lp
  simp only [stL] at this ⊢
  rw [this, set_app0]
theorem Kept.lget {S : St} {r : LoopS} (h : Kept (stL st [r]) S) : S.loops[st.loops.length]? = some r := by
  have := h.lp
  simp only [stL] at this
  rw [this]; exact get_app0

theorem segs_each : ∀ (k : Nat) (l acc : Bs), l.length ≤ k → ∀ q ∈ segs l acc, q.1.length ≤ acc.length + l.length := by
  intro k
  induction k with
  | zero =>
    intro l acc h q hq
    have : l = [] := List.eq_nil_of_length_eq_zero (by omega)
    subst this
    simp only [segs] at hq
    split at hq
    · simp at hq
    · simp only [List.mem_singleton] at hq; subst hq; simp
  | succ k ih =>
    intro l acc h q hq
    match l with
    | [] =>
      simp only [segs] at hq
      split at hq
      · simp at hq
      · simp only [List.mem_singleton] at hq; subst hq; simp
    | [c] => simp only [segs, List.mem_singleton] at hq; subst hq; simp
    | c :: d :: r =>
      simp only [segs] at hq
      split at hq
      · rcases List.mem_cons.1 hq with rfl | hq
        · (first | (simp; done) | (simp; omega))
        · have := ih r [] (by simp at h; omega) q hq
          simp at this ⊢; omega
      · have := ih (d :: r) (acc ++ [c]) (by simp at h ⊢; omega) q hq
        simp at this ⊢; omega
theorem place_mem : ∀ (p : List (Bs × Bool)) (a : Nat) (q : Nat × Bs × Bool), q ∈ place a p → q.2 ∈ p := by
  intro p
  induction p with
  | nil => intro a q h; simp [place] at h
  | cons z r ih =>
    intro a q h
    obtain ⟨b, w⟩ := z
    simp only [place, List.mem_cons] at h
    rcases h with rfl | h
    · simp
    · exact List.mem_cons_of_mem _ (ih _ _ h)
theorem refLines_each {l : Bs} {q : Nat × Bs × Bool} (h : q ∈ refLines l) : q.2.1.length ≤ l.length := by
  have := segs_each l.length l [] (Nat.le_refl _) q.2 (place_mem _ _ _ h)
  simpa using this

set_option maxHeartbeats 8000000 in
theorem Read_spec {y : PV} {l : Bs} (hy : y.by = some l) (hl : l.length ≤ 1000000) (hN : (refLines (unfV l)).length ≤ 4096) : call prog (.fn 89 []) [y] st = some (readV st (readL l)) := by
  refine call_of_W prog_89 ?_
  unfold F_sheet_Read; dsimp only
  generalize hQ1 : endQ st _ _ = Q0
  have hQ0 : Q0 = endQ st [.cell 2 false 1, .cell 3 true 2] (readV st (readL l)) := hQ1.symm
  clear hQ1
  obtain ⟨b2, hb2⟩ : ∃ b2, b2 = st.boxes.length := ⟨_, rfl⟩
  obtain ⟨b3, hb3⟩ : ∃ b3, b3 = st.boxes.length + 1 := ⟨_, rfl⟩
  have hne23 : b2 ≠ b3 := by omega
  obtain ⟨u, hu⟩ : ∃ u, u = unfV l := ⟨_, rfl⟩
  have hul : u.length ≤ 1000000 := by rw [hu]; exact Nat.le_trans (unfV_len _ l (Nat.le_refl _)) hl
  rw [← hu] at hN
  have hrd : readL l = match ptsOf (u.length + 1) u 0 with
    | .error j => .error (j, 20)
    | .ok _ => (match readG (refLines u) with
      | .ok l => .ok l
      | .error j => .error (j, 90)) := by rw [hu]; rfl
  obtain ⟨bst, hbst⟩ : ∃ f : Int → Int → PV, f = fun a c => .agg [.int .i64 a, .int .i64 c] := ⟨_, rfl⟩
  have finE : ∀ (E : Env) (S : St) (j : Nat) (c : Int), Kept st S → At S b2 [.nils] → At S b3 [.int .i64 (j : Int), .int .i64 c] → readL l = .error (j, c) → E 2 = .ptr b2 0 → E 3 = .ptr b3 0 → Q0 .ret E S := by
    intro E S j c k1 k2 k3 ho e2 e3
    rw [hQ0, qblz]
    have h2 := k2.load (k := 0) (v := .nils) (r := []) rfl
    refine ⟨.tup [.nils, .agg [.int .i64 (j : Int), .int .i64 c]], by simp [resOf, rvAll, rv1, e2, e3, h2, k3.ld2, notTup, packRes], ?_⟩
    rw [ho]
    exact k1.leave' ⟨fun _ => rfl, fun _ _ => rfl⟩
  have finO : ∀ (E : Env) (S : St) (out : PV) (ds : List LnD), Kept st S → At S b2 [out] → At S b3 [.int .i64 0, .int .i64 0] → Own st S 3 out (ds.map dV) → (ds.map dV = [] → out = .nils) → readL l = .ok ds → E 2 = .ptr b2 0 → E 3 = .ptr b3 0 → Q0 .ret E S := by
    intro E S out ds k1 k2 k3 ko kn ho e2 e3
    rw [hQ0, qblz]
    have h2 := k2.load (k := 0) (v := out) (r := []) rfl
    have hnt := own_nt ko
    refine ⟨.tup [out, .agg [.int .i64 0, .int .i64 0]], by rcases ko with ⟨rfl, _⟩ | ⟨i, rfl, _⟩ <;> simp [resOf, rvAll, rv1, e2, e3, h2, k3.ld2, notTup, packRes], ?_⟩
    rw [ho]
    exact leave_rows k1 ko kn
  refine W_cut (fun E S => Kept st S ∧ At S b2 [.nils] ∧ At S b3 [.int .i64 0, .int .i64 0] ∧ E 0 = y ∧ E 2 = .ptr b2 0 ∧ E 3 = .ptr b3 0) ?_ ?_
  · simp (maxSteps := 1000000) (disch := omega) only [allocPV, qaaz, qabz, qacz, qadz, qaez, qafz, qagz, qahz, qaiz, qajz, qakz, qalz, qamz, qanz, evOp, qaoz, qapz, qaqz, qarz, qasz, qatz, qauz, qavz,
 ↓reduceIte, Nat.reduceEqDiff, List.nil_append, List.cons_append, List.append_nil, List.map_cons, List.map_nil, qawz, qaxz, qayz, Option.map_some, Option.map_none, qazz, qbaz, qbbz, qbcz, qbdz, qbez, qbfz, qbgz, qbhz, qbiz, qbjz, qbkz, qblz, qbmz, qbnz, qboz,
 qbpz, qbqz, qbrz, qbsz, qbtz, qbuz, qbvz, qbwz, qbxz, qbyz, qbzz, qcaz, qcbz, qccz, qcdz, qcez, qcfz, qcgz, qchz, qciz, beq_true, beq_false, Bool.not_eq_true', decide_eq_true_eq, decide_eq_false_iff_not, decide_true, decide_false,
 Int.toNat_natCast, Int.ofNat_lt, Int.ofNat_le, Int.natCast_inj, Bool.false_eq_true, Bool.true_eq_false, qcjz, List.getElem?_cons_zero, List.getElem?_cons_succ, qckz, Int.reduceToNat, Int.reduceLE, true_and, and_true, reduceCtorEq, or_false, false_or, or_true, Option.some.injEq, exists_eq_left', Bool.not_true, Bool.not_false, ne_eq, Int.reduceEq, not_true_eq_false, not_false_eq_true, Int.reduceLT, UInt8.reduceLT, UInt8.reduceLE, UInt8.reduceToNat]
    refine ⟨Kept.start.alloc'.alloc', ?_, ?_, by rw [hb2], by rw [hb3]; simp⟩
    · rw [hb2]; exact (At.last (s := ⟨st.boxes, st.toks, st.loops, st.boxes.length⟩) (z := [.nils]) (T := st.toks) (Lp := st.loops) (lo := st.boxes.length)).alloc
    · rw [hb3]; unfold At; simp
  rintro e S ⟨hk, hA2, hA3, h0, h2, h3⟩
  refine W_cut (fun E S => Kept st S ∧ At S b2 [.nils] ∧ At S b3 [.int .i64 0, .int .i64 0] ∧ E 0 = y ∧ E 2 = .ptr b2 0 ∧ E 3 = .ptr b3 0) ?_ ?_
  · have e1 : ¬ (1048576 : Int) < (l.length : Int) := by omega
    simp (maxSteps := 1000000) (disch := omega) only [h0, h2, h3, len_by hy, e1, qaaz, qabz, qacz, qadz, qaez, qafz, qagz, qahz, qaiz, qajz, qakz, qalz, qamz, qanz, evOp, qaoz, qapz, qaqz, qarz, qasz, qatz, qauz, qavz,
 ↓reduceIte, Nat.reduceEqDiff, List.nil_append, List.cons_append, List.append_nil, List.map_cons, List.map_nil, qawz, qaxz, qayz, Option.map_some, Option.map_none, qazz, qbaz, qbbz, qbcz, qbdz, qbez, qbfz, qbgz, qbhz, qbiz, qbjz, qbkz, qblz, qbmz, qbnz, qboz,
 qbpz, qbqz, qbrz, qbsz, qbtz, qbuz, qbvz, qbwz, qbxz, qbyz, qbzz, qcaz, qcbz, qccz, qcdz, qcez, qcfz, qcgz, qchz, qciz, beq_true, beq_false, Bool.not_eq_true', decide_eq_true_eq, decide_eq_false_iff_not, decide_true, decide_false,
 Int.toNat_natCast, Int.ofNat_lt, Int.ofNat_le, Int.natCast_inj, Bool.false_eq_true, Bool.true_eq_false, qcjz, List.getElem?_cons_zero, List.getElem?_cons_succ, qckz, Int.reduceToNat, Int.reduceLE, true_and, and_true, reduceCtorEq, or_false, false_or, or_true, Option.some.injEq, exists_eq_left', Bool.not_true, Bool.not_false, ne_eq, Int.reduceEq, not_true_eq_false, not_false_eq_true, Int.reduceLT, UInt8.reduceLT, UInt8.reduceLE, UInt8.reduceToNat]
    exact ⟨hk, hA2, hA3⟩
  clear hk hA2 hA3 h0 h2 h3
  rintro e S ⟨hk, hA2, hA3, h0, h2, h3⟩
  refine W_cut (fun E S => Kept st S ∧ At S b2 [.nils] ∧ At S b3 [.int .i64 0, .int .i64 0] ∧ (∃ x, E 0 = x ∧ x.by = some u) ∧ E 2 = .ptr b2 0 ∧ E 3 = .ptr b3 0) ?_ ?_
  · obtain ⟨⟨x, S'⟩, q1, T, q2, q3⟩ := unfold_spec (st := S) hy (by omega)
    simp only at q2 q3
    rw [q2] at q1
    rw [← hu] at q3
    simp (maxSteps := 1000000) (disch := omega) only [h0, h2, h3, q1, qaaz, qabz, qacz, qadz, qaez, qafz, qagz, qahz, qaiz, qajz, qakz, qalz, qamz, qanz, evOp, qaoz, qapz, qaqz, qarz, qasz, qatz, qauz, qavz,
 ↓reduceIte, Nat.reduceEqDiff, List.nil_append, List.cons_append, List.append_nil, List.map_cons, List.map_nil, qawz, qaxz, qayz, Option.map_some, Option.map_none, qazz, qbaz, qbbz, qbcz, qbdz, qbez, qbfz, qbgz, qbhz, qbiz, qbjz, qbkz, qblz, qbmz, qbnz, qboz,
 qbpz, qbqz, qbrz, qbsz, qbtz, qbuz, qbvz, qbwz, qbxz, qbyz, qbzz, qcaz, qcbz, qccz, qcdz, qcez, qcfz, qcgz, qchz, qciz, beq_true, beq_false, Bool.not_eq_true', decide_eq_true_eq, decide_eq_false_iff_not, decide_true, decide_false,
 Int.toNat_natCast, Int.ofNat_lt, Int.ofNat_le, Int.natCast_inj, Bool.false_eq_true, Bool.true_eq_false, qcjz, List.getElem?_cons_zero, List.getElem?_cons_succ, qckz, Int.reduceToNat, Int.reduceLE, true_and, and_true, reduceCtorEq, or_false, false_or, or_true, Option.some.injEq, exists_eq_left', Bool.not_true, Bool.not_false, ne_eq, Int.reduceEq, not_true_eq_false, not_false_eq_true, Int.reduceLT, UInt8.reduceLT, UInt8.reduceLE, UInt8.reduceToNat]
    exact ⟨hk.toks, hA2.bx rfl, hA3.bx rfl, q3⟩
  clear hk hA2 hA3 h0 h2 h3
  rintro e S ⟨hk, hA2, hA3, ⟨x, h0, hx⟩, h2, h3⟩
  obtain ⟨b5, hb5⟩ : ∃ b5, b5 = S.boxes.length := ⟨_, rfl⟩
  have hne25 : b2 ≠ b5 := by have := hA2.lt; omega
  have hne35 : b3 ≠ b5 := by have := hA3.lt; omega
  have hle5 : st.boxes.length ≤ b5 := by have := hk.bl; omega
  have hpt := uPoints_spec (st := S) hx (by omega)
  have hA5 := At.last (s := S) (z := [.int .i64 0, .int .i64 0]) (T := S.toks) (Lp := S.loops) (lo := S.low)
  refine W_cutX (fun E S => Kept st S ∧ At S b2 [.nils] ∧ At S b3 [.int .i64 0, .int .i64 0] ∧ (∃ r, ptsOf (u.length + 1) u 0 = .ok r) ∧ E 0 = x ∧ E 2 = .ptr b2 0 ∧ E 3 = .ptr b3 0) ?_ ?_
  · cases hp : ptsOf (u.length + 1) u 0 with
    | error j =>
      rw [hp] at hpt hrd
      simp only [ptsV] at hpt
      rw [← hb5] at hA5
      obtain ⟨S1, a1, w1⟩ := hA5.st2 (v0 := .int .i64 (j : Int)) (v1 := .int .i64 20) rfl rfl rfl rfl
      have k1 := w1.kp st hk.alloc' hle5
      have k2 := w1.ot _ _ hne25 hA2.alloc
      have k3 := w1.ot _ _ hne35 hA3.alloc
      have hld := w1.at_.load (k := 1) (v := .int .i64 20) (r := []) rfl
      obtain ⟨S2, a2, w2⟩ := k3.st2 (v0 := .int .i64 (j : Int)) (v1 := .int .i64 20) rfl rfl rfl rfl
      simp (maxSteps := 1000000) (disch := omega) only [h0, h2, h3, hpt, allocPV, ← hb5, a1, faddrPV, Nat.zero_add, hld, w1.at_.ld2, k2.stk, a2, qaaz, qabz, qacz, qadz, qaez, qafz, qagz, qahz, qaiz, qajz, qakz, qalz, qamz, qanz, evOp, qaoz, qapz, qaqz, qarz, qasz, qatz, qauz, qavz,
 ↓reduceIte, Nat.reduceEqDiff, List.nil_append, List.cons_append, List.append_nil, List.map_cons, List.map_nil, qawz, qaxz, qayz, Option.map_some, Option.map_none, qazz, qbaz, qbbz, qbcz, qbdz, qbez, qbfz, qbgz, qbhz, qbiz, qbjz, qbkz, qblz, qbmz, qbnz, qboz,
 qbpz, qbqz, qbrz, qbsz, qbtz, qbuz, qbvz, qbwz, qbxz, qbyz, qbzz, qcaz, qcbz, qccz, qcdz, qcez, qcfz, qcgz, qchz, qciz, beq_true, beq_false, Bool.not_eq_true', decide_eq_true_eq, decide_eq_false_iff_not, decide_true, decide_false,
 Int.toNat_natCast, Int.ofNat_lt, Int.ofNat_le, Int.natCast_inj, Bool.false_eq_true, Bool.true_eq_false, qcjz, List.getElem?_cons_zero, List.getElem?_cons_succ, qckz, Int.reduceToNat, Int.reduceLE, true_and, and_true, reduceCtorEq, or_false, false_or, or_true, Option.some.injEq, exists_eq_left', Bool.not_true, Bool.not_false, ne_eq, Int.reduceEq, not_true_eq_false, not_false_eq_true, Int.reduceLT, UInt8.reduceLT, UInt8.reduceLE, UInt8.reduceToNat]
      right
      exact finE _ _ j 20 (w2.kp st k1 (by omega)) (w2.ot _ _ hne23 k2) w2.at_ hrd h2 h3
    | ok r =>
      rw [hp] at hpt
      simp only [ptsV] at hpt
      obtain ⟨S0, hS0⟩ : ∃ S0, S0 = newS S (r.map ptV).isEmpty := ⟨_, rfl⟩
      obtain ⟨nb, nl, np⟩ := newS_bx (S := S) (b := (r.map ptV).isEmpty)
      have k0 := hk.newS (b := (r.map ptV).isEmpty)
      rw [← hS0] at hpt nb nl np k0
      have hA5' := At.last (s := S0) (z := [.int .i64 0, .int .i64 0]) (T := S0.toks) (Lp := S0.loops) (lo := S0.low)
      have hb5' : b5 = S0.boxes.length := by rw [nb]; exact hb5
      rw [← hb5'] at hA5'
      obtain ⟨S1, a1, w1⟩ := hA5'.st2 (v0 := .int .i64 0) (v1 := .int .i64 0) rfl rfl rfl rfl
      have k1 := w1.kp st k0.alloc' hle5
      have k2 := w1.ot _ _ hne25 (hA2.bx nb).alloc
      have k3 := w1.ot _ _ hne35 (hA3.bx nb).alloc
      have hld := w1.at_.load (k := 1) (v := .int .i64 0) (r := []) rfl
      simp (maxSteps := 1000000) (disch := omega) only [h0, h2, h3, hpt, allocPV, ← hb5', a1, faddrPV, Nat.zero_add, hld, qaaz, qabz, qacz, qadz, qaez, qafz, qagz, qahz, qaiz, qajz, qakz, qalz, qamz, qanz, evOp, qaoz, qapz, qaqz, qarz, qasz, qatz, qauz, qavz,
 ↓reduceIte, Nat.reduceEqDiff, List.nil_append, List.cons_append, List.append_nil, List.map_cons, List.map_nil, qawz, qaxz, qayz, Option.map_some, Option.map_none, qazz, qbaz, qbbz, qbcz, qbdz, qbez, qbfz, qbgz, qbhz, qbiz, qbjz, qbkz, qblz, qbmz, qbnz, qboz,
 qbpz, qbqz, qbrz, qbsz, qbtz, qbuz, qbvz, qbwz, qbxz, qbyz, qbzz, qcaz, qcbz, qccz, qcdz, qcez, qcfz, qcgz, qchz, qciz, beq_true, beq_false, Bool.not_eq_true', decide_eq_true_eq, decide_eq_false_iff_not, decide_true, decide_false,
 Int.toNat_natCast, Int.ofNat_lt, Int.ofNat_le, Int.natCast_inj, Bool.false_eq_true, Bool.true_eq_false, qcjz, List.getElem?_cons_zero, List.getElem?_cons_succ, qckz, Int.reduceToNat, Int.reduceLE, true_and, and_true, reduceCtorEq, or_false, false_or, or_true, Option.some.injEq, exists_eq_left', Bool.not_true, Bool.not_false, ne_eq, Int.reduceEq, not_true_eq_false, not_false_eq_true, Int.reduceLT, UInt8.reduceLT, UInt8.reduceLE, UInt8.reduceToNat]
      left
      exact ⟨k1, k2, k3, ⟨r, rfl⟩⟩
  clear hk hA2 hA3 h0 h2 h3 hpt hA5
  clear hle5 hne35 hne25 hb5 b5
  rintro e S ⟨hk, hA2, hA3, ⟨r0, hpt⟩, h0, h2, h3⟩
  obtain ⟨W, hW⟩ : ∃ W, W = readG (refLines u) := ⟨_, rfl⟩
  rw [hpt, ← hW] at hrd
  simp only at hrd
  obtain ⟨b6, hb6⟩ : ∃ b6, b6 = S.boxes.length := ⟨_, rfl⟩
  have hne26 : b2 ≠ b6 := by have := hA2.lt; omega
  have hne36 : b3 ≠ b6 := by have := hA3.lt; omega
  have hle6 : st.boxes.length ≤ b6 := by have := hk.bl; omega
  refine W_cut (fun E S => Kept st S ∧ At S b2 [.nils] ∧ At S b3 [.int .i64 0, .int .i64 0] ∧ At S b6 [.nils] ∧ S.boxes.length = b6 + 1 ∧ E 0 = x ∧ E 2 = .ptr b2 0 ∧ E 3 = .ptr b3 0 ∧ E 6 = .ptr b6 0) ?_ ?_
  · simp (maxSteps := 1000000) (disch := omega) only [h0, h2, h3, allocPV, qaaz, qabz, qacz, qadz, qaez, qafz, qagz, qahz, qaiz, qajz, qakz, qalz, qamz, qanz, evOp, qaoz, qapz, qaqz, qarz, qasz, qatz, qauz, qavz,
 ↓reduceIte, Nat.reduceEqDiff, List.nil_append, List.cons_append, List.append_nil, List.map_cons, List.map_nil, qawz, qaxz, qayz, Option.map_some, Option.map_none, qazz, qbaz, qbbz, qbcz, qbdz, qbez, qbfz, qbgz, qbhz, qbiz, qbjz, qbkz, qblz, qbmz, qbnz, qboz,
 qbpz, qbqz, qbrz, qbsz, qbtz, qbuz, qbvz, qbwz, qbxz, qbyz, qbzz, qcaz, qcbz, qccz, qcdz, qcez, qcfz, qcgz, qchz, qciz, beq_true, beq_false, Bool.not_eq_true', decide_eq_true_eq, decide_eq_false_iff_not, decide_true, decide_false,
 Int.toNat_natCast, Int.ofNat_lt, Int.ofNat_le, Int.natCast_inj, Bool.false_eq_true, Bool.true_eq_false, qcjz, List.getElem?_cons_zero, List.getElem?_cons_succ, qckz, Int.reduceToNat, Int.reduceLE, true_and, and_true, reduceCtorEq, or_false, false_or, or_true, Option.some.injEq, exists_eq_left', Bool.not_true, Bool.not_false, ne_eq, Int.reduceEq, not_true_eq_false, not_false_eq_true, Int.reduceLT, UInt8.reduceLT, UInt8.reduceLE, UInt8.reduceToNat]
    exact ⟨hk.alloc', hA2.alloc, hA3.alloc, by rw [hb6]; exact At.last, by rw [hb6]; simp, by rw [hb6]⟩
  clear hk hA2 hA3 h0 h2 h3 hb6
  rintro e S ⟨hk, hA2, hA3, hA6, hbl, h0, h2, h3, h6⟩
  obtain ⟨bi, hbi⟩ : ∃ bi, bi = S.boxes.length := ⟨_, rfl⟩
  have hbi6 : bi = b6 + 1 := by omega
  have hli := sLines_spec (st := S) hx
  rw [← hbi] at hli
  -- the whole range
  obtain ⟨J, hJ⟩ : ∃ J : Env → St → Prop, J = fun E S => ∃ out ds, Kept st S ∧ At S b2 [.nils] ∧ At S b3 [.int .i64 0, .int .i64 0] ∧ At S b6 [out] ∧ Own st S 3 out (ds.map dV) ∧ (ds.map dV = [] → out = .nils) ∧ W = .ok ds ∧ E 2 = .ptr b2 0 ∧ E 3 = .ptr b3 0 ∧ E 6 = .ptr b6 0 := ⟨_, rfl⟩
  refine W_cutX J ?_ ?_
  · have hxl := Leaf_by hx
    obtain ⟨Sc, hSc⟩ : ∃ Sc : St, Sc = ⟨S.boxes ++ [[x]], S.toks, S.loops, min S.low bi⟩ := ⟨_, rfl⟩
    rw [← hSc] at hli
    have kc : Kept st Sc := by
      have h1 := hk.alloc' (z := [x])
      rw [hSc]
      exact ⟨h1.bx, h1.lp, by have := hk.lw; have := hk.bl; simp only; omega, h1.tk⟩
    have c2 : At Sc b2 [.nils] := by rw [hSc]; exact hA2.alloc
    have c3 : At Sc b3 [.int .i64 0, .int .i64 0] := by rw [hSc]; exact hA3.alloc
    have c6 : At Sc b6 [.nils] := by rw [hSc]; exact hA6.alloc
    have ci : At Sc bi [x] := by rw [hSc, hbi]; exact At.last
    have cbl : Sc.boxes.length = b6 + 2 := by rw [hSc]; simp; omega
    clear hSc hk hA2 hA3 hA6 hbi hbl
    rw [qaaz]
    simp (maxSteps := 1000000) (disch := omega) only [h0, hli, qazz, qaaz, qabz, qacz, qaez, qafz, qagz, qahz, qaiz, qajz, qakz, qalz, qamz, qanz, evOp, qaoz, qapz, qaqz, qarz, qasz, qatz, qauz, qavz,
 ↓reduceIte, Nat.reduceEqDiff, List.nil_append, List.cons_append, List.append_nil, List.map_cons, List.map_nil, qawz, qaxz, qayz, Option.map_some, Option.map_none, qazz, qbaz, qbbz, qbcz, qbdz, qbez, qbfz, qbgz, qbhz, qbiz, qbjz, qbkz, qblz, qbmz, qbnz, qboz,
 qbpz, qbqz, qbrz, qbsz, qbtz, qbuz, qbvz, qbwz, qbxz, qbyz, qbzz, qcaz, qcbz, qccz, qcdz, qcez, qcfz, qcgz, qchz, qciz, beq_true, beq_false, Bool.not_eq_true', decide_eq_true_eq, decide_eq_false_iff_not, decide_true, decide_false,
 Int.toNat_natCast, Int.ofNat_lt, Int.ofNat_le, Int.natCast_inj, Bool.false_eq_true, Bool.true_eq_false, qcjz, List.getElem?_cons_zero, List.getElem?_cons_succ, qckz, Int.reduceToNat, Int.reduceLE, true_and, and_true, reduceCtorEq, or_false, false_or, or_true, Option.some.injEq, exists_eq_left', Bool.not_true, Bool.not_false, ne_eq, Int.reduceEq, not_true_eq_false, not_false_eq_true, Int.reduceLT, UInt8.reduceLT, UInt8.reduceLE, UInt8.reduceToNat]
    rw [qadz]
    refine W_rangeFunc (fid := 102) (caps := [.ptr bi 0]) rfl prog_102 ?_
    generalize hrec : recOf _ _ _ _ = rec
    have hra := congrArg LoopS.assign hrec.symm
    have hrb := congrArg LoopS.body hrec.symm
    dsimp only [recOf] at hra hrb
    have r0 : rec.status = 0 := by rw [← hrec]; rfl
    have r1 : rec.pend = .normal := by rw [← hrec]; rfl
    have r2 : rec.params = [28, 29] := by rw [← hrec]; rfl
    have r3 : rec.env 2 = .ptr b2 0 := by rw [← hrec]; exact h2
    have r4 : rec.env 3 = .ptr b3 0 := by rw [← hrec]; exact h3
    have r6 : rec.env 6 = .ptr b6 0 := by rw [← hrec]; exact h6
    have r5 : rec = { rec with status := 0, pend := .normal } := by rw [← hrec]; rfl
    clear hrec
    have hlp := kc.lp
    obtain ⟨P, hP⟩ : ∃ P : List (Nat × Bs × Bool) → St → Prop, P = fun r S => ∃ out ds, Kept (stL st [rec]) S ∧ At S b2 [.nils] ∧ At S b3 [.int .i64 0, .int .i64 0] ∧ At S b6 [out] ∧ At S bi [x] ∧ Own st S 3 out (ds.map dV) ∧ (ds.map dV = [] → out = .nils) ∧ (out = .nils ∨ S.low ≤ b6) ∧ W = preE ds (readG r) ∧ ds.length + r.length ≤ 4096 ∧ ∀ q ∈ r, q.2.1.length ≤ 1000000 := ⟨_, rfl⟩
    obtain ⟨D, hD⟩ : ∃ D : St → Prop, D = fun S => ∃ j : Nat, Kept (stL st [{ rec with status := 2, pend := .ret }]) S ∧ At S b2 [.nils] ∧ At S b3 [.int .i64 (j : Int), .int .i64 90] ∧ W = .error j := ⟨_, rfl⟩
    obtain ⟨rec1, hrec1⟩ : ∃ r, r = ({ rec with status := 1 } : LoopS) := ⟨_, rfl⟩
    have hasg : ∀ (a : Int) (v : PV) (S : St), ex prog rec.assign (updAll rec.env rec.params [.int .i64 a, v]) S = some (.normal, upd (upd (upd (upd rec.env 28 (.int .i64 a)) 29 v) 7 (.int .i64 a)) 8 v, S) := fun a v S => by
      refine ex_of_W ?_
      simp (maxSteps := 1000000) (disch := omega) only [hra, r2, updAll, qaaz, qabz, qacz, qadz, qaez, qafz, qagz, qahz, qaiz, qajz, qakz, qalz, qamz, qanz, evOp, qaoz, qapz, qaqz, qarz, qasz, qatz, qauz, qavz,
 ↓reduceIte, Nat.reduceEqDiff, List.nil_append, List.cons_append, List.append_nil, List.map_cons, List.map_nil, qawz, qaxz, qayz, Option.map_some, Option.map_none, qazz, qbaz, qbbz, qbcz, qbdz, qbez, qbfz, qbgz, qbhz, qbiz, qbjz, qbkz, qblz, qbmz, qbnz, qboz,
 qbpz, qbqz, qbrz, qbsz, qbtz, qbuz, qbvz, qbwz, qbxz, qbyz, qbzz, qcaz, qcbz, qccz, qcdz, qcez, qcfz, qcgz, qchz, qciz, beq_true, beq_false, Bool.not_eq_true', decide_eq_true_eq, decide_eq_false_iff_not, decide_true, decide_false,
 Int.toNat_natCast, Int.ofNat_lt, Int.ofNat_le, Int.natCast_inj, Bool.false_eq_true, Bool.true_eq_false, qcjz, List.getElem?_cons_zero, List.getElem?_cons_succ, qckz, Int.reduceToNat, Int.reduceLE, true_and, and_true, reduceCtorEq, or_false, false_or, or_true, Option.some.injEq, exists_eq_left', Bool.not_true, Bool.not_false, ne_eq, Int.reduceEq, not_true_eq_false, not_false_eq_true, Int.reduceLT, UInt8.reduceLT, UInt8.reduceLE, UInt8.reduceToNat]
    -- how a round ends with a fault
    have out : ∀ (K : Bool → St → Prop), (∀ s, D s → K false s) → ∀ (E : Env) (S : St) (j : Nat), Kept (stL st [rec1]) S → At S b2 [.nils] → At S b3 [.int .i64 (j : Int), .int .i64 90] → W = .error j → roundQ st.loops.length K .ret E S := by
      intro K hK E S j k1 k2 k3 kw
      refine ⟨rec1, k1.lget, ?_⟩
      have : decide (Ex.ret = Ex.normal) = false := rfl
      rw [this]
      apply hK
      rw [hD]
      refine ⟨j, ?_, k2.bx rfl, k3.bx rfl, kw⟩
      have := k1.swap (r' := { rec with status := 2, pend := .ret })
      first | exact this | (rw [hrec1]; exact this) | (rw [hrec1] at this; exact this)
    obtain ⟨s1, hs1, hcall⟩ := slines_iter (st := { Sc with loops := Sc.loops ++ [rec] }) hx (by omega) (b := bi) (k := st.loops.length) (P := P) (D := D)
      (fun r S h => by rw [hP] at h; obtain ⟨out, ds, _, _, _, _, h5, _⟩ := h; exact h5)
      (fun r S h => by
        rw [hP] at h ⊢
        obtain ⟨out, ds, k1, k2, k3, k6, ki, ko, kn, kl, kr⟩ := h
        exact ⟨out, ds, k1.tok1, k2, k3, k6, ki, ko.tok1, kn, kl, kr⟩)
      (fun S q h hq => by
        rw [hP] at h
        obtain ⟨out', ds, k1, k2, k3, k6, ki, ko, kn, kl, kw, kr, kq⟩ := h
        have hw : W = .error q.1 := by
          rw [kw]
          obtain ⟨a, m, w⟩ := q
          simp only at hq
          subst hq
          rfl
        refine yld_of_W (r := rec) (K := fun _ s' => D s') (args := [.int .i64 (q.1 : Int), .nils]) k1.lget r0 (by rw [r2]; rfl) (hasg q.1 .nils _) ?_
        have kk := k1.swap (r' := rec1)
        rw [← hrec1]
        obtain ⟨S0, hS0⟩ : ∃ S0 : St, S0 = { S with loops := S.loops.set st.loops.length rec1 } := ⟨_, rfl⟩
        rw [← hS0] at kk ⊢
        have j2 : At S0 b2 [.nils] := by rw [hS0]; exact k2.bx rfl
        have j3 : At S0 b3 [.int .i64 0, .int .i64 0] := by rw [hS0]; exact k3.bx rfl
        obtain ⟨S2, a2, w2⟩ := j3.st2 (v0 := .int .i64 (q.1 : Int)) (v1 := .int .i64 90) rfl rfl rfl rfl
        rw [hrb]
        simp (maxSteps := 1000000) (disch := omega) only [r3, r4, r6, eqnN, build2 Leaf_int Leaf_int, j2.stk, a2, qaaz, qabz, qacz, qadz, qaez, qafz, qagz, qahz, qaiz, qajz, qakz, qalz, qamz, qanz, evOp, qaoz, qapz, qaqz, qarz, qasz, qatz, qauz, qavz,
 ↓reduceIte, Nat.reduceEqDiff, List.nil_append, List.cons_append, List.append_nil, List.map_cons, List.map_nil, qawz, qaxz, qayz, Option.map_some, Option.map_none, qazz, qbaz, qbbz, qbcz, qbdz, qbez, qbfz, qbgz, qbhz, qbiz, qbjz, qbkz, qblz, qbmz, qbnz, qboz,
 qbpz, qbqz, qbrz, qbsz, qbtz, qbuz, qbvz, qbwz, qbxz, qbyz, qbzz, qcaz, qcbz, qccz, qcdz, qcez, qcfz, qcgz, qchz, qciz, beq_true, beq_false, Bool.not_eq_true', decide_eq_true_eq, decide_eq_false_iff_not, decide_true, decide_false,
 Int.toNat_natCast, Int.ofNat_lt, Int.ofNat_le, Int.natCast_inj, Bool.false_eq_true, Bool.true_eq_false, qcjz, List.getElem?_cons_zero, List.getElem?_cons_succ, qckz, Int.reduceToNat, Int.reduceLE, true_and, and_true, reduceCtorEq, or_false, false_or, or_true, Option.some.injEq, exists_eq_left', Bool.not_true, Bool.not_false, ne_eq, Int.reduceEq, not_true_eq_false, not_false_eq_true, Int.reduceLT, UInt8.reduceLT, UInt8.reduceLE, UInt8.reduceToNat]
        exact out (fun _ s' => D s') (fun s h => h) _ _ q.1 (w2.kp _ kk (by simp only [stL]; omega)) (w2.ot _ _ hne23 j2) w2.at_ hw)
      (fun q r S v h hw hv => by
        rw [hP] at h
        obtain ⟨out', ds, k1, k2, k3, k6, ki, ko, kn, kl, kw, kr, kq⟩ := h
        obtain ⟨K, hK⟩ : ∃ K : Bool → St → Prop, K = fun b s' => (b = true ∧ P r s') ∨ (b = false ∧ D s') := ⟨_, rfl⟩
        have hKD : ∀ s, D s → K false s := fun s h => by rw [hK]; exact .inr ⟨rfl, h⟩
        have hmain : ∃ b s', call prog (.yld st.loops.length) [.int .i64 (q.1 : Int), v] S = some (.bool b, s') ∧ K b s' := by
          refine yld_of_W (r := rec) (args := [.int .i64 (q.1 : Int), v]) k1.lget r0 (by rw [r2]; rfl) (hasg q.1 v _) ?_
          have kk := k1.swap (r' := rec1)
          rw [← hrec1]
          obtain ⟨S0, hS0⟩ : ∃ S0 : St, S0 = { S with loops := S.loops.set st.loops.length rec1 } := ⟨_, rfl⟩
          have hS0l : S0.low = S.low := by rw [hS0]
          have hS0t : S0.toks = S.toks := by rw [hS0]
          have j2 : At S0 b2 [.nils] := by rw [hS0]; exact k2.bx rfl
          have j3 : At S0 b3 [.int .i64 0, .int .i64 0] := by rw [hS0]; exact k3.bx rfl
          have j6 : At S0 b6 [out'] := by rw [hS0]; exact k6.bx rfl
          have ji : At S0 bi [x] := by rw [hS0]; exact ki.bx rfl
          have jo := ko.tks hS0t
          rw [← hS0] at kk ⊢
          have hfull : full q = q.2.1 ++ [13, 10] := by simp [full, hw]
          rw [hfull] at hv
          obtain ⟨t, rfl⟩ : ∃ t, v = .bys t (q.2.1 ++ [13, 10]) := by
            rcases by_cases' hv with ⟨_, h⟩ | h
            · exact absurd h (by simp)
            · exact h
          have hql := kq q (by simp)
          have hln : (q.2.1 ++ [13, 10]).length = q.2.1.length + 2 := by simp
          have hsl : slcPV 1 (.bys t (q.2.1 ++ [13, 10])) none (some (.int .i64 (((q.2.1 ++ [13, 10]).length - 2 : Nat) : Int))) none = some (.bys .no q.2.1) := by
            rw [slc_hi qcgz (by omega) (by simp)]
            simp [PV.takeB]
          have hone := One_spec (st := S0) (x := q.2.1) (by omega)
          obtain ⟨S1, hS1⟩ : ∃ S1, S1 = (oneV S0 (oneL q.2.1)).2 := ⟨_, rfl⟩
          obtain ⟨b9, hb9⟩ : ∃ b9, b9 = S0.boxes.length := ⟨_, rfl⟩
          have hne29 : b2 ≠ b9 := by have := j2.lt; omega
          have hne39 : b3 ≠ b9 := by have := j3.lt; omega
          have hne69 : b6 ≠ b9 := by have := j6.lt; omega
          have hnei9 : bi ≠ b9 := by have := ji.lt; omega
          have hle9 : st.boxes.length ≤ b9 := by have := kk.bl; simp only [stL] at this; omega
          have hl69 : b6 ≤ b9 := by have := j6.lt; omega
          rw [hrb]
          cases ho : oneL q.2.1 with
          | none =>
            rw [ho] at hone hS1
            simp only [oneV] at hone hS1
            have hwE : W = .error q.1 := by
              rw [kw]
              obtain ⟨a, m, w⟩ := q
              simp only at hw ho
              subst hw
              simp only [readG, if_true, ho]
              rfl
            have hA9 := At.last (s := S0) (z := [.str [], .nils, .str []]) (T := S0.toks) (Lp := S0.loops) (lo := S0.low)
            rw [← hb9] at hA9
            obtain ⟨S2, a2, w2⟩ := hA9.st3 (v0 := .str []) (v1 := .nils) (v2 := .str []) rfl rfl rfl rfl rfl rfl
            have m1 := w2.kp _ kk.alloc' hle9
            have m2 := w2.ot _ _ hne29 j2.alloc
            have m3 := w2.ot _ _ hne39 j3.alloc
            obtain ⟨S3, a3, w3⟩ := m3.st2 (v0 := .int .i64 (q.1 : Int)) (v1 := .int .i64 90) rfl rfl rfl rfl
            simp (maxSteps := 1000000) (disch := omega) only [r3, r4, r6, eqnB, lenB, sub_n, hsl, b2s_by qcgz, hone, allocPV, ← hb9, a2, build2 Leaf_int Leaf_int, m2.stk, a3, qaaz, qabz, qacz, qadz, qaez, qafz, qagz, qahz, qaiz, qajz, qakz, qalz, qamz, qanz, evOp, qaoz, qapz, qaqz, qarz, qasz, qatz, qauz, qavz,
 ↓reduceIte, Nat.reduceEqDiff, List.nil_append, List.cons_append, List.append_nil, List.map_cons, List.map_nil, qawz, qaxz, qayz, Option.map_some, Option.map_none, qazz, qbaz, qbbz, qbcz, qbdz, qbez, qbfz, qbgz, qbhz, qbiz, qbjz, qbkz, qblz, qbmz, qbnz, qboz,
 qbpz, qbqz, qbrz, qbsz, qbtz, qbuz, qbvz, qbwz, qbxz, qbyz, qbzz, qcaz, qcbz, qccz, qcdz, qcez, qcfz, qcgz, qchz, qciz, beq_true, beq_false, Bool.not_eq_true', decide_eq_true_eq, decide_eq_false_iff_not, decide_true, decide_false,
 Int.toNat_natCast, Int.ofNat_lt, Int.ofNat_le, Int.natCast_inj, Bool.false_eq_true, Bool.true_eq_false, qcjz, List.getElem?_cons_zero, List.getElem?_cons_succ, qckz, Int.reduceToNat, Int.reduceLE, true_and, and_true, reduceCtorEq, or_false, false_or, or_true, Option.some.injEq, exists_eq_left', Bool.not_true, Bool.not_false, ne_eq, Int.reduceEq, not_true_eq_false, not_false_eq_true, Int.reduceLT, UInt8.reduceLT, UInt8.reduceLE, UInt8.reduceToNat]
            exact out K hKD _ _ q.1 (w3.kp _ m1 (by simp only [stL]; omega)) (w3.ot _ _ hne23 m2) w3.at_ hwE
          | some d =>
            rw [ho] at hone hS1
            simp only [oneV] at hone hS1
            rw [← hS1] at hone
            have hwO : W = preE (ds ++ [d]) (readG r) := by
              rw [kw]
              obtain ⟨a, m, w⟩ := q
              simp only at hw ho
              subst hw
              simp only [readG, if_true, ho]
              cases readG r with
              | ok l' => simp [preE]
              | error j => rfl
            obtain ⟨nb, nl, np⟩ := newS_bx (S := S0) (b := (d.2.1.map fV).isEmpty)
            have n0 := kk.newS (b := (d.2.1.map fV).isEmpty)
            have no := jo.newS (b := (d.2.1.map fV).isEmpty)
            rw [← hS1] at nb nl np n0 no
            have hb9' : b9 = S1.boxes.length := by rw [nb]; exact hb9
            have hA9 := At.last (s := S1) (z := [.str [], .nils, .str []]) (T := S1.toks) (Lp := S1.loops) (lo := S1.low)
            rw [← hb9'] at hA9
            obtain ⟨lf1, lf2⟩ := newSl_leaf (S := S0) (esz := 2) (xs := d.2.1.map fV)
            obtain ⟨S2, a2, w2⟩ := hA9.st3 (v0 := .str d.1) (v1 := newSl S0 2 (d.2.1.map fV)) (v2 := .str d.2.2) rfl lf1 rfl rfl (lf2 _) rfl
            have m1 := w2.kp _ n0.alloc' hle9
            have m2 := w2.ot _ _ hne29 (j2.bx nb).alloc
            have m3 := w2.ot _ _ hne39 (j3.bx nb).alloc
            have m6 := w2.ot _ _ hne69 (j6.bx nb).alloc
            have mi := w2.ot _ _ hnei9 (ji.bx nb).alloc
            have mo := no.tks (s' := S2) w2.tk
            have hld6 := m6.load (k := 0) (v := out') (r := []) rfl
            simp only [List.length_cons] at kr
            have hlt : ¬ (4096 : Int) ≤ ((ds.map dV).length : Int) := by simp only [List.length_map]; omega
            obtain ⟨v', s', q1, q2, q3, q4⟩ := m1.appV (u := dV d) (w := .undef) (v := out') (esz := 3) (xs := ds.map dV) mo (by simp [room]; omega)
            rcases q3 with ⟨_, q3⟩ | ⟨i, rfl, q3, q3'⟩
            · simp at q3
            obtain ⟨S3, a3, w3, w3l⟩ := (m6.bx q4).st1own (i := i) (esz := 3) (xs := ds.map dV ++ [dV d])
            simp (maxSteps := 1000000) (disch := omega) only [r3, r4, r6, eqnB, lenB, sub_n, hsl, b2s_by qcgz, hone, allocPV, ← hb9', a2, hld6, own_len mo, hlt, w2.at_.ld3, lit_line, freshT_eq, q1, a3, qaaz, qabz, qacz, qadz, qaez, qafz, qagz, qahz, qaiz, qajz, qakz, qalz, qamz, qanz, evOp, qaoz, qapz, qaqz, qarz, qasz, qatz, qauz, qavz,
 ↓reduceIte, Nat.reduceEqDiff, List.nil_append, List.cons_append, List.append_nil, List.map_cons, List.map_nil, qawz, qaxz, qayz, Option.map_some, Option.map_none, qazz, qbaz, qbbz, qbcz, qbdz, qbez, qbfz, qbgz, qbhz, qbiz, qbjz, qbkz, qblz, qbmz, qbnz, qboz,
 qbpz, qbqz, qbrz, qbsz, qbtz, qbuz, qbvz, qbwz, qbxz, qbyz, qbzz, qcaz, qcbz, qccz, qcdz, qcez, qcfz, qcgz, qchz, qciz, beq_true, beq_false, Bool.not_eq_true', decide_eq_true_eq, decide_eq_false_iff_not, decide_true, decide_false,
 Int.toNat_natCast, Int.ofNat_lt, Int.ofNat_le, Int.natCast_inj, Bool.false_eq_true, Bool.true_eq_false, qcjz, List.getElem?_cons_zero, List.getElem?_cons_succ, qckz, Int.reduceToNat, Int.reduceLE, true_and, and_true, reduceCtorEq, or_false, false_or, or_true, Option.some.injEq, exists_eq_left', Bool.not_true, Bool.not_false, ne_eq, Int.reduceEq, not_true_eq_false, not_false_eq_true, Int.reduceLT, UInt8.reduceLT, UInt8.reduceLE, UInt8.reduceToNat]
            refine ⟨rec1, (w3.kp _ q2 (by simp only [stL]; omega)).lget, ?_⟩
            rw [hK]
            left
            refine ⟨rfl, ?_⟩
            rw [hP]
            have kz := (w3.kp _ q2 (by simp only [stL]; omega)).swap (r' := rec)
            refine ⟨.sl 3 (.own i) (ds.map dV ++ [dV d]), ds ++ [d], ?_, (w3.ot _ _ hne26 (m2.bx q4)).bx rfl, (w3.ot _ _ hne36 (m3.bx q4)).bx rfl, w3.at_.bx rfl, (w3.ot _ _ (by omega) (mi.bx q4)).bx rfl, .inr ⟨i, by simp, q3, by simp only; rw [w3.tk]; exact q3'⟩, fun h => by simp at h, .inr w3l, hwO, by simp; omega, fun q' hq' => kq q' (by simp [hq'])⟩
            rw [hrec1]
            simp only [if_true]
            have e5 : ({ status := 0, pend := Ex.normal, env := rec.env, params := rec.params, assign := rec.assign, body := rec.body } : LoopS) = rec := by rw [r5]
            rw [e5]
            exact kz
        obtain ⟨b, s', c1, c2⟩ := hmain
        rw [hK] at c2
        rcases c2 with ⟨rfl, c2⟩ | ⟨rfl, c2⟩
        · exact .inl ⟨s', c1, c2⟩
        · exact .inr ⟨s', c1, c2⟩)
      (by
        rw [hP]
        refine ⟨.nils, [], ?_, c2.bx rfl, c3.bx rfl, c6.bx rfl, ci.bx rfl, .inl ⟨rfl, rfl⟩, fun _ => rfl, .inl rfl, by rw [preE_nil]; exact hW, by simpa using hN, fun q hq => ?_⟩
        · exact ⟨kc.bx, by simp only [stL]; rw [hlp], by have := kc.bl; simpa [stL] using this, kc.tk⟩
        · exact Nat.le_trans (refLines_each hq) hul)
    obtain ⟨X, x1, x2, x3, x4, x5⟩ := leave_unit (c := { Sc with loops := Sc.loops ++ [rec] }) (s1 := s1)
    rw [x1] at hcall
    have hcl := kc.lw
    have hcb := kc.bl
    have hct := kc.tl
    rw [hlp] at hcall ⊢
    have keptX : ∀ r, Kept (stL st [r]) s1 → Kept st { X with loops := X.loops.take st.loops.length } ∧ X.loops[st.loops.length]? = some r := by
      intro r k
      refine ⟨⟨?_, ?_, ?_, ?_⟩, ?_⟩
      · have := k.bx
        simp only [stL] at this
        simp only
        rw [x2, List.take_take, Nat.min_eq_left (by simpa using hcb)]; exact this
      · have := k.lp
        simp only [stL] at this
        simp only [x3, this, List.take_left]
      · have := k.lw
        simp only [stL] at this
        simp only at x4 ⊢
        rcases x4 with h | h <;> rw [h] <;> omega
      · have := k.tk
        simp only [stL] at this
        simp only at x5 ⊢
        rcases x5 with h | ⟨h, _⟩
        · rw [h]; exact this
        · rw [h, List.take_take, Nat.min_eq_left (by simpa using hct)]; exact this
      · rw [x3]; exact k.lget
    rcases hs1 with hs1 | hs1
    · rw [hD] at hs1
      obtain ⟨j, k1, k2, k3, kw⟩ := hs1
      obtain ⟨kx, kg⟩ := keptX _ k1
      refine ⟨_, X, _, hcall, kg, by show (2 : Nat) ≠ 1; decide, ?_⟩
      simp only [qbez, qbaz]
      right
      refine ⟨by simp, ?_⟩
      exact finE _ _ j 90 kx (k2.take (n := Sc.boxes.length) (by omega) x2) (k3.take (n := Sc.boxes.length) (by omega) x2) (by rw [hrd, kw]) h2 h3
    · rw [hP] at hs1
      obtain ⟨out', ds, k1, k2, k3, k6, ki, ko, kn, kl, kw, -, -⟩ := hs1
      obtain ⟨kx, kg⟩ := keptX _ k1
      refine ⟨_, X, _, hcall, kg, by rw [r0]; decide, ?_⟩
      rw [r1]
      simp only [qbdz, qazz]
      left
      refine ⟨by first | rfl | trivial, ?_⟩
      rw [hJ]
      refine ⟨out', ds, kx, k2.take (n := Sc.boxes.length) (by omega) x2, k3.take (n := Sc.boxes.length) (by omega) x2, k6.take (n := Sc.boxes.length) (by omega) x2, ?_, kn, by rw [kw]; simp [preE, readG], h2, h3, h6⟩
      rcases ko with h | ⟨i, ho1, ho2, ho3⟩
      · exact .inl h
      · refine .inr ⟨i, ho1, ho2, ?_⟩
        rcases x5 with h | ⟨_, h⟩
        · simp only; rw [h]; exact ho3
        · rcases kl with kl | kl
          · rw [ho1] at kl; cases kl
          · simp only at h; omega
  · clear hA2 hA3 hA6 hk h0 h2 h3 h6
    rintro e S hj
    rw [hJ] at hj
    obtain ⟨out', ds, k1, k2, k3, k6, ko, kn, kw, h2, h3, h6⟩ := hj
    rw [kw] at hrd
    have hld := k6.load (k := 0) (v := out') (r := []) rfl
    obtain ⟨lf, li⟩ := own_leaf ko
    obtain ⟨S1, a1, w1⟩ := k2.st1 (off := 0) (v := out') lf (li _) (by simp)
    have m3 := w1.ot _ _ hne23.symm k3
    obtain ⟨S2, a2, w2⟩ := m3.st2 (v0 := .int .i64 0) (v1 := .int .i64 0) rfl rfl rfl rfl
    simp (maxSteps := 1000000) (disch := omega) only [h2, h3, h6, hld, build0i, a1, a2, qaaz, qabz, qacz, qadz, qaez, qafz, qagz, qahz, qaiz, qajz, qakz, qalz, qamz, qanz, evOp, qaoz, qapz, qaqz, qarz, qasz, qatz, qauz, qavz,
 ↓reduceIte, Nat.reduceEqDiff, List.nil_append, List.cons_append, List.append_nil, List.map_cons, List.map_nil, qawz, qaxz, qayz, Option.map_some, Option.map_none, qazz, qbaz, qbbz, qbcz, qbdz, qbez, qbfz, qbgz, qbhz, qbiz, qbjz, qbkz, qblz, qbmz, qbnz, qboz,
 qbpz, qbqz, qbrz, qbsz, qbtz, qbuz, qbvz, qbwz, qbxz, qbyz, qbzz, qcaz, qcbz, qccz, qcdz, qcez, qcfz, qcgz, qchz, qciz, beq_true, beq_false, Bool.not_eq_true', decide_eq_true_eq, decide_eq_false_iff_not, decide_true, decide_false,
 Int.toNat_natCast, Int.ofNat_lt, Int.ofNat_le, Int.natCast_inj, Bool.false_eq_true, Bool.true_eq_false, qcjz, List.getElem?_cons_zero, List.getElem?_cons_succ, qckz, Int.reduceToNat, Int.reduceLE, true_and, and_true, reduceCtorEq, or_false, false_or, or_true, Option.some.injEq, exists_eq_left', Bool.not_true, Bool.not_false, ne_eq, Int.reduceEq, not_true_eq_false, not_false_eq_true, Int.reduceLT, UInt8.reduceLT, UInt8.reduceLE, UInt8.reduceToNat]
    exact finO _ _ out' ds (w2.kp st (w1.kp st k1 (by omega)) (by omega)) (w2.ot _ _ hne23 w1.at_) w2.at_ ((ko.tks w1.tk).tks w2.tk) kn hrd h2 h3
end Go.Ab

/-
  A line's text is read by the document, walked.
-/
namespace Go.Ab
set_option linter.unusedVariables false
set_option linter.unusedSimpArgs false
set_option maxRecDepth 20000
variable {st s : St} {e : Env}

end Go.Ab

/-
  Lines are read by the document, walked; equal lines.
-/
namespace Go.Ab
set_option linter.unusedVariables false
set_option linter.unusedSimpArgs false
set_option maxRecDepth 20000
variable {st s : St} {e : Env}

theorem fa3_0 {a b c : PV} : faddrPV 0 (.cp [a, b, c]) = some (.cp [a, b, c]) := rfl
theorem fa3_1 {a b c : PV} : faddrPV 1 (.cp [a, b, c]) = some (.cp [b, c]) := rfl
theorem fa3_2 {a b c : PV} : faddrPV 2 (.cp [a, b, c]) = some (.cp [c]) := rfl
theorem ldcp {a : PV} {r : List PV} : loadPV st false 1 (.cp (a :: r)) = some a := rfl
theorem newSl_vs3 {S : St} {xs : List PV} : (newSl S 3 xs).vs 3 = some xs := by
  unfold newSl
  split
  · rename_i h; subst h; simp [PV.vs]
  · simp [PV.vs]
end Go.Ab

/-
  The sheet's values: escaped, unescaped; the program's and the document's answers.
-/
namespace Go.Ab
set_option linter.unusedVariables false
set_option linter.unusedSimpArgs false
variable {st : St} {e : Env}

def escC (c : UInt8) : List UInt8 := if c = 10 then [92, 110] else if c = 92 ∨ c = 59 ∨ c = 44 then [92, c] else [c]
def escOf (s : List UInt8) : List UInt8 := s.flatMap escC
theorem escC_len {c : UInt8} : (escC c).length ≤ 2 := by
  unfold escC
  split
  · simp
  · split <;> simp
theorem escOf_len : ∀ {s : List UInt8}, (escOf s).length ≤ 2 * s.length := by
  intro s
  induction s with
  | nil => simp [escOf]
  | cons c r ih => have := escC_len (c := c); simp only [escOf, List.flatMap_cons, List.length_append, List.length_cons] at ih ⊢; omega
theorem escC_ne {c : UInt8} : escC c ≠ [] := by
  unfold escC; split
  · simp
  · split <;> simp
theorem escOf_take {l : List UInt8} {i : Nat} (h : i < l.length) : escOf (l.take (i + 1)) = escOf (l.take i) ++ escC (l.getD i 0) := by
  rw [take_getD h]; simp [escOf]

theorem Escape_spec {s : List UInt8} (h : s.length ≤ 1000000) : call prog (.fn 43 []) [.str s] st = some (.str (escOf s), st) := by
  refine call_of_W prog_43 ?_
  unfold F_sheet_Escape; dsimp only
  simp (maxSteps := 1000000) (disch := omega) only [allocPV, len_s, qaaz, qabz, qacz, qadz, qaez, qafz, qagz, qahz, qaiz, qajz, qakz, qalz, qamz, qanz, evOp, qaoz, qapz, qaqz, qarz, qasz, qatz, qauz, qavz,
 ↓reduceIte, Nat.reduceEqDiff, List.nil_append, List.cons_append, List.append_nil, List.map_cons, List.map_nil, qawz, qaxz, qayz, Option.map_some, Option.map_none, qazz, qbaz, qbbz, qbcz, qbdz, qbez, qbfz, qbgz, qbhz, qbiz, qbjz, qbkz, qblz, qbmz, qbnz, qboz,
 qbpz, qbqz, qbrz, qbsz, qbtz, qbuz, qbvz, qbwz, qbxz, qbyz, qbzz, qcaz, qcbz, qccz, qcdz, qcez, qcfz, qcgz, qchz, qciz, beq_true, beq_false, Bool.not_eq_true', decide_eq_true_eq, decide_eq_false_iff_not, decide_true, decide_false,
 Int.toNat_natCast, Int.ofNat_lt, Int.ofNat_le, Int.natCast_inj, Bool.false_eq_true, Bool.true_eq_false, qcjz, List.getElem?_cons_zero, List.getElem?_cons_succ, qckz, Int.reduceToNat, Int.reduceLE, true_and, and_true, reduceCtorEq, or_false, false_or, or_true, Option.some.injEq, exists_eq_left', Bool.not_true, Bool.not_false, ne_eq, Int.reduceEq, not_true_eq_false, not_false_eq_true, Int.reduceLT, UInt8.reduceLT, UInt8.reduceLE, UInt8.reduceToNat]
  obtain ⟨I, hI⟩ : ∃ I : Nat → Env → St → Prop, I = fun n e s' => ∃ (i : Nat) (x : PV), n = s.length - i ∧ i ≤ s.length ∧ Kept st s' ∧ Bu s' st.boxes.length x (escOf (s.take i)) ∧ (∀ t, tokOf x = some t → st.toks.length ≤ t) ∧ (escOf (s.take i) = [] → x = .nils) ∧ e 0 = .str s ∧ e 3 = .ptr st.boxes.length 0 ∧ e 6 = .int .i64 (s.length : Int) ∧ e 7 = .int .i64 (i : Int) := ⟨_, rfl⟩
  refine W_loop I ?_ (n := s.length) (by
    rw [hI]
    exact ⟨0, .nils, rfl, by omega, Kept.start.alloc, ⟨.inl (by simp), .inl ⟨rfl, by simp [escOf]⟩⟩, fun t h => (by cases h), fun _ => rfl, rfl, rfl, rfl, rfl⟩)
  intro n e s' hh
  rw [hI] at hh
  obtain ⟨i, x, rfl, hi, hk, hb, hm, hz, h0, h3, h6, h7⟩ := hh
  have hel := escOf_len (s := s.take i)
  have hel2 : (escOf (s.take i)).length ≤ 2000000 := by simp at hel; omega
  by_cases hlt : i < s.length
  · obtain ⟨c, hc⟩ : ∃ c, c = s.getD i 0 := ⟨_, rfl⟩
    have hnext : ∀ (E : Env) (S : St) (y : PV), Kept st S → Bu S st.boxes.length y (escOf (s.take (i + 1))) → (∀ t, tokOf y = some t → st.toks.length ≤ t) → E 0 = .str s → E 3 = .ptr st.boxes.length 0 → E 6 = .int .i64 (s.length : Int) → E 7 = .int .i64 ((i + 1 : Nat) : Int) → I (s.length - (i + 1)) E S := by
      intro E S y k1 k2 k3 k4 k5 k6 k7
      rw [hI]
      refine ⟨i + 1, y, rfl, by omega, k1, k2, k3, fun hh => ?_, k4, k5, k6, k7⟩
      rw [escOf_take hlt] at hh
      have := List.append_eq_nil_iff.1 hh
      exact absurd this.2 escC_ne
    have hesc := escOf_take hlt
    rw [← hc] at hesc
    by_cases h10 : c = 10
    · obtain ⟨y, s2, a1, a2⟩ := WriteString_spec (m := [92, 110]) hb (by simp [room]; omega)
      obtain ⟨k1, k2⟩ := hk.step a2 (Nat.le_refl _) hm
      have hesc2 : escOf (s.take (i + 1)) = escOf (s.take i) ++ [92, 110] := by rw [hesc, h10]; rfl
      have n1 : ¬ c = 92 := by rw [h10]; decide
      have n2 : ¬ c = 59 := by rw [h10]; decide
      have n3 : ¬ c = 44 := by rw [h10]; decide
      simp (maxSteps := 1000000) (disch := omega) only [h0, h3, h6, h7, hlt, idx_s, ← hc, eq_true h10, n1, n2, n3, a1, add_n, qaaz, qabz, qacz, qadz, qaez, qafz, qagz, qahz, qaiz, qajz, qakz, qalz, qamz, qanz, evOp, qaoz, qapz, qaqz, qarz, qasz, qatz, qauz, qavz,
 ↓reduceIte, Nat.reduceEqDiff, List.nil_append, List.cons_append, List.append_nil, List.map_cons, List.map_nil, qawz, qaxz, qayz, Option.map_some, Option.map_none, qazz, qbaz, qbbz, qbcz, qbdz, qbez, qbfz, qbgz, qbhz, qbiz, qbjz, qbkz, qblz, qbmz, qbnz, qboz,
 qbpz, qbqz, qbrz, qbsz, qbtz, qbuz, qbvz, qbwz, qbxz, qbyz, qbzz, qcaz, qcbz, qccz, qcdz, qcez, qcfz, qcgz, qchz, qciz, beq_true, beq_false, Bool.not_eq_true', decide_eq_true_eq, decide_eq_false_iff_not, decide_true, decide_false,
 Int.toNat_natCast, Int.ofNat_lt, Int.ofNat_le, Int.natCast_inj, Bool.false_eq_true, Bool.true_eq_false, qcjz, List.getElem?_cons_zero, List.getElem?_cons_succ, qckz, Int.reduceToNat, Int.reduceLE, true_and, and_true, reduceCtorEq, or_false, false_or, or_true, Option.some.injEq, exists_eq_left', Bool.not_true, Bool.not_false, ne_eq, Int.reduceEq, not_true_eq_false, not_false_eq_true, Int.reduceLT, UInt8.reduceLT, UInt8.reduceLE, UInt8.reduceToNat]
      exact loopQ_intro (m := s.length - (i + 1)) (by omega) (hnext _ _ y k1 (by rw [hesc2]; exact a2.bu hb.lt) k2 h0 h3 h6 rfl)
    · by_cases hs : c = 92 ∨ c = 59 ∨ c = 44
      · obtain ⟨y, s2, a1, a2⟩ := WriteByte_spec (c := 92) hb (by simp [room]; omega)
        obtain ⟨k1, k2⟩ := hk.step a2 (Nat.le_refl _) hm
        obtain ⟨z, s3, b1, b2⟩ := WriteByte_spec (c := c) (a2.bu hb.lt) (by simp [room]; omega)
        obtain ⟨k3, k4⟩ := k1.step b2 (Nat.le_refl _) k2
        have hlt2 : st.boxes.length < s2.boxes.length := by rw [a2.bx]; simpa using hb.lt
        have hesc2 : escOf (s.take (i + 1)) = escOf (s.take i) ++ [92] ++ [c] := by rw [hesc]; simp [escC, h10, hs]
        by_cases h92 : c = 92
        · simp (maxSteps := 1000000) (disch := omega) only [h0, h3, h6, h7, hlt, idx_s, ← hc, eq_true h92, a1, b1, add_n, qaaz, qabz, qacz, qadz, qaez, qafz, qagz, qahz, qaiz, qajz, qakz, qalz, qamz, qanz, evOp, qaoz, qapz, qaqz, qarz, qasz, qatz, qauz, qavz,
 ↓reduceIte, Nat.reduceEqDiff, List.nil_append, List.cons_append, List.append_nil, List.map_cons, List.map_nil, qawz, qaxz, qayz, Option.map_some, Option.map_none, qazz, qbaz, qbbz, qbcz, qbdz, qbez, qbfz, qbgz, qbhz, qbiz, qbjz, qbkz, qblz, qbmz, qbnz, qboz,
 qbpz, qbqz, qbrz, qbsz, qbtz, qbuz, qbvz, qbwz, qbxz, qbyz, qbzz, qcaz, qcbz, qccz, qcdz, qcez, qcfz, qcgz, qchz, qciz, beq_true, beq_false, Bool.not_eq_true', decide_eq_true_eq, decide_eq_false_iff_not, decide_true, decide_false,
 Int.toNat_natCast, Int.ofNat_lt, Int.ofNat_le, Int.natCast_inj, Bool.false_eq_true, Bool.true_eq_false, qcjz, List.getElem?_cons_zero, List.getElem?_cons_succ, qckz, Int.reduceToNat, Int.reduceLE, true_and, and_true, reduceCtorEq, or_false, false_or, or_true, Option.some.injEq, exists_eq_left', Bool.not_true, Bool.not_false, ne_eq, Int.reduceEq, not_true_eq_false, not_false_eq_true, Int.reduceLT, UInt8.reduceLT, UInt8.reduceLE, UInt8.reduceToNat]
          exact loopQ_intro (m := s.length - (i + 1)) (by omega) (hnext _ _ z k3 (by rw [hesc2]; exact b2.bu hlt2) k4 h0 h3 h6 rfl)
        · by_cases h59 : c = 59
          · simp (maxSteps := 1000000) (disch := omega) only [h0, h3, h6, h7, hlt, idx_s, ← hc, h92, eq_true h59, a1, b1, add_n, qaaz, qabz, qacz, qadz, qaez, qafz, qagz, qahz, qaiz, qajz, qakz, qalz, qamz, qanz, evOp, qaoz, qapz, qaqz, qarz, qasz, qatz, qauz, qavz,
 ↓reduceIte, Nat.reduceEqDiff, List.nil_append, List.cons_append, List.append_nil, List.map_cons, List.map_nil, qawz, qaxz, qayz, Option.map_some, Option.map_none, qazz, qbaz, qbbz, qbcz, qbdz, qbez, qbfz, qbgz, qbhz, qbiz, qbjz, qbkz, qblz, qbmz, qbnz, qboz,
 qbpz, qbqz, qbrz, qbsz, qbtz, qbuz, qbvz, qbwz, qbxz, qbyz, qbzz, qcaz, qcbz, qccz, qcdz, qcez, qcfz, qcgz, qchz, qciz, beq_true, beq_false, Bool.not_eq_true', decide_eq_true_eq, decide_eq_false_iff_not, decide_true, decide_false,
 Int.toNat_natCast, Int.ofNat_lt, Int.ofNat_le, Int.natCast_inj, Bool.false_eq_true, Bool.true_eq_false, qcjz, List.getElem?_cons_zero, List.getElem?_cons_succ, qckz, Int.reduceToNat, Int.reduceLE, true_and, and_true, reduceCtorEq, or_false, false_or, or_true, Option.some.injEq, exists_eq_left', Bool.not_true, Bool.not_false, ne_eq, Int.reduceEq, not_true_eq_false, not_false_eq_true, Int.reduceLT, UInt8.reduceLT, UInt8.reduceLE, UInt8.reduceToNat]
            exact loopQ_intro (m := s.length - (i + 1)) (by omega) (hnext _ _ z k3 (by rw [hesc2]; exact b2.bu hlt2) k4 h0 h3 h6 rfl)
          · have h44 : c = 44 := by
              rcases hs with h | h | h
              · exact absurd h h92
              · exact absurd h h59
              · exact h
            simp (maxSteps := 1000000) (disch := omega) only [h0, h3, h6, h7, hlt, idx_s, ← hc, h92, h59, eq_true h44, a1, b1, add_n, qaaz, qabz, qacz, qadz, qaez, qafz, qagz, qahz, qaiz, qajz, qakz, qalz, qamz, qanz, evOp, qaoz, qapz, qaqz, qarz, qasz, qatz, qauz, qavz,
 ↓reduceIte, Nat.reduceEqDiff, List.nil_append, List.cons_append, List.append_nil, List.map_cons, List.map_nil, qawz, qaxz, qayz, Option.map_some, Option.map_none, qazz, qbaz, qbbz, qbcz, qbdz, qbez, qbfz, qbgz, qbhz, qbiz, qbjz, qbkz, qblz, qbmz, qbnz, qboz,
 qbpz, qbqz, qbrz, qbsz, qbtz, qbuz, qbvz, qbwz, qbxz, qbyz, qbzz, qcaz, qcbz, qccz, qcdz, qcez, qcfz, qcgz, qchz, qciz, beq_true, beq_false, Bool.not_eq_true', decide_eq_true_eq, decide_eq_false_iff_not, decide_true, decide_false,
 Int.toNat_natCast, Int.ofNat_lt, Int.ofNat_le, Int.natCast_inj, Bool.false_eq_true, Bool.true_eq_false, qcjz, List.getElem?_cons_zero, List.getElem?_cons_succ, qckz, Int.reduceToNat, Int.reduceLE, true_and, and_true, reduceCtorEq, or_false, false_or, or_true, Option.some.injEq, exists_eq_left', Bool.not_true, Bool.not_false, ne_eq, Int.reduceEq, not_true_eq_false, not_false_eq_true, Int.reduceLT, UInt8.reduceLT, UInt8.reduceLE, UInt8.reduceToNat]
            exact loopQ_intro (m := s.length - (i + 1)) (by omega) (hnext _ _ z k3 (by rw [hesc2]; exact b2.bu hlt2) k4 h0 h3 h6 rfl)
      · obtain ⟨y, s2, a1, a2⟩ := WriteByte_spec (c := c) hb (by simp [room]; omega)
        obtain ⟨k1, k2⟩ := hk.step a2 (Nat.le_refl _) hm
        have hesc2 : escOf (s.take (i + 1)) = escOf (s.take i) ++ [c] := by rw [hesc]; simp [escC, h10, hs]
        simp only [not_or] at hs
        simp (maxSteps := 1000000) (disch := omega) only [h0, h3, h6, h7, hlt, idx_s, ← hc, h10, hs.1, hs.2.1, hs.2.2, a1, add_n, qaaz, qabz, qacz, qadz, qaez, qafz, qagz, qahz, qaiz, qajz, qakz, qalz, qamz, qanz, evOp, qaoz, qapz, qaqz, qarz, qasz, qatz, qauz, qavz,
 ↓reduceIte, Nat.reduceEqDiff, List.nil_append, List.cons_append, List.append_nil, List.map_cons, List.map_nil, qawz, qaxz, qayz, Option.map_some, Option.map_none, qazz, qbaz, qbbz, qbcz, qbdz, qbez, qbfz, qbgz, qbhz, qbiz, qbjz, qbkz, qblz, qbmz, qbnz, qboz,
 qbpz, qbqz, qbrz, qbsz, qbtz, qbuz, qbvz, qbwz, qbxz, qbyz, qbzz, qcaz, qcbz, qccz, qcdz, qcez, qcfz, qcgz, qchz, qciz, beq_true, beq_false, Bool.not_eq_true', decide_eq_true_eq, decide_eq_false_iff_not, decide_true, decide_false,
 Int.toNat_natCast, Int.ofNat_lt, Int.ofNat_le, Int.natCast_inj, Bool.false_eq_true, Bool.true_eq_false, qcjz, List.getElem?_cons_zero, List.getElem?_cons_succ, qckz, Int.reduceToNat, Int.reduceLE, true_and, and_true, reduceCtorEq, or_false, false_or, or_true, Option.some.injEq, exists_eq_left', Bool.not_true, Bool.not_false, ne_eq, Int.reduceEq, not_true_eq_false, not_false_eq_true, Int.reduceLT, UInt8.reduceLT, UInt8.reduceLE, UInt8.reduceToNat]
        exact loopQ_intro (m := s.length - (i + 1)) (by omega) (hnext _ _ y k1 (by rw [hesc2]; exact a2.bu hb.lt) k2 h0 h3 h6 rfl)
  · obtain rfl : i = s.length := by omega
    rw [List.take_length] at hb hz
    obtain ⟨s2, b1, k2⟩ := hk.string (BString_spec hb hz (by simp only [room]; rw [List.take_length] at hel2; omega)) hm
    simp (maxSteps := 1000000) (disch := omega) only [h0, h3, h6, h7, hlt, b1, qaaz, qabz, qacz, qadz, qaez, qafz, qagz, qahz, qaiz, qajz, qakz, qalz, qamz, qanz, evOp, qaoz, qapz, qaqz, qarz, qasz, qatz, qauz, qavz,
 ↓reduceIte, Nat.reduceEqDiff, List.nil_append, List.cons_append, List.append_nil, List.map_cons, List.map_nil, qawz, qaxz, qayz, Option.map_some, Option.map_none, qazz, qbaz, qbbz, qbcz, qbdz, qbez, qbfz, qbgz, qbhz, qbiz, qbjz, qbkz, qblz, qbmz, qbnz, qboz,
 qbpz, qbqz, qbrz, qbsz, qbtz, qbuz, qbvz, qbwz, qbxz, qbyz, qbzz, qcaz, qcbz, qccz, qcdz, qcez, qcfz, qcgz, qchz, qciz, beq_true, beq_false, Bool.not_eq_true', decide_eq_true_eq, decide_eq_false_iff_not, decide_true, decide_false,
 Int.toNat_natCast, Int.ofNat_lt, Int.ofNat_le, Int.natCast_inj, Bool.false_eq_true, Bool.true_eq_false, qcjz, List.getElem?_cons_zero, List.getElem?_cons_succ, qckz, Int.reduceToNat, Int.reduceLE, true_and, and_true, reduceCtorEq, or_false, false_or, or_true, Option.some.injEq, exists_eq_left', Bool.not_true, Bool.not_false, ne_eq, Int.reduceEq, not_true_eq_false, not_false_eq_true, Int.reduceLT, UInt8.reduceLT, UInt8.reduceLE, UInt8.reduceToNat]
    exact ⟨.str (escOf s), rfl, k2.leave rfl (fun _ _ => rfl)⟩
end Go.Ab

/-
  Equal lines; what must come of fixed calls.
-/
namespace Go.Ab
set_option linter.unusedVariables false
set_option linter.unusedSimpArgs false
set_option maxRecDepth 20000
variable {st s : St} {e : Env}

theorem eqc_s {a b c d : Bs} : eqPV (.struct [.s, .s]) (.agg [.str a, .str b]) (.agg [.str c, .str d]) = some (decide (a = c ∧ b = d)) := by
  have h : eqPV (.struct [.s, .s]) (.agg [.str a, .str b]) (.agg [.str c, .str d]) = some ((a == c) && (b == d)) := by
    simp only [eqPV, eqCells, eqLeaf]
    cases (a == c) <;> cases (b == d) <;> rfl
  rw [h]; by_cases h1 : a = c <;> by_cases h2 : b = d <;> simp [h1, h2]
theorem neq_f {a b c d : Bs} : binPV .neq (.struct [.s, .s]) (.agg [.str a, .str b]) (.agg [.str c, .str d]) = some (.bool (decide (¬ (a = c ∧ b = d)))) := by
  show (eqPV _ _ _).map (fun b => PV.bool !b) = _
  rw [eqc_s, decide_not]; rfl
theorem eql_f {a b c d : Bs} : binPV .eql (.struct [.s, .s]) (.agg [.str a, .str b]) (.agg [.str c, .str d]) = some (.bool (decide (a = c ∧ b = d))) := by
  show (eqPV _ _ _).map PV.bool = _
  rw [eqc_s]; rfl
theorem list_ext0 {α : Type} {d : α} {a b : List α} (h1 : a.length = b.length) (h2 : ∀ j, j < a.length → a.getD j d = b.getD j d) : a = b := by
  apply List.ext_getElem h1
  intro i i1 i2
  have := h2 i i1
  simpa [List.getD, i1, i2] using this
def sameLB (As Cs : List Ln) : Bool := decide (As.map ofLn = Cs.map ofLn)
theorem same_len {As Cs : List Ln} (h : As.map ofLn = Cs.map ofLn) : As.length = Cs.length := by simpa using congrArg List.length h
theorem same_get {As Cs : List Ln} (h : As.map ofLn = Cs.map ofLn) (j : Nat) : ofLn (As.getD j L0) = ofLn (Cs.getD j L0) := by
  have h1 := congrArg (fun l => l.getD j (ofLn L0)) h
  simp only [List.getD, List.getElem?_map] at h1 ⊢
  cases hA : As[j]? <;> cases hC : Cs[j]? <;> simp_all
theorem same_of {As Cs : List Ln} (hl : As.length = Cs.length) (h : ∀ j, j < As.length → ofLn (As.getD j L0) = ofLn (Cs.getD j L0)) : As.map ofLn = Cs.map ofLn := by
  refine list_ext0 (d := ofLn L0) (by simpa using hl) fun j hj => ?_
  have i1 : j < As.length := by simpa using hj
  have i2 : j < Cs.length := by omega
  have := h j i1
  simpa [List.getD, i1, i2] using this

set_option maxHeartbeats 4000000 in
theorem SameL_spec {x y : PV} {As Cs : List Ln} (hx : x.vs 3 = some (As.map lV)) (hy : y.vs 3 = some (Cs.map lV)) (hA : ∀ L ∈ As, L.pv.vs 2 = some (L.ps.map fV) ∧ L.ps.length ≤ 1000000) (hC : ∀ L ∈ Cs, L.pv.vs 2 = some (L.ps.map fV)) (hl : As.length ≤ 1000000) :
    call prog (.fn 92 []) [x, y] st = some (.bool (sameLB As Cs), st) := by
  refine call_of_W prog_92 ?_
  unfold F_posthornref10_Same; dsimp only
  generalize hQ1 : endQ st _ _ = Q0
  have hxl := len_vs hx
  have hyl := len_vs hy
  rw [List.length_map] at hxl hyl
  have no : ∀ (E : Env) (S : St), Kept st S → As.map ofLn ≠ Cs.map ofLn → E 4 = .bool false → Q0 .ret E S := fun E S k h h4 => by
    rw [← hQ1, qblz]
    exact retB h4 k (by simp [sameLB, h])
  have yes : ∀ (E : Env) (S : St), Kept st S → As.map ofLn = Cs.map ofLn → E 4 = .bool true → Q0 .ret E S := fun E S k h h4 => by
    rw [← hQ1, qblz]
    exact retB h4 k (by simp [sameLB, h])
  by_cases hlen : As.length = Cs.length
  · have e1 : ((As.length : Int) = (Cs.length : Int)) := by omega
    simp (maxSteps := 1000000) (disch := omega) only [hxl, hyl, hlen, qaaz, qabz, qacz, qadz, qaez, qafz, qagz, qahz, qaiz, qajz, qakz, qalz, qamz, qanz, evOp, qaoz, qapz, qaqz, qarz, qasz, qatz, qauz, qavz,
 ↓reduceIte, Nat.reduceEqDiff, List.nil_append, List.cons_append, List.append_nil, List.map_cons, List.map_nil, qawz, qaxz, qayz, Option.map_some, Option.map_none, qazz, qbaz, qbbz, qbcz, qbdz, qbez, qbfz, qbgz, qbhz, qbiz, qbjz, qbkz, qblz, qbmz, qbnz, qboz,
 qbpz, qbqz, qbrz, qbsz, qbtz, qbuz, qbvz, qbwz, qbxz, qbyz, qbzz, qcaz, qcbz, qccz, qcdz, qcez, qcfz, qcgz, qchz, qciz, beq_true, beq_false, Bool.not_eq_true', decide_eq_true_eq, decide_eq_false_iff_not, decide_true, decide_false,
 Int.toNat_natCast, Int.ofNat_lt, Int.ofNat_le, Int.natCast_inj, Bool.false_eq_true, Bool.true_eq_false, qcjz, List.getElem?_cons_zero, List.getElem?_cons_succ, qckz, Int.reduceToNat, Int.reduceLE, true_and, and_true, reduceCtorEq, or_false, false_or, or_true, Option.some.injEq, exists_eq_left', Bool.not_true, Bool.not_false, ne_eq, Int.reduceEq, not_true_eq_false, not_false_eq_true, Int.reduceLT, UInt8.reduceLT, UInt8.reduceLE, UInt8.reduceToNat]
    obtain ⟨I, hI⟩ : ∃ I : Nat → Env → St → Prop, I = fun k E S => ∃ i : Nat, k = As.length - i ∧ i ≤ As.length ∧ Kept st S ∧ (∀ j, j < i → ofLn (As.getD j L0) = ofLn (Cs.getD j L0)) ∧ E 0 = x ∧ E 1 = y ∧ E 5 = .int .i64 (i : Int) := ⟨_, rfl⟩
    refine W_loop I ?_ (n := As.length) (by
      rw [hI]; exact ⟨0, rfl, by omega, Kept.start, fun j hj => by omega, rfl, rfl, rfl⟩)
    intro k E S hh
    rw [hI] at hh
    obtain ⟨i, rfl, hi, hk, hall, h0, h1, h5⟩ := hh
    by_cases hlt : i < As.length
    · have hltC : i < Cs.length := by omega
      obtain ⟨A, hAe⟩ : ∃ A, A = As.getD i L0 := ⟨_, rfl⟩
      obtain ⟨C, hCe⟩ : ∃ C, C = Cs.getD i L0 := ⟨_, rfl⟩
      have hAm : A ∈ As := by rw [hAe]; simp [List.getD, hlt]
      have hCm : C ∈ Cs := by rw [hCe]; simp [List.getD, hltC]
      have hia := iaddr_L (k := .i64) (c := (i : Int)) hx (by omega) (by rw [Int.toNat_natCast]; exact hlt)
      have hic := iaddr_L (k := .i64) (c := (i : Int)) hy (by omega) (by rw [Int.toNat_natCast]; exact hltC)
      rw [Int.toNat_natCast, ← hAe] at hia
      rw [Int.toNat_natCast, ← hCe] at hic
      obtain ⟨hAv, hApl⟩ := hA A hAm
      have hCv := hC C hCm
      have hAl := len_vs hAv
      have hCl := len_vs hCv
      rw [List.length_map] at hAl hCl
      have dif : ofLn A ≠ ofLn C → As.map ofLn ≠ Cs.map ofLn := fun h q => h (by rw [hAe, hCe]; exact same_get q i)
      by_cases hn : A.n = C.n
      · by_cases hv : A.v = C.v
        · by_cases hp : A.ps.length = C.ps.length
          · have ep : ((A.ps.length : Int) = (C.ps.length : Int)) := by omega
            simp (maxSteps := 1000000) (disch := omega) only [h0, h1, h5, hxl, hlt, hia, hic, fa3_0, fa3_1, fa3_2, ldcp, eq_true hn, eq_true hv, hAl, hCl, hp, qaaz, qabz, qacz, qadz, qaez, qafz, qagz, qahz, qaiz, qajz, qakz, qalz, qamz, qanz, evOp, qaoz, qapz, qaqz, qarz, qasz, qatz, qauz, qavz,
 ↓reduceIte, Nat.reduceEqDiff, List.nil_append, List.cons_append, List.append_nil, List.map_cons, List.map_nil, qawz, qaxz, qayz, Option.map_some, Option.map_none, qazz, qbaz, qbbz, qbcz, qbdz, qbez, qbfz, qbgz, qbhz, qbiz, qbjz, qbkz, qblz, qbmz, qbnz, qboz,
 qbpz, qbqz, qbrz, qbsz, qbtz, qbuz, qbvz, qbwz, qbxz, qbyz, qbzz, qcaz, qcbz, qccz, qcdz, qcez, qcfz, qcgz, qchz, qciz, beq_true, beq_false, Bool.not_eq_true', decide_eq_true_eq, decide_eq_false_iff_not, decide_true, decide_false,
 Int.toNat_natCast, Int.ofNat_lt, Int.ofNat_le, Int.natCast_inj, Bool.false_eq_true, Bool.true_eq_false, qcjz, List.getElem?_cons_zero, List.getElem?_cons_succ, qckz, Int.reduceToNat, Int.reduceLE, true_and, and_true, reduceCtorEq, or_false, false_or, or_true, Option.some.injEq, exists_eq_left', Bool.not_true, Bool.not_false, ne_eq, Int.reduceEq, not_true_eq_false, not_false_eq_true, Int.reduceLT, UInt8.reduceLT, UInt8.reduceLE, UInt8.reduceToNat]
            obtain ⟨II, hII⟩ : ∃ II : Nat → Env → St → Prop, II = fun z E S => ∃ k : Nat, z = A.ps.length - k ∧ k ≤ A.ps.length ∧ Kept st S ∧ (∀ j, j < k → A.ps.getD j ([], []) = C.ps.getD j ([], [])) ∧ E 0 = x ∧ E 1 = y ∧ E 5 = .int .i64 (i : Int) ∧ E 6 = .int .i64 (k : Int) := ⟨_, rfl⟩
            refine W_loop II ?_ (n := A.ps.length) (by
              rw [hII]; exact ⟨0, rfl, by omega, hk, fun j hj => by omega, h0, h1, h5, rfl⟩)
            clear hk h0 h1 h5
            intro z E S hh
            rw [hII] at hh
            obtain ⟨k, rfl, hki, hk, hdif, h0, h1, h5, h6⟩ := hh
            by_cases hkt : k < A.ps.length
            · obtain ⟨f, hf⟩ : ∃ f, f = A.ps.getD k ([], []) := ⟨_, rfl⟩
              obtain ⟨g, hg⟩ : ∃ g, g = C.ps.getD k ([], []) := ⟨_, rfl⟩
              have hif := iaddr_f (k := .i64) (c := (k : Int)) hAv (by omega) (by rw [Int.toNat_natCast]; exact hkt)
              have hig := iaddr_f (k := .i64) (c := (k : Int)) hCv (by omega) (by rw [Int.toNat_natCast]; omega)
              rw [Int.toNat_natCast, ← hf] at hif
              rw [Int.toNat_natCast, ← hg] at hig
              by_cases hfg : f.1 = g.1 ∧ f.2 = g.2
              · simp (maxSteps := 1000000) (disch := omega) only [h0, h1, h5, h6, hia, hic, fa3_1, ldcp, hAl, hkt, hif, hig, load_f2, neq_f, hfg, add_n, loopQ_normal, qaaz, qabz, qacz, qadz, qaez, qafz, qagz, qahz, qaiz, qajz, qakz, qalz, qamz, qanz, evOp, qaoz, qapz, qaqz, qarz, qasz, qatz, qauz, qavz,
 ↓reduceIte, Nat.reduceEqDiff, List.nil_append, List.cons_append, List.append_nil, List.map_cons, List.map_nil, qawz, qaxz, qayz, Option.map_some, Option.map_none, qazz, qbaz, qbbz, qbcz, qbdz, qbez, qbfz, qbgz, qbhz, qbiz, qbjz, qbkz, qblz, qbmz, qbnz, qboz,
 qbpz, qbqz, qbrz, qbsz, qbtz, qbuz, qbvz, qbwz, qbxz, qbyz, qbzz, qcaz, qcbz, qccz, qcdz, qcez, qcfz, qcgz, qchz, qciz, beq_true, beq_false, Bool.not_eq_true', decide_eq_true_eq, decide_eq_false_iff_not, decide_true, decide_false,
 Int.toNat_natCast, Int.ofNat_lt, Int.ofNat_le, Int.natCast_inj, Bool.false_eq_true, Bool.true_eq_false, qcjz, List.getElem?_cons_zero, List.getElem?_cons_succ, qckz, Int.reduceToNat, Int.reduceLE, true_and, and_true, reduceCtorEq, or_false, false_or, or_true, Option.some.injEq, exists_eq_left', Bool.not_true, Bool.not_false, ne_eq, Int.reduceEq, not_true_eq_false, not_false_eq_true, Int.reduceLT, UInt8.reduceLT, UInt8.reduceLE, UInt8.reduceToNat]
                refine ⟨A.ps.length - (k + 1), by omega, ?_⟩
                rw [hII]
                refine ⟨k + 1, rfl, by omega, hk, fun j hj => ?_, h0, h1, h5, rfl⟩
                by_cases hjk : j = k
                · subst hjk; rw [← hf, ← hg]; exact Prod.ext hfg.1 hfg.2
                · exact hdif j (by omega)
              · simp (maxSteps := 1000000) (disch := omega) only [h0, h1, h5, h6, hia, hic, fa3_1, ldcp, hAl, hkt, hif, hig, load_f2, neq_f, hfg, qaaz, qabz, qacz, qadz, qaez, qafz, qagz, qahz, qaiz, qajz, qakz, qalz, qamz, qanz, evOp, qaoz, qapz, qaqz, qarz, qasz, qatz, qauz, qavz,
 ↓reduceIte, Nat.reduceEqDiff, List.nil_append, List.cons_append, List.append_nil, List.map_cons, List.map_nil, qawz, qaxz, qayz, Option.map_some, Option.map_none, qazz, qbaz, qbbz, qbcz, qbdz, qbez, qbfz, qbgz, qbhz, qbiz, qbjz, qbkz, qblz, qbmz, qbnz, qboz,
 qbpz, qbqz, qbrz, qbsz, qbtz, qbuz, qbvz, qbwz, qbxz, qbyz, qbzz, qcaz, qcbz, qccz, qcdz, qcez, qcfz, qcgz, qchz, qciz, beq_true, beq_false, Bool.not_eq_true', decide_eq_true_eq, decide_eq_false_iff_not, decide_true, decide_false,
 Int.toNat_natCast, Int.ofNat_lt, Int.ofNat_le, Int.natCast_inj, Bool.false_eq_true, Bool.true_eq_false, qcjz, List.getElem?_cons_zero, List.getElem?_cons_succ, qckz, Int.reduceToNat, Int.reduceLE, true_and, and_true, reduceCtorEq, or_false, false_or, or_true, Option.some.injEq, exists_eq_left', Bool.not_true, Bool.not_false, ne_eq, Int.reduceEq, not_true_eq_false, not_false_eq_true, Int.reduceLT, UInt8.reduceLT, UInt8.reduceLE, UInt8.reduceToNat]
                exact no _ _ hk (dif fun q => hfg (by
                  have q2 : A.ps = C.ps := congrArg (fun z : LnD => z.2.1) q
                  rw [hf, hg, q2]; exact ⟨rfl, rfl⟩)) rfl
            · obtain rfl : k = A.ps.length := by omega
              simp (maxSteps := 1000000) (disch := omega) only [h0, h1, h5, h6, hia, fa3_1, ldcp, hAl, hkt, add_n, loopQ_normal, qaaz, qabz, qacz, qadz, qaez, qafz, qagz, qahz, qaiz, qajz, qakz, qalz, qamz, qanz, evOp, qaoz, qapz, qaqz, qarz, qasz, qatz, qauz, qavz,
 ↓reduceIte, Nat.reduceEqDiff, List.nil_append, List.cons_append, List.append_nil, List.map_cons, List.map_nil, qawz, qaxz, qayz, Option.map_some, Option.map_none, qazz, qbaz, qbbz, qbcz, qbdz, qbez, qbfz, qbgz, qbhz, qbiz, qbjz, qbkz, qblz, qbmz, qbnz, qboz,
 qbpz, qbqz, qbrz, qbsz, qbtz, qbuz, qbvz, qbwz, qbxz, qbyz, qbzz, qcaz, qcbz, qccz, qcdz, qcez, qcfz, qcgz, qchz, qciz, beq_true, beq_false, Bool.not_eq_true', decide_eq_true_eq, decide_eq_false_iff_not, decide_true, decide_false,
 Int.toNat_natCast, Int.ofNat_lt, Int.ofNat_le, Int.natCast_inj, Bool.false_eq_true, Bool.true_eq_false, qcjz, List.getElem?_cons_zero, List.getElem?_cons_succ, qckz, Int.reduceToNat, Int.reduceLE, true_and, and_true, reduceCtorEq, or_false, false_or, or_true, Option.some.injEq, exists_eq_left', Bool.not_true, Bool.not_false, ne_eq, Int.reduceEq, not_true_eq_false, not_false_eq_true, Int.reduceLT, UInt8.reduceLT, UInt8.reduceLE, UInt8.reduceToNat]
              refine ⟨As.length - (i + 1), by omega, ?_⟩
              rw [hI]
              refine ⟨i + 1, rfl, by omega, hk, fun j hj => ?_, h0, h1, rfl⟩
              by_cases hji : j = i
              · subst hji
                rw [← hAe, ← hCe]
                have hps : A.ps = C.ps := list_ext0 hp hdif
                unfold ofLn; rw [hn, hv, hps]
              · exact hall j (by omega)
          · have ep : ¬ ((A.ps.length : Int) = (C.ps.length : Int)) := by omega
            simp (maxSteps := 1000000) (disch := omega) only [h0, h1, h5, hxl, hlt, hia, hic, fa3_0, fa3_1, fa3_2, ldcp, eq_true hn, eq_true hv, hAl, hCl, hp, qaaz, qabz, qacz, qadz, qaez, qafz, qagz, qahz, qaiz, qajz, qakz, qalz, qamz, qanz, evOp, qaoz, qapz, qaqz, qarz, qasz, qatz, qauz, qavz,
 ↓reduceIte, Nat.reduceEqDiff, List.nil_append, List.cons_append, List.append_nil, List.map_cons, List.map_nil, qawz, qaxz, qayz, Option.map_some, Option.map_none, qazz, qbaz, qbbz, qbcz, qbdz, qbez, qbfz, qbgz, qbhz, qbiz, qbjz, qbkz, qblz, qbmz, qbnz, qboz,
 qbpz, qbqz, qbrz, qbsz, qbtz, qbuz, qbvz, qbwz, qbxz, qbyz, qbzz, qcaz, qcbz, qccz, qcdz, qcez, qcfz, qcgz, qchz, qciz, beq_true, beq_false, Bool.not_eq_true', decide_eq_true_eq, decide_eq_false_iff_not, decide_true, decide_false,
 Int.toNat_natCast, Int.ofNat_lt, Int.ofNat_le, Int.natCast_inj, Bool.false_eq_true, Bool.true_eq_false, qcjz, List.getElem?_cons_zero, List.getElem?_cons_succ, qckz, Int.reduceToNat, Int.reduceLE, true_and, and_true, reduceCtorEq, or_false, false_or, or_true, Option.some.injEq, exists_eq_left', Bool.not_true, Bool.not_false, ne_eq, Int.reduceEq, not_true_eq_false, not_false_eq_true, Int.reduceLT, UInt8.reduceLT, UInt8.reduceLE, UInt8.reduceToNat]
            exact no _ _ hk (dif fun q => hp (by rw [show A.ps = C.ps from congrArg (fun z : LnD => z.2.1) q])) rfl
        · simp (maxSteps := 1000000) (disch := omega) only [h0, h1, h5, hxl, hlt, hia, hic, fa3_0, fa3_1, fa3_2, ldcp, eq_true hn, hv, qaaz, qabz, qacz, qadz, qaez, qafz, qagz, qahz, qaiz, qajz, qakz, qalz, qamz, qanz, evOp, qaoz, qapz, qaqz, qarz, qasz, qatz, qauz, qavz,
 ↓reduceIte, Nat.reduceEqDiff, List.nil_append, List.cons_append, List.append_nil, List.map_cons, List.map_nil, qawz, qaxz, qayz, Option.map_some, Option.map_none, qazz, qbaz, qbbz, qbcz, qbdz, qbez, qbfz, qbgz, qbhz, qbiz, qbjz, qbkz, qblz, qbmz, qbnz, qboz,
 qbpz, qbqz, qbrz, qbsz, qbtz, qbuz, qbvz, qbwz, qbxz, qbyz, qbzz, qcaz, qcbz, qccz, qcdz, qcez, qcfz, qcgz, qchz, qciz, beq_true, beq_false, Bool.not_eq_true', decide_eq_true_eq, decide_eq_false_iff_not, decide_true, decide_false,
 Int.toNat_natCast, Int.ofNat_lt, Int.ofNat_le, Int.natCast_inj, Bool.false_eq_true, Bool.true_eq_false, qcjz, List.getElem?_cons_zero, List.getElem?_cons_succ, qckz, Int.reduceToNat, Int.reduceLE, true_and, and_true, reduceCtorEq, or_false, false_or, or_true, Option.some.injEq, exists_eq_left', Bool.not_true, Bool.not_false, ne_eq, Int.reduceEq, not_true_eq_false, not_false_eq_true, Int.reduceLT, UInt8.reduceLT, UInt8.reduceLE, UInt8.reduceToNat]
          exact no _ _ hk (dif fun q => hv (congrArg (fun z : LnD => z.2.2) q)) rfl
      · simp (maxSteps := 1000000) (disch := omega) only [h0, h1, h5, hxl, hlt, hia, hic, fa3_0, fa3_1, fa3_2, ldcp, hn, qaaz, qabz, qacz, qadz, qaez, qafz, qagz, qahz, qaiz, qajz, qakz, qalz, qamz, qanz, evOp, qaoz, qapz, qaqz, qarz, qasz, qatz, qauz, qavz,
 ↓reduceIte, Nat.reduceEqDiff, List.nil_append, List.cons_append, List.append_nil, List.map_cons, List.map_nil, qawz, qaxz, qayz, Option.map_some, Option.map_none, qazz, qbaz, qbbz, qbcz, qbdz, qbez, qbfz, qbgz, qbhz, qbiz, qbjz, qbkz, qblz, qbmz, qbnz, qboz,
 qbpz, qbqz, qbrz, qbsz, qbtz, qbuz, qbvz, qbwz, qbxz, qbyz, qbzz, qcaz, qcbz, qccz, qcdz, qcez, qcfz, qcgz, qchz, qciz, beq_true, beq_false, Bool.not_eq_true', decide_eq_true_eq, decide_eq_false_iff_not, decide_true, decide_false,
 Int.toNat_natCast, Int.ofNat_lt, Int.ofNat_le, Int.natCast_inj, Bool.false_eq_true, Bool.true_eq_false, qcjz, List.getElem?_cons_zero, List.getElem?_cons_succ, qckz, Int.reduceToNat, Int.reduceLE, true_and, and_true, reduceCtorEq, or_false, false_or, or_true, Option.some.injEq, exists_eq_left', Bool.not_true, Bool.not_false, ne_eq, Int.reduceEq, not_true_eq_false, not_false_eq_true, Int.reduceLT, UInt8.reduceLT, UInt8.reduceLE, UInt8.reduceToNat]
        exact no _ _ hk (dif fun q => hn (congrArg (fun z : LnD => z.1) q)) rfl
    · obtain rfl : i = As.length := by omega
      simp (maxSteps := 1000000) (disch := omega) only [h0, h1, h5, hxl, hlt, qaaz, qabz, qacz, qadz, qaez, qafz, qagz, qahz, qaiz, qajz, qakz, qalz, qamz, qanz, evOp, qaoz, qapz, qaqz, qarz, qasz, qatz, qauz, qavz,
 ↓reduceIte, Nat.reduceEqDiff, List.nil_append, List.cons_append, List.append_nil, List.map_cons, List.map_nil, qawz, qaxz, qayz, Option.map_some, Option.map_none, qazz, qbaz, qbbz, qbcz, qbdz, qbez, qbfz, qbgz, qbhz, qbiz, qbjz, qbkz, qblz, qbmz, qbnz, qboz,
 qbpz, qbqz, qbrz, qbsz, qbtz, qbuz, qbvz, qbwz, qbxz, qbyz, qbzz, qcaz, qcbz, qccz, qcdz, qcez, qcfz, qcgz, qchz, qciz, beq_true, beq_false, Bool.not_eq_true', decide_eq_true_eq, decide_eq_false_iff_not, decide_true, decide_false,
 Int.toNat_natCast, Int.ofNat_lt, Int.ofNat_le, Int.natCast_inj, Bool.false_eq_true, Bool.true_eq_false, qcjz, List.getElem?_cons_zero, List.getElem?_cons_succ, qckz, Int.reduceToNat, Int.reduceLE, true_and, and_true, reduceCtorEq, or_false, false_or, or_true, Option.some.injEq, exists_eq_left', Bool.not_true, Bool.not_false, ne_eq, Int.reduceEq, not_true_eq_false, not_false_eq_true, Int.reduceLT, UInt8.reduceLT, UInt8.reduceLE, UInt8.reduceToNat]
      exact yes _ _ hk (same_of hlen hall) rfl
  · have e1 : ¬ ((As.length : Int) = (Cs.length : Int)) := by omega
    simp (maxSteps := 1000000) (disch := omega) only [hxl, hyl, hlen, qaaz, qabz, qacz, qadz, qaez, qafz, qagz, qahz, qaiz, qajz, qakz, qalz, qamz, qanz, evOp, qaoz, qapz, qaqz, qarz, qasz, qatz, qauz, qavz,
 ↓reduceIte, Nat.reduceEqDiff, List.nil_append, List.cons_append, List.append_nil, List.map_cons, List.map_nil, qawz, qaxz, qayz, Option.map_some, Option.map_none, qazz, qbaz, qbbz, qbcz, qbdz, qbez, qbfz, qbgz, qbhz, qbiz, qbjz, qbkz, qblz, qbmz, qbnz, qboz,
 qbpz, qbqz, qbrz, qbsz, qbtz, qbuz, qbvz, qbwz, qbxz, qbyz, qbzz, qcaz, qcbz, qccz, qcdz, qcez, qcfz, qcgz, qchz, qciz, beq_true, beq_false, Bool.not_eq_true', decide_eq_true_eq, decide_eq_false_iff_not, decide_true, decide_false,
 Int.toNat_natCast, Int.ofNat_lt, Int.ofNat_le, Int.natCast_inj, Bool.false_eq_true, Bool.true_eq_false, qcjz, List.getElem?_cons_zero, List.getElem?_cons_succ, qckz, Int.reduceToNat, Int.reduceLE, true_and, and_true, reduceCtorEq, or_false, false_or, or_true, Option.some.injEq, exists_eq_left', Bool.not_true, Bool.not_false, ne_eq, Int.reduceEq, not_true_eq_false, not_false_eq_true, Int.reduceLT, UInt8.reduceLT, UInt8.reduceLE, UInt8.reduceToNat]
    exact no _ _ Kept.start (fun h => hlen (same_len h)) rfl

/-! ### Fixed calls -/
def alS : Bs := [97, 116, 116, 101, 110, 100, 101, 101, 59, 67, 78, 61, 34, 97, 44, 32, 98, 34, 58, 109, 97, 105, 108, 116, 111, 58, 120]
def alN : Bs := [65, 84, 84, 69, 78, 68, 69, 69]
def alV : Bs := [109, 97, 105, 108, 116, 111, 58, 120]
def alP : Fld := ([67, 78], [97, 44, 32, 98])
theorem al_rt : rtB ⟨alN, .nils, [alP], alV⟩ = true := by
  refine rtB_true ⟨by kernel_rfl, by kernel_rfl, by decide, by decide, fun i hi => ?_, fun i hi k hk => ?_⟩
  · simp only [List.length_singleton] at hi
    obtain rfl : i = 0 := by omega
    exact ⟨by kernel_rfl, by kernel_rfl, by decide, by kernel_rfl⟩
  · simp only [List.length_singleton] at hi
    omega
theorem al_one : oneL alS = some (alN, [alP], alV) := by
  have h1 : goL (alS.length + 1) [] (cutV [59, 58] alS).2.1 (cutV [59, 58] alS).2.2 = some ([alP], alV) := by kernel_rfl
  have h2 : upOf (cutV [59, 58] alS).1 = alN := by kernel_rfl
  unfold oneL
  rw [h1, h2, oneG, if_pos al_rt]
theorem al_none : oneL [97] = none := by
  have h1 : goL (([97] : Bs).length + 1) [] (cutV [59, 58] [97]).2.1 (cutV [59, 58] [97]).2.2 = none := by kernel_rfl
  unfold oneL
  rw [h1]; rfl
theorem al_esc : escOf [97, 59, 98] = [97, 92, 59, 98] := by kernel_rfl

set_option maxHeartbeats 4000000 in
theorem alive10_spec : call prog (.fn 40 []) [] st = some (.bool true, st) := by
  refine call_of_W prog_40 ?_
  unfold F_posthornlaw10_alive; dsimp only
  have o1 := fun S : St => One_spec (st := S) (x := alS) (by decide)
  have o2 := fun S : St => One_spec (st := S) (x := [97]) (by decide)
  rw [al_one] at o1
  rw [al_none] at o2
  simp only [oneV] at o1 o2
  refine W_cut (fun E S => Kept st S) ?_ ?_
  · simp (maxSteps := 1000000) (disch := omega) only [qaaz, qabz, qacz, qadz, qaez, qafz, qagz, qahz, qaiz, qajz, qakz, qalz, qamz, qanz, evOp, qaoz, qapz, qaqz, qarz, qasz, qatz, qauz, qavz,
 ↓reduceIte, Nat.reduceEqDiff, List.nil_append, List.cons_append, List.append_nil, List.map_cons, List.map_nil, qawz, qaxz, qayz, Option.map_some, Option.map_none, qazz, qbaz, qbbz, qbcz, qbdz, qbez, qbfz, qbgz, qbhz, qbiz, qbjz, qbkz, qblz, qbmz, qbnz, qboz,
 qbpz, qbqz, qbrz, qbsz, qbtz, qbuz, qbvz, qbwz, qbxz, qbyz, qbzz, qcaz, qcbz, qccz, qcdz, qcez, qcfz, qcgz, qchz, qciz, beq_true, beq_false, Bool.not_eq_true', decide_eq_true_eq, decide_eq_false_iff_not, decide_true, decide_false,
 Int.toNat_natCast, Int.ofNat_lt, Int.ofNat_le, Int.natCast_inj, Bool.false_eq_true, Bool.true_eq_false, qcjz, List.getElem?_cons_zero, List.getElem?_cons_succ, qckz, Int.reduceToNat, Int.reduceLE, true_and, and_true, reduceCtorEq, or_false, false_or, or_true, Option.some.injEq, exists_eq_left', Bool.not_true, Bool.not_false, ne_eq, Int.reduceEq, not_true_eq_false, not_false_eq_true, Int.reduceLT, UInt8.reduceLT, UInt8.reduceLE, UInt8.reduceToNat]
    exact Kept.start
  rintro e S hk
  obtain ⟨PVv, hPV⟩ : ∃ v, v = newSl S 2 ([alP].map fV) := ⟨_, rfl⟩
  have hiv : iaddrPV 2 PVv (.int .i64 0) = some (.cp [.str alP.1, .str alP.2]) := by rw [hPV]; rfl
  have hln : lenPV false PVv = some (.int .i64 1) := by rw [hPV]; rfl
  have hlf : leafOk PVv = true ∧ ∀ n, PVv.inB n = true := by rw [hPV]; exact newSl_leaf
  obtain ⟨b1, hb1⟩ : ∃ b1, b1 = S.boxes.length := ⟨_, rfl⟩
  have hle1 : st.boxes.length ≤ b1 := by have := hk.bl; omega
  refine W_cut (fun E S => Kept st S ∧ At S b1 [.str alN, PVv, .str alV] ∧ E 1 = .ptr b1 0 ∧ E 2 = .int .i64 0) ?_ ?_
  · have q1 := o1 S
    rw [← hPV] at q1
    obtain ⟨S1, hS1⟩ : ∃ S1, S1 = newS S ([alP].map fV).isEmpty := ⟨_, rfl⟩
    obtain ⟨nb, nl, np⟩ := newS_bx (S := S) (b := ([alP].map fV).isEmpty)
    have k1 := hk.newS (b := ([alP].map fV).isEmpty)
    rw [← hS1] at q1 nb nl np k1
    have hA := At.last (s := S1) (z := [.str [], .nils, .str []]) (T := S1.toks) (Lp := S1.loops) (lo := S1.low)
    have hb1' : b1 = S1.boxes.length := by rw [nb]; exact hb1
    rw [← hb1'] at hA
    obtain ⟨S2, a2, w2⟩ := hA.st3 (v0 := .str alN) (v1 := PVv) (v2 := .str alV) rfl hlf.1 rfl rfl (hlf.2 _) rfl
    have q1' : call prog (.fn 55 []) [.str [97, 116, 116, 101, 110, 100, 101, 101, 59, 67, 78, 61, 34, 97, 44, 32, 98, 34, 58, 109, 97, 105, 108, 116, 111, 58, 120]] S = some (.tup [.agg [.str alN, PVv, .str alV], .int .i64 0], S1) := q1
    simp (maxSteps := 1000000) (disch := omega) only [q1', allocPV, ← hb1', a2, qaaz, qabz, qacz, qadz, qaez, qafz, qagz, qahz, qaiz, qajz, qakz, qalz, qamz, qanz, evOp, qaoz, qapz, qaqz, qarz, qasz, qatz, qauz, qavz,
 ↓reduceIte, Nat.reduceEqDiff, List.nil_append, List.cons_append, List.append_nil, List.map_cons, List.map_nil, qawz, qaxz, qayz, Option.map_some, Option.map_none, qazz, qbaz, qbbz, qbcz, qbdz, qbez, qbfz, qbgz, qbhz, qbiz, qbjz, qbkz, qblz, qbmz, qbnz, qboz,
 qbpz, qbqz, qbrz, qbsz, qbtz, qbuz, qbvz, qbwz, qbxz, qbyz, qbzz, qcaz, qcbz, qccz, qcdz, qcez, qcfz, qcgz, qchz, qciz, beq_true, beq_false, Bool.not_eq_true', decide_eq_true_eq, decide_eq_false_iff_not, decide_true, decide_false,
 Int.toNat_natCast, Int.ofNat_lt, Int.ofNat_le, Int.natCast_inj, Bool.false_eq_true, Bool.true_eq_false, qcjz, List.getElem?_cons_zero, List.getElem?_cons_succ, qckz, Int.reduceToNat, Int.reduceLE, true_and, and_true, reduceCtorEq, or_false, false_or, or_true, Option.some.injEq, exists_eq_left', Bool.not_true, Bool.not_false, ne_eq, Int.reduceEq, not_true_eq_false, not_false_eq_true, Int.reduceLT, UInt8.reduceLT, UInt8.reduceLE, UInt8.reduceToNat]
    exact ⟨w2.kp st k1.alloc' hle1, w2.at_⟩
  clear hk hb1
  rintro e S ⟨hk, hA, h1, h2⟩
  obtain ⟨b3, hb3⟩ : ∃ b3, b3 = S.boxes.length := ⟨_, rfl⟩
  have hne13 : b1 ≠ b3 := by have := hA.lt; omega
  have hle3 : st.boxes.length ≤ b3 := by have := hk.bl; omega
  refine W_cut (fun E S => Kept st S ∧ At S b1 [.str alN, PVv, .str alV] ∧ E 1 = .ptr b1 0 ∧ E 2 = .int .i64 0 ∧ E 4 = .int .i64 90) ?_ ?_
  · have hA3 := At.last (s := S) (z := [.str [], .nils, .str []]) (T := S.toks) (Lp := S.loops) (lo := S.low)
    rw [← hb3] at hA3
    obtain ⟨S2, a2, w2⟩ := hA3.st3 (v0 := .str []) (v1 := .nils) (v2 := .str []) rfl rfl rfl rfl rfl rfl
    simp (maxSteps := 1000000) (disch := omega) only [h1, h2, o2, allocPV, ← hb3, a2, qaaz, qabz, qacz, qadz, qaez, qafz, qagz, qahz, qaiz, qajz, qakz, qalz, qamz, qanz, evOp, qaoz, qapz, qaqz, qarz, qasz, qatz, qauz, qavz,
 ↓reduceIte, Nat.reduceEqDiff, List.nil_append, List.cons_append, List.append_nil, List.map_cons, List.map_nil, qawz, qaxz, qayz, Option.map_some, Option.map_none, qazz, qbaz, qbbz, qbcz, qbdz, qbez, qbfz, qbgz, qbhz, qbiz, qbjz, qbkz, qblz, qbmz, qbnz, qboz,
 qbpz, qbqz, qbrz, qbsz, qbtz, qbuz, qbvz, qbwz, qbxz, qbyz, qbzz, qcaz, qcbz, qccz, qcdz, qcez, qcfz, qcgz, qchz, qciz, beq_true, beq_false, Bool.not_eq_true', decide_eq_true_eq, decide_eq_false_iff_not, decide_true, decide_false,
 Int.toNat_natCast, Int.ofNat_lt, Int.ofNat_le, Int.natCast_inj, Bool.false_eq_true, Bool.true_eq_false, qcjz, List.getElem?_cons_zero, List.getElem?_cons_succ, qckz, Int.reduceToNat, Int.reduceLE, true_and, and_true, reduceCtorEq, or_false, false_or, or_true, Option.some.injEq, exists_eq_left', Bool.not_true, Bool.not_false, ne_eq, Int.reduceEq, not_true_eq_false, not_false_eq_true, Int.reduceLT, UInt8.reduceLT, UInt8.reduceLE, UInt8.reduceToNat]
    exact ⟨w2.kp st hk.alloc' hle3, w2.ot _ _ hne13 hA.alloc⟩
  clear hk hA h1 h2 hb3
  rintro e S ⟨hk, hA, h1, h2, h4⟩
  have l0 := hA.load (k := 0) (v := .str alN) (r := [PVv, .str alV]) rfl
  have l1 := hA.load (k := 1) (v := PVv) (r := [.str alV]) rfl
  have l2 := hA.load (k := 2) (v := .str alV) (r := []) rfl
  have hes := fun S : St => Escape_spec (st := S) (s := [97, 59, 98]) (by simp)
  rw [al_esc] at hes
  have hbu : buildCells [.str [], .str []] [(0, 1, .str [67, 78]), (1, 1, .str [97, 44, 32, 98])] = some [.str [67, 78], .str [97, 44, 32, 98]] := rfl
  have e1 : (alN = [65, 84, 84, 69, 78, 68, 69, 69]) = True := eq_true rfl
  have e2 : (alV = [109, 97, 105, 108, 116, 111, 58, 120]) = True := eq_true rfl
  have e3 : (alP.1 = [67, 78] ∧ alP.2 = [97, 44, 32, 98]) = True := eq_true ⟨rfl, rfl⟩
  simp (maxSteps := 1000000) (disch := omega) only [h1, h2, h4, faddrPV, Nat.zero_add, l0, l1, l2, hln, hiv, load_f2, hbu, eql_f, e1, e2, e3, hes, qaaz, qabz, qacz, qadz, qaez, qafz, qagz, qahz, qaiz, qajz, qakz, qalz, qamz, qanz, evOp, qaoz, qapz, qaqz, qarz, qasz, qatz, qauz, qavz,
 ↓reduceIte, Nat.reduceEqDiff, List.nil_append, List.cons_append, List.append_nil, List.map_cons, List.map_nil, qawz, qaxz, qayz, Option.map_some, Option.map_none, qazz, qbaz, qbbz, qbcz, qbdz, qbez, qbfz, qbgz, qbhz, qbiz, qbjz, qbkz, qblz, qbmz, qbnz, qboz,
 qbpz, qbqz, qbrz, qbsz, qbtz, qbuz, qbvz, qbwz, qbxz, qbyz, qbzz, qcaz, qcbz, qccz, qcdz, qcez, qcfz, qcgz, qchz, qciz, beq_true, beq_false, Bool.not_eq_true', decide_eq_true_eq, decide_eq_false_iff_not, decide_true, decide_false,
 Int.toNat_natCast, Int.ofNat_lt, Int.ofNat_le, Int.natCast_inj, Bool.false_eq_true, Bool.true_eq_false, qcjz, List.getElem?_cons_zero, List.getElem?_cons_succ, qckz, Int.reduceToNat, Int.reduceLE, true_and, and_true, reduceCtorEq, or_false, false_or, or_true, Option.some.injEq, exists_eq_left', Bool.not_true, Bool.not_false, ne_eq, Int.reduceEq, not_true_eq_false, not_false_eq_true, Int.reduceLT, UInt8.reduceLT, UInt8.reduceLE, UInt8.reduceToNat]
  exact retB rfl hk rfl
end Go.Ab

/-
  What the laws of lines' reading ask: plain.
-/
namespace Go.Ab
set_option linter.unusedVariables false
set_option linter.unusedSimpArgs false
set_option maxRecDepth 20000
variable {st s : St} {e : Env}

theorem segs_half : ∀ (k : Nat) (l acc : Bs), l.length ≤ k → 2 * (segs l acc).length ≤ acc.length + l.length + 1 := by
  intro k
  induction k with
  | zero =>
    intro l acc h
    have : l = [] := List.eq_nil_of_length_eq_zero (by omega)
    subst this
    simp only [segs]
    split
    · simp
    · rename_i hne
      have : 1 ≤ acc.length := List.length_pos_iff.2 hne
      simp; omega
  | succ k ih =>
    intro l acc h
    match l with
    | [] =>
      simp only [segs]
      split
      · simp
      · rename_i hne
        have : 1 ≤ acc.length := List.length_pos_iff.2 hne
        simp; omega
    | [c] => simp [segs]
    | c :: d :: r =>
      simp only [segs]
      split
      · have := ih r [] (by simp at h; omega)
        simp at this ⊢; omega
      · have := ih (d :: r) (acc ++ [c]) (by simp at h ⊢; omega)
        simp at this ⊢; omega
theorem place_len2 : ∀ (p : List (Bs × Bool)) (a : Nat), (place a p).length = p.length := by
  intro p
  induction p with
  | nil => intro a; rfl
  | cons z r ih => intro a; simp [place, ih]
theorem refLines_half {l : Bs} : 2 * (refLines l).length ≤ l.length + 1 := by
  have := segs_half l.length l [] (Nat.le_refl _)
  unfold refLines
  rw [place_len2]
  simpa using this
theorem place_at : ∀ (k : Nat) (l acc : Bs) (a : Nat), l.length ≤ k → ∀ q ∈ place a (segs l acc), q.1 + q.2.1.length ≤ a + acc.length + l.length := by
  intro k
  induction k with
  | zero =>
    intro l acc a h q hq
    have : l = [] := List.eq_nil_of_length_eq_zero (by omega)
    subst this
    simp only [segs] at hq
    split at hq
    · simp [place] at hq
    · simp only [place, List.mem_singleton] at hq; subst hq; simp
  | succ k ih =>
    intro l acc a h q hq
    match l with
    | [] =>
      simp only [segs] at hq
      split at hq
      · simp [place] at hq
      · simp only [place, List.mem_singleton] at hq; subst hq; simp
    | [c] => simp only [segs, place, List.mem_singleton] at hq; subst hq; simp; omega
    | c :: d :: r =>
      simp only [segs] at hq
      split at hq
      · simp only [place, List.mem_cons] at hq
        rcases hq with rfl | hq
        · simp
        · have := ih r [] _ (by simp at h; omega) q hq
          simp at this ⊢; omega
      · have := ih (d :: r) (acc ++ [c]) _ (by simp at h ⊢; omega) q hq
        simp at this ⊢; omega
theorem readG_err : ∀ (q : List (Nat × Bs × Bool)) (j : Nat), readG q = .error j → ∃ z ∈ q, z.1 = j := by
  intro q
  induction q with
  | nil => intro j h; cases h
  | cons z r ih =>
    intro j h
    obtain ⟨a, x, w⟩ := z
    simp only [readG] at h
    cases hh : (if w = true then oneL x else none) with
    | none => rw [hh] at h; cases h; exact ⟨(_, x, w), List.mem_cons_self .., rfl⟩
    | some d =>
      rw [hh] at h
      simp only at h
      cases hr : readG r with
      | ok l => rw [hr] at h; cases h
      | error i =>
        rw [hr] at h
        cases h
        obtain ⟨z, hz, h1⟩ := ih _ hr
        exact ⟨z, List.mem_cons_of_mem _ hz, h1⟩
theorem pts_err : ∀ (k : Nat) (l : Bs) (i j : Nat), ptsOf k l i = .error j → j ≤ l.length := by
  intro k
  induction k with
  | zero => intro l i j h; cases h
  | succ k ih =>
    intro l i j h
    simp only [ptsOf] at h
    split at h
    · rename_i hi
      cases hn : nextOf (l.drop i) with
      | none => rw [hn] at h; cases h; omega
      | some pn =>
        obtain ⟨p, n⟩ := pn
        rw [hn] at h
        simp only at h
        cases hr : ptsOf k l (i + n) with
        | ok r => rw [hr] at h; cases h
        | error m => rw [hr] at h; cases h; exact ih _ _ _ hr
    · cases h
theorem readL_err {l : Bs} {j : Nat} {c : Int} (h : readL l = .error (j, c)) : j ≤ l.length ∧ c ≠ 0 := by
  have hu := unfV_len _ l (Nat.le_refl _)
  unfold readL at h
  cases hp : ptsOf ((unfV l).length + 1) (unfV l) 0 with
  | error i =>
    rw [hp] at h; cases h
    exact ⟨Nat.le_trans (pts_err _ _ _ _ hp) hu, by decide⟩
  | ok r =>
    rw [hp] at h
    simp only at h
    cases hg : readG (refLines (unfV l)) with
    | ok ds => rw [hg] at h; cases h
    | error i =>
      rw [hg] at h; cases h
      obtain ⟨z, hz, rfl⟩ := readG_err _ _ hg
      have := place_at _ _ _ 0 (Nat.le_refl _) z hz
      simp only [List.length_nil] at this
      exact ⟨by omega, by decide⟩
theorem readL_ok {l : Bs} {ds : List LnD} (h : readL l = .ok ds) : (∀ d ∈ ds, rtB (toLn d) = true) ∧ (ds.map fun d => (textOfL (toLn d)).length + 2).sum ≤ l.length ∧ 2 * ds.length ≤ l.length + 1 := by
  have hu := unfV_len _ l (Nat.le_refl _)
  unfold readL at h
  cases hp : ptsOf ((unfV l).length + 1) (unfV l) 0 with
  | error i => rw [hp] at h; cases h
  | ok r =>
    rw [hp] at h
    simp only at h
    cases hg : readG (refLines (unfV l)) with
    | error i => rw [hg] at h; cases h
    | ok ds' =>
      rw [hg] at h; cases h
      obtain ⟨h1, h2⟩ := refLines_len (l := unfV l)
      obtain ⟨h3, h4, h5⟩ := h2 _ hg
      have h6 := refLines_half (l := unfV l)
      exact ⟨h3, by omega, by omega⟩

/-! ### Lines that were read may be -/
theorem toLn_vs {d : LnD} : (toLn d).pv.vs 2 = some ((toLn d).ps.map fV) := by
  obtain ⟨n, ps, v⟩ := d
  cases ps with
  | nil => simp [toLn, PV.vs]
  | cons p r => simp [toLn, PV.vs]
theorem nm_len {l : Bs} (h : nmB l = true) : l.length ≤ 64 := by
  simp only [nmB, Bool.and_eq_true, decide_eq_true_eq] at h; exact h.1.2
theorem toLn_ok {d : LnD} (h : rtB (toLn d) = true) : (toLn d).ok := by
  have hp := rt_of h
  have h1 := nm_len hp.1
  have h2 := hp.2.2.1
  have h3 := hp.2.2.2.1
  refine ⟨toLn_vs, ?_, ?_, ?_, by omega, by omega, by omega, fun p hpm => ?_⟩
  · intro n
    unfold toLn
    split <;> rfl
  · unfold toLn
    split <;> rfl
  · unfold toLn
    split <;> rfl
  · have := par_mem hp p hpm
    have h4 := nm_len this.1
    have h5 := this.2.2.1
    omega
theorem dV_map (ds : List LnD) : ds.map dV = (ds.map toLn).map lV := by rw [List.map_map]; rfl
theorem ofLn_map (ds : List LnD) : (ds.map toLn).map ofLn = ds := by
  rw [List.map_map]
  conv => rhs; rw [← List.map_id ds]
  rfl

/-- What reading hands back. -/
theorem readV_parts (r : Except (Nat × Int) (List LnD)) : ∃ (j c : Int) (ds : List LnD), (∀ S : St, ∃ v S', readV S r = (.tup [v, .agg [.int .i64 j, .int .i64 c]], S') ∧ v.vs 3 = some ((ds.map toLn).map lV) ∧ (∀ st, Kept st S → Kept st S') ∧ S'.boxes = S.boxes) ∧
    (match r with | .error (j', c') => j = (j' : Int) ∧ c = c' ∧ ds = [] | .ok ds' => j = 0 ∧ c = 0 ∧ ds = ds') := by
  cases r with
  | error q =>
    obtain ⟨j, c⟩ := q
    exact ⟨j, c, [], fun S => ⟨.nils, S, rfl, by simp [PV.vs], fun _ h => h, rfl⟩, rfl, rfl, rfl⟩
  | ok ds =>
    exact ⟨0, 0, ds, fun S => ⟨newSl S 3 (ds.map dV), newS S (ds.map dV).isEmpty, rfl, by rw [← dV_map]; exact newSl_vs3, fun _ h => h.newS, newS_bx.1⟩, rfl, rfl, rfl⟩
/-! ### How long what is written is -/
theorem outs_sum : ∀ (Ls : List Ln), (Ls.flatMap outL).length ≤ 2 * (Ls.map fun L => (textOfL L).length + 2).sum := by
  intro Ls
  induction Ls with
  | nil => simp
  | cons L r ih =>
    have h1 := foldW_len (textOfL L).length (textOfL L) (Nat.le_refl _)
    simp only [List.flatMap_cons, List.length_append, List.map_cons, List.sum_cons]
    unfold outL at ih ⊢
    omega
theorem lines_len {Ls : List Ln} (h : ∀ L ∈ Ls, rtB L = true) : (refLines (unfV (Ls.flatMap outL))).length = Ls.length := by
  rw [lines_outs h, place_len2]; simp
end Go.Ab

/-
  The laws SheetReads, SheetRight, SheetBack.
-/
namespace Go.Ab
set_option linter.unusedVariables false
set_option linter.unusedSimpArgs false
set_option maxRecDepth 20000
variable {st s : St} {e : Env}

theorem lenN {v : PV} {xs : List PV} (h : v.vs 3 = some xs) : lenPV false v = some (.int .i64 (xs.length : Int)) := len_vs h
theorem hTl {ds : List LnD} (h : ∀ d ∈ ds, rtB (toLn d) = true) : ∀ L ∈ ds.map toLn, L.pv.vs 2 = some (L.ps.map fV) ∧ L.ps.length ≤ 1000000 := fun L hL => by
  obtain ⟨d, hd, rfl⟩ := List.mem_map.1 hL
  exact ⟨toLn_vs, by have := (rt_of (h d hd)).2.2.2.1; omega⟩

set_option maxHeartbeats 4000000 in
theorem law_SheetRight {x : PV} {l : Bs} (hx : x.by = some l) : ∃ s', call prog (.fn 95 []) [x] ⟨[], [], [], 0⟩ = some (.bool true, s') := by
  refine law_of_W prog_95 rfl ?_
  unfold F_posthornlaw10_SheetRight; dsimp only
  obtain ⟨st, hst⟩ : ∃ st : St, st = ⟨[], [], [], 0⟩ := ⟨_, rfl⟩
  have halv := fun S : St => alive10_spec (st := S)
  refine W_cut (fun E S => Kept st S ∧ E 0 = x) ?_ ?_
  · simp (maxSteps := 1000000) (disch := omega) only [List.length_nil, qaaz, qabz, qacz, qadz, qaez, qafz, qagz, qahz, qaiz, qajz, qakz, qalz, qamz, qanz, evOp, qaoz, qapz, qaqz, qarz, qasz, qatz, qauz, qavz,
 ↓reduceIte, Nat.reduceEqDiff, List.nil_append, List.cons_append, List.append_nil, List.map_cons, List.map_nil, qawz, qaxz, qayz, Option.map_some, Option.map_none, qazz, qbaz, qbbz, qbcz, qbdz, qbez, qbfz, qbgz, qbhz, qbiz, qbjz, qbkz, qblz, qbmz, qbnz, qboz,
 qbpz, qbqz, qbrz, qbsz, qbtz, qbuz, qbvz, qbwz, qbxz, qbyz, qbzz, qcaz, qcbz, qccz, qcdz, qcez, qcfz, qcgz, qchz, qciz, beq_true, beq_false, Bool.not_eq_true', decide_eq_true_eq, decide_eq_false_iff_not, decide_true, decide_false,
 Int.toNat_natCast, Int.ofNat_lt, Int.ofNat_le, Int.natCast_inj, Bool.false_eq_true, Bool.true_eq_false, qcjz, List.getElem?_cons_zero, List.getElem?_cons_succ, qckz, Int.reduceToNat, Int.reduceLE, true_and, and_true, reduceCtorEq, or_false, false_or, or_true, Option.some.injEq, exists_eq_left', Bool.not_true, Bool.not_false, ne_eq, Int.reduceEq, not_true_eq_false, not_false_eq_true, Int.reduceLT, UInt8.reduceLT, UInt8.reduceLE, UInt8.reduceToNat]
    rw [hst]; exact Kept.start
  rintro e S ⟨hk, h0⟩
  by_cases hg : 6000 < l.length
  · have e1 : (6000 : Int) < (l.length : Int) := by omega
    simp (maxSteps := 1000000) (disch := omega) only [h0, len_by hx, e1, halv, qaaz, qabz, qacz, qadz, qaez, qafz, qagz, qahz, qaiz, qajz, qakz, qalz, qamz, qanz, evOp, qaoz, qapz, qaqz, qarz, qasz, qatz, qauz, qavz,
 ↓reduceIte, Nat.reduceEqDiff, List.nil_append, List.cons_append, List.append_nil, List.map_cons, List.map_nil, qawz, qaxz, qayz, Option.map_some, Option.map_none, qazz, qbaz, qbbz, qbcz, qbdz, qbez, qbfz, qbgz, qbhz, qbiz, qbjz, qbkz, qblz, qbmz, qbnz, qboz,
 qbpz, qbqz, qbrz, qbsz, qbtz, qbuz, qbvz, qbwz, qbxz, qbyz, qbzz, qcaz, qcbz, qccz, qcdz, qcez, qcfz, qcgz, qchz, qciz, beq_true, beq_false, Bool.not_eq_true', decide_eq_true_eq, decide_eq_false_iff_not, decide_true, decide_false,
 Int.toNat_natCast, Int.ofNat_lt, Int.ofNat_le, Int.natCast_inj, Bool.false_eq_true, Bool.true_eq_false, qcjz, List.getElem?_cons_zero, List.getElem?_cons_succ, qckz, Int.reduceToNat, Int.reduceLE, true_and, and_true, reduceCtorEq, or_false, false_or, or_true, Option.some.injEq, exists_eq_left', Bool.not_true, Bool.not_false, ne_eq, Int.reduceEq, not_true_eq_false, not_false_eq_true, Int.reduceLT, UInt8.reduceLT, UInt8.reduceLE, UInt8.reduceToNat]
  refine W_cut (fun E S => Kept st S ∧ E 0 = x) ?_ ?_
  · have e1 : ¬ (6000 : Int) < (l.length : Int) := by omega
    simp (maxSteps := 1000000) (disch := omega) only [h0, len_by hx, e1, qaaz, qabz, qacz, qadz, qaez, qafz, qagz, qahz, qaiz, qajz, qakz, qalz, qamz, qanz, evOp, qaoz, qapz, qaqz, qarz, qasz, qatz, qauz, qavz,
 ↓reduceIte, Nat.reduceEqDiff, List.nil_append, List.cons_append, List.append_nil, List.map_cons, List.map_nil, qawz, qaxz, qayz, Option.map_some, Option.map_none, qazz, qbaz, qbbz, qbcz, qbdz, qbez, qbfz, qbgz, qbhz, qbiz, qbjz, qbkz, qblz, qbmz, qbnz, qboz,
 qbpz, qbqz, qbrz, qbsz, qbtz, qbuz, qbvz, qbwz, qbxz, qbyz, qbzz, qcaz, qcbz, qccz, qcdz, qcez, qcfz, qcgz, qchz, qciz, beq_true, beq_false, Bool.not_eq_true', decide_eq_true_eq, decide_eq_false_iff_not, decide_true, decide_false,
 Int.toNat_natCast, Int.ofNat_lt, Int.ofNat_le, Int.natCast_inj, Bool.false_eq_true, Bool.true_eq_false, qcjz, List.getElem?_cons_zero, List.getElem?_cons_succ, qckz, Int.reduceToNat, Int.reduceLE, true_and, and_true, reduceCtorEq, or_false, false_or, or_true, Option.some.injEq, exists_eq_left', Bool.not_true, Bool.not_false, ne_eq, Int.reduceEq, not_true_eq_false, not_false_eq_true, Int.reduceLT, UInt8.reduceLT, UInt8.reduceLE, UInt8.reduceToNat]
    exact hk
  clear hk h0
  rintro e S ⟨hk, h0⟩
  have hN : (refLines (unfV l)).length ≤ 4096 := by
    have h6 := refLines_half (l := unfV l)
    have hu := unfV_len _ l (Nat.le_refl _)
    omega
  obtain ⟨j, c, ds, hrv, hrd⟩ := readV_parts (readL l)
  obtain ⟨b4, hb4⟩ : ∃ b4, b4 = S.boxes.length := ⟨_, rfl⟩
  refine W_cut (fun E S => Kept st S ∧ At S b4 [.int .i64 j, .int .i64 c] ∧ (∃ v, E 3 = v ∧ v.vs 3 = some ((ds.map toLn).map lV)) ∧ E 0 = x ∧ E 4 = .ptr b4 0) ?_ ?_
  · have q1 := Read_spec (st := S) hx (by omega) hN
    obtain ⟨v, S1, q2, q3, q4, q5⟩ := hrv S
    rw [q2] at q1
    have hA := At.last (s := S1) (z := [.int .i64 0, .int .i64 0]) (T := S1.toks) (Lp := S1.loops) (lo := S1.low)
    have hb4' : b4 = S1.boxes.length := by rw [q5]; exact hb4
    rw [← hb4'] at hA
    obtain ⟨S2, a2, w2⟩ := hA.st2 (v0 := .int .i64 j) (v1 := .int .i64 c) rfl rfl rfl rfl
    simp (maxSteps := 1000000) (disch := omega) only [h0, q1, allocPV, ← hb4', a2, qaaz, qabz, qacz, qadz, qaez, qafz, qagz, qahz, qaiz, qajz, qakz, qalz, qamz, qanz, evOp, qaoz, qapz, qaqz, qarz, qasz, qatz, qauz, qavz,
 ↓reduceIte, Nat.reduceEqDiff, List.nil_append, List.cons_append, List.append_nil, List.map_cons, List.map_nil, qawz, qaxz, qayz, Option.map_some, Option.map_none, qazz, qbaz, qbbz, qbcz, qbdz, qbez, qbfz, qbgz, qbhz, qbiz, qbjz, qbkz, qblz, qbmz, qbnz, qboz,
 qbpz, qbqz, qbrz, qbsz, qbtz, qbuz, qbvz, qbwz, qbxz, qbyz, qbzz, qcaz, qcbz, qccz, qcdz, qcez, qcfz, qcgz, qchz, qciz, beq_true, beq_false, Bool.not_eq_true', decide_eq_true_eq, decide_eq_false_iff_not, decide_true, decide_false,
 Int.toNat_natCast, Int.ofNat_lt, Int.ofNat_le, Int.natCast_inj, Bool.false_eq_true, Bool.true_eq_false, qcjz, List.getElem?_cons_zero, List.getElem?_cons_succ, qckz, Int.reduceToNat, Int.reduceLE, true_and, and_true, reduceCtorEq, or_false, false_or, or_true, Option.some.injEq, exists_eq_left', Bool.not_true, Bool.not_false, ne_eq, Int.reduceEq, not_true_eq_false, not_false_eq_true, Int.reduceLT, UInt8.reduceLT, UInt8.reduceLE, UInt8.reduceToNat]
    exact ⟨w2.kp st (q4 st hk).alloc' (by rw [hst]; simp), w2.at_, q3⟩
  clear hk h0 hb4
  rintro e S ⟨hk, hA4, ⟨v3, h3, hv3⟩, h0, h4⟩
  have l4 := hA4.load (k := 1) (v := .int .i64 c) (r := []) rfl
  have l40 := hA4.load (k := 0) (v := .int .i64 j) (r := [.int .i64 c]) rfl
  have hv3l := lenN hv3
  cases hr : readL l with
  | error q =>
    obtain ⟨j', c'⟩ := q
    rw [hr] at hrd
    obtain ⟨rfl, rfl, rfl⟩ := hrd
    obtain ⟨r1, r2⟩ := readL_err hr
    have hv0 : lenPV false v3 = some (.int .i64 0) := hv3l
    have r3 : (0 : Int) ≤ (j' : Int) := by omega
    have r4 : (j' : Int) ≤ (l.length : Int) := by omega
    simp (maxSteps := 1000000) (disch := omega) only [h0, h3, h4, faddrPV, Nat.zero_add, l4, r2, halv, hv0, l40, r3, len_by hx, r4, qaaz, qabz, qacz, qadz, qaez, qafz, qagz, qahz, qaiz, qajz, qakz, qalz, qamz, qanz, evOp, qaoz, qapz, qaqz, qarz, qasz, qatz, qauz, qavz,
 ↓reduceIte, Nat.reduceEqDiff, List.nil_append, List.cons_append, List.append_nil, List.map_cons, List.map_nil, qawz, qaxz, qayz, Option.map_some, Option.map_none, qazz, qbaz, qbbz, qbcz, qbdz, qbez, qbfz, qbgz, qbhz, qbiz, qbjz, qbkz, qblz, qbmz, qbnz, qboz,
 qbpz, qbqz, qbrz, qbsz, qbtz, qbuz, qbvz, qbwz, qbxz, qbyz, qbzz, qcaz, qcbz, qccz, qcdz, qcez, qcfz, qcgz, qchz, qciz, beq_true, beq_false, Bool.not_eq_true', decide_eq_true_eq, decide_eq_false_iff_not, decide_true, decide_false,
 Int.toNat_natCast, Int.ofNat_lt, Int.ofNat_le, Int.natCast_inj, Bool.false_eq_true, Bool.true_eq_false, qcjz, List.getElem?_cons_zero, List.getElem?_cons_succ, qckz, Int.reduceToNat, Int.reduceLE, true_and, and_true, reduceCtorEq, or_false, false_or, or_true, Option.some.injEq, exists_eq_left', Bool.not_true, Bool.not_false, ne_eq, Int.reduceEq, not_true_eq_false, not_false_eq_true, Int.reduceLT, UInt8.reduceLT, UInt8.reduceLE, UInt8.reduceToNat]
  | ok ds' =>
    rw [hr] at hrd
    obtain ⟨rfl, rfl, rfl⟩ := hrd
    obtain ⟨q1, q2, q3⟩ := readL_ok hr
    refine W_cut (fun E S => Kept st S ∧ E 3 = v3) ?_ ?_
    · simp (maxSteps := 1000000) (disch := omega) only [h0, h3, h4, faddrPV, Nat.zero_add, l4, qaaz, qabz, qacz, qadz, qaez, qafz, qagz, qahz, qaiz, qajz, qakz, qalz, qamz, qanz, evOp, qaoz, qapz, qaqz, qarz, qasz, qatz, qauz, qavz,
 ↓reduceIte, Nat.reduceEqDiff, List.nil_append, List.cons_append, List.append_nil, List.map_cons, List.map_nil, qawz, qaxz, qayz, Option.map_some, Option.map_none, qazz, qbaz, qbbz, qbcz, qbdz, qbez, qbfz, qbgz, qbhz, qbiz, qbjz, qbkz, qblz, qbmz, qbnz, qboz,
 qbpz, qbqz, qbrz, qbsz, qbtz, qbuz, qbvz, qbwz, qbxz, qbyz, qbzz, qcaz, qcbz, qccz, qcdz, qcez, qcfz, qcgz, qchz, qciz, beq_true, beq_false, Bool.not_eq_true', decide_eq_true_eq, decide_eq_false_iff_not, decide_true, decide_false,
 Int.toNat_natCast, Int.ofNat_lt, Int.ofNat_le, Int.natCast_inj, Bool.false_eq_true, Bool.true_eq_false, qcjz, List.getElem?_cons_zero, List.getElem?_cons_succ, qckz, Int.reduceToNat, Int.reduceLE, true_and, and_true, reduceCtorEq, or_false, false_or, or_true, Option.some.injEq, exists_eq_left', Bool.not_true, Bool.not_false, ne_eq, Int.reduceEq, not_true_eq_false, not_false_eq_true, Int.reduceLT, UInt8.reduceLT, UInt8.reduceLE, UInt8.reduceToNat]
      exact hk
    clear hk hA4 l4 l40 h0 h3 h4
    rintro e S ⟨hk, h3⟩
    obtain ⟨As, hAs⟩ : ∃ As, As = ds.map toLn := ⟨_, rfl⟩
    have hall : ∀ L ∈ As, rtB L = true := fun L hL => by
      rw [hAs] at hL
      obtain ⟨d, hd, rfl⟩ := List.mem_map.1 hL
      exact q1 d hd
    have hok : ∀ L ∈ As, L.ok := fun L hL => by
      rw [hAs] at hL
      obtain ⟨d, hd, rfl⟩ := List.mem_map.1 hL
      exact toLn_ok (q1 d hd)
    have hAl : As.length = ds.length := by rw [hAs]; simp
    have hv3' := hv3
    rw [← hAs] at hv3'
    have hW := sWrite_big (st := S) hv3' ⟨hok, by omega⟩
    obtain ⟨B, hB⟩ : ∃ B, B = As.flatMap outL := ⟨_, rfl⟩
    have hw : writeL As = (0, B) := by simp only [writeL, List.all_eq_true.2 hall, if_true, hB]
    have hBl : B.length ≤ 1000000 := by
      have := outs_sum As
      rw [← hB, hAs, List.map_map] at this
      have e : (List.map ((fun L => (textOfL L).length + 2) ∘ toLn) ds).sum = (ds.map fun d => (textOfL (toLn d)).length + 2).sum := rfl
      rw [e] at this
      omega
    have hNB : (refLines (unfV B)).length ≤ 4096 := by rw [hB, lines_len hall]; omega
    have hrB : readL B = .ok (As.map ofLn) := by rw [hB]; exact read_outs hall
    have hAo : As.map ofLn = ds := by rw [hAs]; exact ofLn_map ds
    rw [hAo] at hrB
    rw [hw] at hW
    refine W_cut (fun E S => Kept st S ∧ E 3 = v3 ∧ (∃ w, E 5 = w ∧ w.by = some B) ∧ E 6 = .int .i64 0) ?_ ?_
    · by_cases hb : B = []
      · simp only [outW, hb, if_true] at hW
        simp (maxSteps := 1000000) (disch := omega) only [h3, hW, qaaz, qabz, qacz, qadz, qaez, qafz, qagz, qahz, qaiz, qajz, qakz, qalz, qamz, qanz, evOp, qaoz, qapz, qaqz, qarz, qasz, qatz, qauz, qavz,
 ↓reduceIte, Nat.reduceEqDiff, List.nil_append, List.cons_append, List.append_nil, List.map_cons, List.map_nil, qawz, qaxz, qayz, Option.map_some, Option.map_none, qazz, qbaz, qbbz, qbcz, qbdz, qbez, qbfz, qbgz, qbhz, qbiz, qbjz, qbkz, qblz, qbmz, qbnz, qboz,
 qbpz, qbqz, qbrz, qbsz, qbtz, qbuz, qbvz, qbwz, qbxz, qbyz, qbzz, qcaz, qcbz, qccz, qcdz, qcez, qcfz, qcgz, qchz, qciz, beq_true, beq_false, Bool.not_eq_true', decide_eq_true_eq, decide_eq_false_iff_not, decide_true, decide_false,
 Int.toNat_natCast, Int.ofNat_lt, Int.ofNat_le, Int.natCast_inj, Bool.false_eq_true, Bool.true_eq_false, qcjz, List.getElem?_cons_zero, List.getElem?_cons_succ, qckz, Int.reduceToNat, Int.reduceLE, true_and, and_true, reduceCtorEq, or_false, false_or, or_true, Option.some.injEq, exists_eq_left', Bool.not_true, Bool.not_false, ne_eq, Int.reduceEq, not_true_eq_false, not_false_eq_true, Int.reduceLT, UInt8.reduceLT, UInt8.reduceLE, UInt8.reduceToNat]
        exact ⟨hk, by rw [hb]⟩
      · simp only [outW, hb, if_false] at hW
        simp (maxSteps := 1000000) (disch := omega) only [h3, hW, qaaz, qabz, qacz, qadz, qaez, qafz, qagz, qahz, qaiz, qajz, qakz, qalz, qamz, qanz, evOp, qaoz, qapz, qaqz, qarz, qasz, qatz, qauz, qavz,
 ↓reduceIte, Nat.reduceEqDiff, List.nil_append, List.cons_append, List.append_nil, List.map_cons, List.map_nil, qawz, qaxz, qayz, Option.map_some, Option.map_none, qazz, qbaz, qbbz, qbcz, qbdz, qbez, qbfz, qbgz, qbhz, qbiz, qbjz, qbkz, qblz, qbmz, qbnz, qboz,
 qbpz, qbqz, qbrz, qbsz, qbtz, qbuz, qbvz, qbwz, qbxz, qbyz, qbzz, qcaz, qcbz, qccz, qcdz, qcez, qcfz, qcgz, qchz, qciz, beq_true, beq_false, Bool.not_eq_true', decide_eq_true_eq, decide_eq_false_iff_not, decide_true, decide_false,
 Int.toNat_natCast, Int.ofNat_lt, Int.ofNat_le, Int.natCast_inj, Bool.false_eq_true, Bool.true_eq_false, qcjz, List.getElem?_cons_zero, List.getElem?_cons_succ, qckz, Int.reduceToNat, Int.reduceLE, true_and, and_true, reduceCtorEq, or_false, false_or, or_true, Option.some.injEq, exists_eq_left', Bool.not_true, Bool.not_false, ne_eq, Int.reduceEq, not_true_eq_false, not_false_eq_true, Int.reduceLT, UInt8.reduceLT, UInt8.reduceLE, UInt8.reduceToNat]
        exact hk.tok1
    clear hk h3 hW
    rintro e S ⟨hk, h3, ⟨w5, h5, hw5⟩, h6⟩
    obtain ⟨b8, hb8⟩ : ∃ b8, b8 = S.boxes.length := ⟨_, rfl⟩
    refine W_cut (fun E S => Kept st S ∧ At S b8 [.int .i64 0, .int .i64 0] ∧ (∃ v, E 7 = v ∧ v.vs 3 = some ((ds.map toLn).map lV)) ∧ E 3 = v3 ∧ E 6 = .int .i64 0 ∧ E 8 = .ptr b8 0) ?_ ?_
    · have q1 := Read_spec (st := S) hw5 hBl hNB
      rw [hrB] at q1
      simp only [readV] at q1
      obtain ⟨nb, nl, np⟩ := newS_bx (S := S) (b := (ds.map dV).isEmpty)
      have k1 := hk.newS (b := (ds.map dV).isEmpty)
      obtain ⟨S1, hS1⟩ : ∃ S1, S1 = newS S (ds.map dV).isEmpty := ⟨_, rfl⟩
      rw [← hS1] at q1 nb nl np k1
      have hA := At.last (s := S1) (z := [.int .i64 0, .int .i64 0]) (T := S1.toks) (Lp := S1.loops) (lo := S1.low)
      have hb8' : b8 = S1.boxes.length := by rw [nb]; exact hb8
      rw [← hb8'] at hA
      obtain ⟨S2, a2, w2⟩ := hA.st2 (v0 := .int .i64 0) (v1 := .int .i64 0) rfl rfl rfl rfl
      simp (maxSteps := 1000000) (disch := omega) only [h3, h5, h6, q1, allocPV, ← hb8', a2, qaaz, qabz, qacz, qadz, qaez, qafz, qagz, qahz, qaiz, qajz, qakz, qalz, qamz, qanz, evOp, qaoz, qapz, qaqz, qarz, qasz, qatz, qauz, qavz,
 ↓reduceIte, Nat.reduceEqDiff, List.nil_append, List.cons_append, List.append_nil, List.map_cons, List.map_nil, qawz, qaxz, qayz, Option.map_some, Option.map_none, qazz, qbaz, qbbz, qbcz, qbdz, qbez, qbfz, qbgz, qbhz, qbiz, qbjz, qbkz, qblz, qbmz, qbnz, qboz,
 qbpz, qbqz, qbrz, qbsz, qbtz, qbuz, qbvz, qbwz, qbxz, qbyz, qbzz, qcaz, qcbz, qccz, qcdz, qcez, qcfz, qcgz, qchz, qciz, beq_true, beq_false, Bool.not_eq_true', decide_eq_true_eq, decide_eq_false_iff_not, decide_true, decide_false,
 Int.toNat_natCast, Int.ofNat_lt, Int.ofNat_le, Int.natCast_inj, Bool.false_eq_true, Bool.true_eq_false, qcjz, List.getElem?_cons_zero, List.getElem?_cons_succ, qckz, Int.reduceToNat, Int.reduceLE, true_and, and_true, reduceCtorEq, or_false, false_or, or_true, Option.some.injEq, exists_eq_left', Bool.not_true, Bool.not_false, ne_eq, Int.reduceEq, not_true_eq_false, not_false_eq_true, Int.reduceLT, UInt8.reduceLT, UInt8.reduceLE, UInt8.reduceToNat]
      exact ⟨w2.kp st k1.alloc' (by rw [hst]; simp), w2.at_, by rw [← dV_map]; exact newSl_vs3⟩
    clear hk h3 h5 h6 hb8
    rintro e S ⟨hk, hA8, ⟨v7, h7, hv7⟩, h3, h6, h8⟩
    have l8 := hA8.load (k := 1) (v := .int .i64 0) (r := []) rfl
    have s1 := fun S : St => SameL_spec (st := S) hv3 hv7 (hTl q1) (fun L hL => (hTl q1 L hL).1) (by simp; omega)
    have hsame : ∀ Ls : List Ln, sameLB Ls Ls = true := fun Ls => by simp [sameLB]
    rw [hsame] at s1
    simp (maxSteps := 1000000) (disch := omega) only [h3, h6, h7, h8, halv, faddrPV, Nat.zero_add, l8, s1, qaaz, qabz, qacz, qadz, qaez, qafz, qagz, qahz, qaiz, qajz, qakz, qalz, qamz, qanz, evOp, qaoz, qapz, qaqz, qarz, qasz, qatz, qauz, qavz,
 ↓reduceIte, Nat.reduceEqDiff, List.nil_append, List.cons_append, List.append_nil, List.map_cons, List.map_nil, qawz, qaxz, qayz, Option.map_some, Option.map_none, qazz, qbaz, qbbz, qbcz, qbdz, qbez, qbfz, qbgz, qbhz, qbiz, qbjz, qbkz, qblz, qbmz, qbnz, qboz,
 qbpz, qbqz, qbrz, qbsz, qbtz, qbuz, qbvz, qbwz, qbxz, qbyz, qbzz, qcaz, qcbz, qccz, qcdz, qcez, qcfz, qcgz, qchz, qciz, beq_true, beq_false, Bool.not_eq_true', decide_eq_true_eq, decide_eq_false_iff_not, decide_true, decide_false,
 Int.toNat_natCast, Int.ofNat_lt, Int.ofNat_le, Int.natCast_inj, Bool.false_eq_true, Bool.true_eq_false, qcjz, List.getElem?_cons_zero, List.getElem?_cons_succ, qckz, Int.reduceToNat, Int.reduceLE, true_and, and_true, reduceCtorEq, or_false, false_or, or_true, Option.some.injEq, exists_eq_left', Bool.not_true, Bool.not_false, ne_eq, Int.reduceEq, not_true_eq_false, not_false_eq_true, Int.reduceLT, UInt8.reduceLT, UInt8.reduceLE, UInt8.reduceToNat]

end Go.Ab

/-
  The library's searches as primitives, out of the shelf's contracts.
-/
namespace Go.Ab
open Go.Shelf Go.Proofs
set_option linter.unusedVariables false
set_option linter.unusedSimpArgs false
variable {P : Program} {g : GMap} {ρ : Go.Shelf.Ren}

def numsOf (a : List UInt8) : List Int := a.map fun b => (b.toNat : Int)
theorem bytesOf_nums (a : List UInt8) : Lib.bytesOf (numsOf a) = a := by
  simp [Lib.bytesOf, numsOf, Function.comp_def]
theorem nums_range (a : List UInt8) : ∀ x ∈ numsOf a, 0 ≤ x ∧ x < 256 := by
  intro x hx
  simp only [numsOf, List.mem_map] at hx
  obtain ⟨b, _, rfl⟩ := hx
  have := b.toNat_lt
  omega
theorem nums_getD (a : List UInt8) {i : Nat} (h : i < a.length) : (numsOf a).getD i 0 = ((a[i]).toNat : Int) := by
  simp [numsOf, List.getD, h]

theorem cells_of {κ : K} {w : World} (hC : ∀ b i u, κ.C b i = some u → w.cell? ⟨b, i, none⟩ = some u) {blk off : Nat} {a : List UInt8} (hb : ∀ (i : Nat) (b : UInt8), a[i]? = some b → κ.C blk (off + i) = some (.int .u8 b.toNat)) :
    ∀ i, i < a.length → w.cell? ((⟨blk, off, none⟩ : Addr).add i) = some (.int .u8 ((numsOf a).getD i 0)) := by
  intro i hi
  rw [add_eq, nums_getD a hi]
  exact hC _ _ _ (hb i _ (by simp [hi]))

theorem primIndex (L : Lays.n185 P ρ) (hm : ∀ κ, g.inv κ → ∃ m, κ.C (ρ.g 1) 0 = some (.int .i64 m)) {pf : Func} (hpf : P.funcs[ρ.f 185]? = some pf) (hb : pf.body.isSome = true) (hn : pf.name ≠ "runtime.NumGoroutine") : PrimOK P g (ρ.f 185) pBytesIndex := by
  refine prim_of_calls hpf hb hn (fun κ w args ps v hi hC hsz hargs hp => ?_)
  obtain ⟨m, hm⟩ := hm κ hi
  have hmc := hC _ _ _ hm
  match ps, hp with
  | [x, y], hp =>
    simp only [pBytesIndex] at hp
    cases hx : x.by with
    | none => simp [hx] at hp
    | some a =>
      cases hy : y.by with
      | none => simp [hx, hy] at hp
      | some b =>
        simp only [hx, hy] at hp
        split at hp
        · rename_i hlen
          cases hp
          obtain ⟨u1, u2, rfl⟩ : ∃ u1 u2, args = #[u1, u2] := by
            obtain ⟨l⟩ := args
            match l, hsz with
            | [u1, u2], _ => exact ⟨u1, u2, rfl⟩
          have r1 := hargs 0 u1 x rfl rfl
          have r2 := hargs 1 u2 y rfl rfl
          have post : ∀ (n : Int), n = Lib.index a b → ∀ (e : Ending) (w' : World), (e = .returned (.int .i64 n) ∧ ∃ q, w' = w.drewN q) → ∃ z, e = .returned z ∧ (∀ κ', R g κ' z (.int .i64 (Lib.index a b))) ∧ w'.heap = w.heap ∧ w'.os = w.os ∧ w'.tape = w.tape ∧ w'.output = w.output := by
            rintro n rfl e w' ⟨rfl, q, rfl⟩
            exact ⟨_, rfl, fun κ' => .int .i64 _ (by decide), rfl, rfl, rfl, rfl⟩
          have post0 : ∀ (n : Int), n = Lib.index a b → ∀ (e : Ending) (w' : World), (e = .returned (.int .i64 n) ∧ w' = w) → ∃ z, e = .returned z ∧ (∀ κ', R g κ' z (.int .i64 (Lib.index a b))) ∧ w'.heap = w.heap ∧ w'.os = w.os ∧ w'.tape = w.tape ∧ w'.output = w.output := by
            rintro n rfl e w' ⟨rfl, rfl⟩
            exact ⟨_, rfl, fun κ' => .int .i64 _ (by decide), rfl, rfl, rfl, rfl⟩
          rcases by_cases' hx with ⟨rfl, rfl⟩ | ⟨t, rfl⟩
          · cases r1
            rcases by_cases' hy with ⟨rfl, rfl⟩ | ⟨t2, rfl⟩
            · cases r2
              exact (Any.bytes_Index_none L none none 0 0 0 w).mono (post0 0 (by simp [Lib.index]))
            · cases r2 with
              | bys blk off n c _ _ h1 h2 h3 h4 _ =>
                subst h1
                refine (Any.bytes_Index_nil L (some ⟨blk, off, none⟩) b.length c w (by omega) (fun h1 => ?_)).mono (post0 _ ?_)
                · have := cells_of hC h3 0 (by omega)
                  rw [add_eq] at this
                  exact ⟨blk, off, _, rfl, this⟩
                · cases b <;> simp [Lib.index]
          · cases r1 with
            | bys blk off n c _ _ h1 h2 h3 h4 _ =>
              subst h1
              rcases by_cases' hy with ⟨rfl, rfl⟩ | ⟨t2, rfl⟩
              · cases r2
                exact (Any.bytes_Index_none L (some ⟨blk, off, none⟩) none a.length c 0 w).mono (post0 0 (Lib.index_empty a).symm)
              · cases r2 with
                | bys blk2 off2 n2 c2 _ _ k1 k2 k3 k4 _ =>
                  subst k1
                  refine (Any.bytes_Index_at L ⟨blk, off, none⟩ ⟨blk2, off2, none⟩ a.length c b.length c2 (numsOf a) (numsOf b) m w (by simp [numsOf]) (by simp [numsOf]) (nums_range a) (nums_range b) (cells_of hC h3) (cells_of hC k3) h2 hlen.1 (by omega) hmc).mono (post _ ?_)
                  rw [bytesOf_nums, bytesOf_nums]
        · cases hp
  | [], hp => simp [pBytesIndex] at hp
  | [_], hp => simp [pBytesIndex] at hp
  | _ :: _ :: _ :: _, hp => simp [pBytesIndex] at hp
end Go.Ab

/-
  A Builder's text: the walk of the library's function, its end said whole (after the shelf's own proof).
-/
namespace Go.Proofs
open Go.Shelf Go.RowKit
set_option linter.unusedVariables false
variable {P : Program} {ρ : Ren}

set_option maxHeartbeats 2000000 in
set_option maxRecDepth 100000 in
/-- A Builder's text, and all that turns: the shelf's proof, its end turned. -/
theorem bstring_walk (L : Lays.n169 P ρ) (X : Builder.Extra P ρ) (b g cap cells : Nat) (l : List UInt8) (w : World) (h0 : l ≠ []) (hcap : l.length ≤ cap) (hcc : l.length ≤ cells) (hmax : l.length ≤ 9223372036854775807)
    (hb : w.cell? ⟨b, 1, none⟩ = some (.slice (some ⟨g, 0, none⟩) l.length cap)) (hsh : w.shape? g = some (ρ.t 5, cells)) (hcell : ∀ j x, l[j]? = some x → w.cell? ⟨g, j, none⟩ = some (.int .u8 x.toNat)) :
    Calls P (ρ.f 169) #[.pointer (some ⟨b, 0, none⟩)] w fun e w' => e = .returned (.string ⟨l.toArray⟩) ∧ w' = w.drew.freeze ⟨g, 0, none⟩ l.length := by
  have hl0 : l.length ≠ 0 := by simpa using h0
  have c1 : w.drew.cell? ⟨b, 1, none⟩ = some (.slice (some ⟨g, 0, none⟩) l.length cap) := hb
  have hSD : (Builtin.unsafeSliceData_ #[(ρ.t 37)] (ρ.t 127) #[.slice (some ⟨g, 0, none⟩) l.length cap]).run P w.drew = .ok (.pointer (some ⟨g, 0, none⟩)) w.drew :=
    Lib.run_unsafeSliceData_row _ _ _ _ _ _ (by omega)
  have hUS : (Builtin.unsafeString_ #[(ρ.t 127), (ρ.t 3)] (ρ.t 9) #[.pointer (some ⟨g, 0, none⟩), .int .i64 l.length]).run P w.drew = .ok (.string ⟨l.toArray⟩) (w.drew.freeze ⟨g, 0, none⟩ l.length) := by
    refine Lib.run_unsafeString_row w.drew (ρ.t 127) (ρ.t 3) (ρ.t 9) (ρ.t 5) L.t127 X.cellsByte g cells hsh l h0 hcc hmax ?_
    intro j x hx
    have := hcell j x hx
    simp only [Addr.add]
    split
    · rename_i h; subst h; exact this
    · simpa using this
  clear hcell hsh hb
  have mixed := L.mixed
  have t72 := L.t72; have a72 := L.a72; have z72 := L.z72; have v72 := L.v72; have u72 := run_underlying L.t72
  have t70 := L.t70; have a70 := L.a70; have z70 := L.z70; have v70 := L.v70; have u70 := run_underlying L.t70
  have t37 := L.t37; have a37 := L.a37; have z37 := L.z37; have v37 := L.v37; have u37 := run_underlying L.t37
  have t127 := L.t127; have a127 := L.a127; have z127 := L.z127; have v127 := L.v127; have u127 := run_underlying L.t127
  have t3 := L.t3; have a3 := L.a3; have z3 := L.z3; have v3 := L.v3; have u3 := run_underlying L.t3
  have t9 := L.t9; have a9 := L.a9; have z9 := L.z9; have v9 := L.v9; have u9 := run_underlying L.t9
  have t5 := X.t5; have a5 := X.a5; have z5 := X.z5; have v5 := X.v5; have u5 := run_underlying X.t5
  go_enter L.f169, Body.n169_ntmps ρ
  go_wp2
  go_region_o
  all_goals (go_wp2; go_ret; exact ⟨rfl, rfl⟩)

set_option maxHeartbeats 2000000 in
set_option maxRecDepth 100000 in
theorem bstring_nil (L : Lays.n169 P ρ) (X : Builder.Extra P ρ) (b : Nat) (w : World) (hb : w.cell? ⟨b, 1, none⟩ = some (.slice none 0 0)) :
    Calls P (ρ.f 169) #[.pointer (some ⟨b, 0, none⟩)] w fun e w' => e = .returned (.string ⟨#[]⟩) ∧ w' = w.drew := by
  have hUS := Any.unsafeString_none L X
  have hSD : (Builtin.unsafeSliceData_ #[(ρ.t 37)] (ρ.t 127) #[.slice none 0 0]).run P w.drew = .ok (.pointer none) w.drew := rfl
  have c1 : w.drew.cell? ⟨b, 1, none⟩ = some (.slice none 0 0) := hb
  have mixed := L.mixed
  have t72 := L.t72; have a72 := L.a72; have z72 := L.z72; have v72 := L.v72; have u72 := run_underlying L.t72
  have t70 := L.t70; have a70 := L.a70; have z70 := L.z70; have v70 := L.v70; have u70 := run_underlying L.t70
  have t37 := L.t37; have a37 := L.a37; have z37 := L.z37; have v37 := L.v37; have u37 := run_underlying L.t37
  have t127 := L.t127; have a127 := L.a127; have z127 := L.z127; have v127 := L.v127; have u127 := run_underlying L.t127
  have t3 := L.t3; have a3 := L.a3; have z3 := L.z3; have v3 := L.v3; have u3 := run_underlying L.t3
  have t9 := L.t9; have a9 := L.a9; have z9 := L.z9; have v9 := L.v9; have u9 := run_underlying L.t9
  have t5 := X.t5; have a5 := X.a5; have z5 := X.z5; have v5 := X.v5; have u5 := run_underlying X.t5
  go_enter L.f169, Body.n169_ntmps ρ
  go_wp2
  go_region_o
  all_goals (go_wp2; go_ret; exact ⟨rfl, rfl⟩)

/-- What copyCheck names. -/
structure CCLay (P : Program) (ρ : Ren) : Prop where
  mixed : P.follows .mixedOrders = true
  f240 : P.funcs[ρ.f 240]? = some (Body.n240 ρ)
  f276 : P.funcs[ρ.f 276]? = some (Body.n276 ρ)
  t4 : P.underlying (ρ.t 4) = some (TypeDesc.bool)
  a4 : ∀ w, (isAgg (ρ.t 4)).run P w = .ok false w
  z4 : ∀ w, (Go.sizeOf (ρ.t 4)).run P w = .ok 1 w
  v4 : ∀ w, (zeroValue (ρ.t 4)).run P w = .ok (Value.bool false) w
  t70 : P.underlying (ρ.t 70) = some (TypeDesc.pointer (ρ.t 72))
  a70 : ∀ w, (isAgg (ρ.t 70)).run P w = .ok false w
  z70 : ∀ w, (Go.sizeOf (ρ.t 70)).run P w = .ok 1 w
  v70 : ∀ w, (zeroValue (ρ.t 70)).run P w = .ok (Value.pointer none) w
  t72 : P.underlying (ρ.t 72) = some (TypeDesc.struct #[{ name := "addr", type := ρ.t 70, offset := 0, embedded := false, tag := "", pkgPath := "strings", byteOffset := 0 }, { name := "buf", type := ρ.t 37, offset := 1, embedded := false, tag := "", pkgPath := "strings", byteOffset := 8 }])
  a72 : ∀ w, (isAgg (ρ.t 72)).run P w = .ok true w
  z72 : ∀ w, (Go.sizeOf (ρ.t 72)).run P w = .ok 2 w
  v72 : ∀ w, (zeroValue (ρ.t 72)).run P w = .ok (Value.agg #[Value.pointer none, Value.slice none 0 0]) w
  t164 : P.underlying (ρ.t 164) = some (TypeDesc.unsafePointer)
  a164 : ∀ w, (isAgg (ρ.t 164)).run P w = .ok false w
  z164 : ∀ w, (Go.sizeOf (ρ.t 164)).run P w = .ok 1 w
  v164 : ∀ w, (zeroValue (ρ.t 164)).run P w = .ok (Value.pointer none) w

set_option maxHeartbeats 1000000 in
set_option maxRecDepth 100000 in
/-- copyCheck at a builder that has been used: nothing turns (after the shelf's proof). -/
theorem cc_used (L : CCLay P ρ) (X : Builder.X72 P ρ) (b : Nat) (w : World) (h0 : w.cell? ⟨b, 0, none⟩ = some (.pointer (some ⟨b, 0, none⟩))) :
    Calls P (ρ.f 240) #[.pointer (some ⟨b, 0, none⟩)] w fun e w' => e = .returned (.tuple #[]) ∧ w' = w := by
  obtain ⟨j, hj, _⟩ := Option.map_eq_some_iff.1 X.sizeBuilder
  have mixed := L.mixed
  have t72 := L.t72; have a72 := L.a72; have z72 := L.z72; have v72 := L.v72; have u72 := run_underlying L.t72
  have t70 := L.t70; have a70 := L.a70; have z70 := L.z70; have v70 := L.v70; have u70 := run_underlying L.t70
  have t4 := L.t4; have a4 := L.a4; have z4 := L.z4; have v4 := L.v4; have u4 := run_underlying L.t4
  have t164 := L.t164; have a164 := L.a164; have z164 := L.z164; have v164 := L.v164; have u164 := run_underlying L.t164
  go_enter L.f240, Body.n240_ntmps ρ
  go_wp2
  rw [Lib.run_neq_ptr_same w _ L.t70 hj]
  go_wp2
  go_end0
  exact ⟨rfl, rfl⟩

set_option maxHeartbeats 1000000 in
set_option maxRecDepth 100000 in
/-- copyCheck at a fresh builder: it stores its own address (after the shelf's proof). -/
theorem cc_fresh (L : CCLay P ρ) (X : Builder.X72 P ρ) (b : Nat) (w : World) (h0 : w.cell? ⟨b, 0, none⟩ = some (.pointer none)) (hsh : w.shape? b = some ((ρ.t 72), 2)) (hfz : w.frozen? ⟨b, 0, none⟩ = false) :
    Calls P (ρ.f 240) #[.pointer (some ⟨b, 0, none⟩)] w fun e w' => e = .returned (.tuple #[]) ∧ w' = w.setCell ⟨b, 0, none⟩ (.pointer (some ⟨b, 0, none⟩)) := by
  obtain ⟨j, hj, hjs⟩ := Option.map_eq_some_iff.1 X.sizeBuilder
  have mixed := L.mixed
  have t72 := L.t72; have a72 := L.a72; have z72 := L.z72; have v72 := L.v72; have u72 := run_underlying L.t72
  have t70 := L.t70; have a70 := L.a70; have z70 := L.z70; have v70 := L.v70; have u70 := run_underlying L.t70
  have t4 := L.t4; have a4 := L.a4; have z4 := L.z4; have v4 := L.v4; have u4 := run_underlying L.t4
  have t164 := L.t164; have a164 := L.a164; have z164 := L.z164; have v164 := L.v164; have u164 := run_underlying L.t164
  go_enter L.f240, Body.n240_ntmps ρ
  go_wp2
  rw [Lib.run_to_unsafe w ⟨b, 0, none⟩ L.t70 L.t164 hj (by rw [hjs]; decide) hsh (Nat.zero_lt_succ 1)]
  simp only [Result.andThen]
  rw [Oper.upon_value]
  go_wp2
  rw [run_callFunc_extern L.f276 (by kernel_rfl) (by kernel_rfl) (by kernel_rfl) (e := Extern.AbiNoEscape.same) (by kernel_rfl)]
  rw [Lib.run_noEscape]
  simp only [Result.andThen]
  rw [Oper.upon_value]
  go_wp2
  rw [Lib.run_from_unsafe w ⟨b, 0, none⟩ L.t164 L.t70 hj hsh X.liesBuilder]
  simp only [Result.andThen]
  rw [Oper.upon_value]
  go_wp2
  go_end0
  exact ⟨rfl, rfl⟩
end Go.Proofs

/-
  The library's functions on texts as primitives, out of the shelf's contracts.
-/
namespace Go.Ab
open Go.Shelf Go.Proofs
set_option linter.unusedVariables false
set_option linter.unusedSimpArgs false
variable {P : Program} {g : GMap} {ρ : Go.Shelf.Ren}

theorem primStrIndex (L : Lays.n219 P ρ) (hm : ∀ κ, g.inv κ → ∃ m, κ.C (ρ.g 1) 0 = some (.int .i64 m)) {pf : Func} (hpf : P.funcs[ρ.f 219]? = some pf) (hb : pf.body.isSome = true) (hn : pf.name ≠ "runtime.NumGoroutine") : PrimOK P g (ρ.f 219) pStrIndex := by
  refine prim_of_calls hpf hb hn (fun κ w args ps v hi hC hsz hargs hp => ?_)
  obtain ⟨m, hm⟩ := hm κ hi
  have hmc := hC _ _ _ hm
  unfold pStrIndex at hp
  split at hp
  · rename_i a b
    split at hp
    · rename_i hlen
      cases hp
      obtain ⟨u1, u2, rfl⟩ : ∃ u1 u2, args = #[u1, u2] := by
        obtain ⟨l⟩ := args
        match l, hsz with
        | [u1, u2], _ => exact ⟨u1, u2, rfl⟩
      have r1 := hargs 0 u1 _ rfl rfl
      have r2 := hargs 1 u2 _ rfl rfl
      cases r1 with | str sa _ ha => cases r2 with | str sb _ hb =>
      refine (Any.stringslite_Index L sa sb m w (by rw [← ha] at hlen; simpa using hlen) hmc).mono ?_
      rintro e w' ⟨rfl, rfl⟩
      exact ⟨_, rfl, fun κ' => by rw [ha, hb]; exact .int .i64 _ (by decide), rfl, rfl, rfl, rfl⟩
    · cases hp
  · cases hp

theorem primStrIndexByte (L : Lays.n137 P ρ) {pf : Func} (hpf : P.funcs[ρ.f 137]? = some pf) (hb : pf.body.isSome = true) (hn : pf.name ≠ "runtime.NumGoroutine") : PrimOK P g (ρ.f 137) pStrIndexByte := by
  refine prim_of_calls hpf hb hn (fun κ w args ps v hi hC hsz hargs hp => ?_)
  unfold pStrIndexByte at hp
  split at hp
  · rename_i a c
    cases hp
    obtain ⟨u1, u2, rfl⟩ : ∃ u1 u2, args = #[u1, u2] := by
      obtain ⟨l⟩ := args
      match l, hsz with
      | [u1, u2], _ => exact ⟨u1, u2, rfl⟩
    have r1 := hargs 0 u1 _ rfl rfl
    have r2 := hargs 1 u2 _ rfl rfl
    cases r1 with | str sa _ ha => cases r2 with | b8 _ n hn =>
    refine (Any.strings_IndexByte L sa n w).mono ?_
    rintro e w' ⟨rfl, rfl⟩
    refine ⟨_, rfl, fun κ' => ?_, rfl, rfl, rfl, rfl⟩
    have : n.toNat.toUInt8 = c := by rw [hn]; simp
    rw [ha, this]; exact .int .i64 _ (by decide)
  · cases hp

/-- A primitive that may put a cell, out of a contract. -/
theorem primS_of_calls {f' : FuncId} {p : List PV → List (List PV) → Option (PV × Upd)} {pf : Func} (hpf : P.funcs[f']? = some pf) (hb : pf.body.isSome = true) (hn : pf.name ≠ "runtime.NumGoroutine")
    (h : ∀ (base : Nat) (κ : K) (w : World) (st : St) (args : Array Value) (ps : List PV) (v : PV) (u : Upd) (st' : St), SR P g base κ w st → args.size = ps.length → (∀ (i : Nat) (u : Value) (q : PV), args[i]? = some u → ps[i]? = some q → R g κ u q) → p ps st.boxes = some (v, u) → updS st u = some st' →
      Calls P f' args w fun e w' => ∃ z, e = .returned z ∧ R g κ z v ∧ SR P g base κ w' st' ∧ Fr base κ.lam w w') : PrimSOK P g f' p := by
  intro base κ w st args ps v u st' hsr hsz hargs hp hu F hF nn o a next Q hnext
  have hrun : (callFunc f' args).run P w = .ok (.enter f' args) w := by
    have hb2 : pf.body.isNone = false := by
      cases hbb : pf.body with
      | none => rw [hbb] at hb; cases hb
      | some c => rfl
    have hn2 : (pf.name == "runtime.NumGoroutine") = false := by simpa using hn
    unfold callFunc
    simp only [Sem.run_bind, Go.program, Sem.run, Result.andThen, hpf, hn2, hb2]
    rfl
  rw [hrun]
  refine ⟨hF.deep, callsIn_of_calls hF ?_⟩
  refine (h base κ w st args ps v u st' hsr hsz hargs hp hu).mono ?_
  rintro e w' ⟨z, rfl, hz, hs, hf⟩
  exact hnext κ z w' (K.le.refl κ) rfl hs hz hf

theorem setCell_eq {w : World} {blk off : Nat} {v : Value} {rs : Array Value} {el : TypeId} {fz : Nat × Nat} (hw : w.heap[blk]? = some (.cells rs el fz)) : w.setCell ⟨blk, off, none⟩ v = setBlk w blk (setA rs off [v]) el fz := by
  have hlt := (Array.getElem?_eq_some_iff.1 hw).1
  simp only [World.setCell, setBlk]
  congr 1
  apply Array.ext_getElem?
  intro j
  rw [Array.getElem?_modify]
  by_cases hj : blk = j
  · subst hj
    rw [if_pos rfl, hw]
    simp [hlt, setA]
  · rw [if_neg hj, Array.getElem?_setIfInBounds_ne hj]

theorem primCopyCheck (L : CCLay P ρ) (X : Builder.X72 P ρ) (htB : g.tB = ρ.t 72) {pf : Func} (hpf : P.funcs[ρ.f 240]? = some pf) (hb : pf.body.isSome = true) (hn : pf.name ≠ "runtime.NumGoroutine") : PrimSOK P g (ρ.f 240) pCopyCheck := by
  refine primS_of_calls hpf hb hn (fun base κ w st args ps v u st' hsr hsz hargs hp hu => ?_)
  unfold pCopyCheck at hp
  split at hp
  · rename_i bs b
    obtain ⟨u1, rfl⟩ : ∃ u1, args = #[u1] := by
      obtain ⟨l⟩ := args
      match l, hsz with
      | [u1], _ => exact ⟨u1, rfl⟩
    have r1 := hargs 0 u1 _ rfl rfl
    cases r1 with | ptr _ _ blk hφ =>
    split at hp
    · -- fresh
      rename_i x hbx
      simp only [Option.some.injEq, Prod.mk.injEq] at hp
      obtain ⟨rfl, rfl⟩ := hp
      have hB := hsr.bx b blk _ hbx hφ
      obtain ⟨rs, ⟨el, lo, hi, hw, hf⟩, hl, hr⟩ := hB.ex
      obtain ⟨v0, h0, hr0⟩ := hr 0 .bslot rfl
      cases hr0
      have hsh := hB.sb (by simp)
      rw [htB] at hsh
      have hc0 : w.cell? ⟨blk, 0, none⟩ = some (.pointer none) := by simp [World.cell?, hw, h0]
      have hrs : rs.size = 2 := by
        simp only [World.shape?, hw, Option.some.injEq, Prod.mk.injEq] at hsh; exact hsh.2
      have hfz : w.frozen? ⟨blk, 0, none⟩ = false := by
        simp only [World.frozen?, hw, Bool.and_eq_false_iff, decide_eq_false_iff_not]
        rcases hf with h | h
        · subst h; omega
        · left; omega
      refine (cc_fresh L X blk w hc0 hsh hfz).mono ?_
      rintro e w' ⟨rfl, rfl⟩
      -- the store's own law
      have hst : storePV st 1 (.ptr b 0) (.ptr b 0) = some st' := hu
      simp only [storePV, hbx] at hst
      split at hst
      · cases hst
        refine ⟨_, rfl, .tup #[] [] rfl rfl (fun i v p a => by simp at a), ?_, ?_⟩
        · rw [setCell_eq hw]
          have := hsr.setBox (rs' := setA rs 0 [.pointer (some ⟨blk, 0, none⟩)]) (cs' := setCells [.bslot, x] 0 [.ptr b 0]) (if hasTok [PV.ptr b 0] then min st.low b else st.low) hbx hφ hw hf (setA_size _ _ _) (by rw [setCells_length]; exact hl) (fun i c hc => ?_) ?_ (fun c hc => ?_) (fun hm => ?_)
          · exact this
          · simp only [setCells, List.set_cons_zero] at hc
            match i with
            | 0 =>
              simp at hc; subst hc
              exact ⟨.pointer (some ⟨blk, 0, none⟩), by simp [setA, hrs], .ptr b 0 blk hφ⟩
            | i + 1 =>
              have hc' : [PV.bslot, x][i + 1]? = some c := by simpa using hc
              obtain ⟨v1, h1, hr1⟩ := hr (i + 1) c hc'
              refine ⟨v1, ?_, hr1⟩
              simp [setA]; exact h1
          · have := hB.lf
            simp only [setCells, List.set_cons_zero, List.all_cons, leafB] at this ⊢
            simpa using this
          · simp only [setCells, List.set_cons_zero, List.mem_cons, List.not_mem_nil, or_false] at hc
            rcases hc with rfl | rfl
            · simp [PV.inB]
            · exact hB.lw _ (by simp)
          · simp
        · rw [setCell_eq hw]
          exact Fr.setBlk hw hB.ge
      · cases hst
    · -- used
      rename_i b' x hbx
      split at hp
      · rename_i hbb
        subst hbb
        simp only [Option.some.injEq, Prod.mk.injEq] at hp
        obtain ⟨rfl, rfl⟩ := hp
        simp only [updS, Option.some.injEq] at hu
        subst hu
        have hB := hsr.bx b' blk _ hbx hφ
        obtain ⟨rs, ⟨el, lo, hi, hw, hf⟩, hl, hr⟩ := hB.ex
        obtain ⟨v0, h0, hr0⟩ := hr 0 _ rfl
        cases hr0 with | ptr _ _ blk' hφ' =>
        rw [hφ] at hφ'; cases hφ'
        have hc0 : w.cell? ⟨blk, 0, none⟩ = some (.pointer (some ⟨blk, 0, none⟩)) := by simp [World.cell?, hw, h0]
        refine (cc_used L X blk w hc0).mono ?_
        rintro e w' ⟨rfl, rfl⟩
        exact ⟨_, rfl, .tup #[] [] rfl rfl (fun i v p a => by simp at a), hsr, Fr.refl _ _⟩
      · cases hp
    · cases hp
  · cases hp


/-- A room that is nobody's more: its row may be frozen. -/
theorem SR.kill {base : Nat} {κ : K} {w w' : World} {st : St} (h : SR P g base κ w st) {i blk e ce : Nat} {rs : Array Value} {el : TypeId} {fz fz' : Nat × Nat} (hi : st.toks[i]? = some true) (hτ : κ.τ[i]? = some (blk, e, ce))
    (hw : w.heap[blk]? = some (.cells rs el fz)) (hw' : w'.heap = (setBlk w blk rs el fz').heap) : SR P g base κ w' { st with toks := st.toks.set i false } := by
  have hk := h.tk i blk e ce hi hτ
  suffices hs : SR P g base κ (setBlk w blk rs el fz') { st with toks := st.toks.set i false } from hs.heap hw'
  have hcell : ∀ b i, (setBlk w blk rs el fz').cell? ⟨b, i, none⟩ = w.cell? ⟨b, i, none⟩ := fun b i => by
    by_cases hb : b = blk
    · subst hb
      have hlt := (Array.getElem?_eq_some_iff.1 hw).1
      have h2 : (setBlk w b rs el fz').heap[b]? = some (.cells rs el fz') := by simp [setBlk, hlt]
      simp only [World.cell?]
      rw [h2, hw]
    · exact cell_setBlk_other hb
  have hobj : ∀ (k : Nat) (o : Obj), w.heap[k]? = some o → isCells o = false → (setBlk w blk rs el fz').heap[k]? = some o := fun k o ho hc => by
    rw [setBlk_other]
    · exact ho
    · rintro rfl; rw [hw] at ho; cases ho; simp [isCells] at hc
  have hset : ∀ j : Nat, (st.toks.set i false)[j]? = some true → st.toks[j]? = some true ∧ j ≠ i := fun j hj => by
    by_cases hji : j = i
    · subst hji
      rw [List.getElem?_set] at hj
      simp at hj
    · rw [List.getElem?_set_ne (fun h => hji h.symm)] at hj
      exact ⟨hj, hji⟩
  refine { cC := fun b i v hc => by rw [hcell]; exact h.cC b i v hc, sh := fun b t hb => (h.sh b t hb).imp fun n hn => (by rw [shape_setBlk hw rfl]; exact hn), bl := h.bl, bn := h.bn, bx := fun b k cs h1 h2 => ?_, tl := by simp [h.tl], tk := fun j k e ce h1 h2 => ?_,
           td := fun a b ba ea ca bb eb cb h1 h2 h3 h4 h5 => h.td a b ba ea ca bb eb cb (hset a h1).1 (hset b h2).1 h3 h4 h5, ll := h.ll, ln := h.ln, lb := h.lb, lp := fun k l D r h1 h2 => (h.lp k l D r h1 h2).mono (K.le.refl _) hobj, hb := by simpa [setBlk] using h.hb, gv := h.gv }
  · have hx := h.bx b k cs h1 h2
    have hne : k ≠ blk := by rintro rfl; exact hk.nb (List.mem_of_getElem? h2)
    obtain ⟨rs', hc, h3, h4⟩ := hx.ex
    exact ⟨hx.ge, hx.nc, ⟨rs', hc.congr (setBlk_other hne), h3, h4⟩, hx.lf, hx.lw, fun hm => by rw [← hx.sb hm]; exact shape_congr (setBlk_other hne)⟩
  · obtain ⟨q1, q2⟩ := hset j h1
    have hx := h.tk j k e ce q1 h2
    have hne : k ≠ blk := h.td j i k e ce blk _ _ q1 hi h2 hτ q2
    obtain ⟨rs', hc, h3⟩ := hx.ex
    exact ⟨hx.ge, hx.nb, hx.nc, ⟨rs', hc.congr (setBlk_other hne), h3⟩⟩

theorem primBuilderString (L : Lays.n169 P ρ) (X : Builder.Extra P ρ) (htU : g.tU = ρ.t 5) {pf : Func} (hpf : P.funcs[ρ.f 169]? = some pf) (hb : pf.body.isSome = true) (hn : pf.name ≠ "runtime.NumGoroutine") : PrimSOK P g (ρ.f 169) pBuilderString := by
  refine primS_of_calls hpf hb hn (fun base κ w st args ps v u st' hsr hsz hargs hp hu => ?_)
  unfold pBuilderString at hp
  split at hp
  · rename_i bs b
    obtain ⟨u1, rfl⟩ : ∃ u1, args = #[u1] := by
      obtain ⟨l⟩ := args
      match l, hsz with
      | [u1], _ => exact ⟨u1, rfl⟩
    have r1 := hargs 0 u1 _ rfl rfl
    cases r1 with | ptr _ _ blk hφ =>
    split at hp
    · -- nothing was written
      rename_i c0 hbx
      simp only [Option.some.injEq, Prod.mk.injEq] at hp
      obtain ⟨rfl, rfl⟩ := hp
      simp only [updS, Option.some.injEq] at hu
      subst hu
      have hB := hsr.bx b blk _ hbx hφ
      obtain ⟨rs, ⟨el, lo, hi, hw, hf⟩, hl, hr⟩ := hB.ex
      obtain ⟨v0, h0, hr0⟩ := hr 1 .nils rfl
      cases hr0
      have hc : w.cell? ⟨blk, 1, none⟩ = some (.slice none 0 0) := by simp [World.cell?, hw, h0]
      refine (bstring_nil L X blk w hc).mono ?_
      rintro e w' ⟨rfl, rfl⟩
      exact ⟨_, rfl, .str _ _ rfl, hsr.heap rfl, Fr.same rfl rfl rfl rfl⟩
    · rename_i c0 i l hbx
      split at hp
      · cases hp
      · rename_i hne0
        obtain ⟨hne, hrm⟩ : l ≠ [] ∧ l.length ≤ room := by simpa [not_or] using hne0
        simp only [Option.some.injEq, Prod.mk.injEq] at hp
        obtain ⟨rfl, rfl⟩ := hp
        simp only [updS] at hu
        split at hu
        · rename_i hti
          cases hu
          have hB := hsr.bx b blk _ hbx hφ
          obtain ⟨rs, ⟨el, lo, hi, hw, hf⟩, hl, hr⟩ := hB.ex
          obtain ⟨v0, h0, hr0⟩ := hr 1 _ rfl
          cases hr0 with
          | bys blk' off n c _ _ hn2 hc hbb ht hz =>
            obtain ⟨rfl, hS⟩ := hz i rfl
            subst hn2
            obtain ⟨n', hsh⟩ := hsr.sh blk' _ hS
            obtain ⟨e', ce, hτ, hroom⟩ := ht
            have hTK := hsr.tk i blk' e' ce hti hτ
            obtain ⟨rs', ⟨el', lo', hi', hw', hf'⟩, hce⟩ := hTK.ex
            have hn' : n' = rs'.size ∧ el' = g.tU := by
              simp only [World.shape?, hw', Option.some.injEq, Prod.mk.injEq] at hsh
              exact ⟨hsh.2.symm, hsh.1⟩
            have hcl : ∀ j x, l[j]? = some x → w.cell? ⟨blk', j, none⟩ = some (.int .u8 x.toNat) := fun j x hx => by
              have := hsr.cC _ _ _ (hbb j x hx)
              simpa using this
            have hcells : l.length ≤ n' := by
              rcases Nat.lt_or_ge n' l.length with h1 | h1
              · exfalso
                have h2 := hcl n' l[n'] (by simp [h1])
                simp only [World.cell?, hw'] at h2
                simp [hn'.1] at h2
              · exact h1
            have hmax : l.length ≤ 9223372036854775807 := by have e : room = 68719476736 := rfl; omega
            have hcell : w.cell? ⟨blk, 1, none⟩ = some (.slice (some ⟨blk', 0, none⟩) l.length c) := by simp [World.cell?, hw, h0]
            refine (bstring_walk L X blk blk' c n' l w hne hc hcells hmax hcell (by rw [hsh, htU]) hcl).mono ?_
            rintro e w1 ⟨rfl, rfl⟩
            have hlt := (Array.getElem?_eq_some_iff.1 hw').1
            have hfr : ∃ fz, (w.drew.freeze ⟨blk', 0, none⟩ l.length).heap = (setBlk w blk' rs' el' fz).heap := by
              refine ⟨if lo' == hi' then (0, 0 + l.length) else (min lo' 0, max hi' (0 + l.length)), ?_⟩
              simp only [World.freeze, setBlk, World.drew]
              rw [if_neg (by simpa using hne)]
              apply Array.ext_getElem?
              intro j
              rw [Array.getElem?_modify]
              by_cases hj : blk' = j
              · subst hj; rw [if_pos rfl, hw']; simp [hlt]
              · rw [if_neg hj, Array.getElem?_setIfInBounds_ne hj]
            obtain ⟨fz, hfr⟩ := hfr
            refine ⟨_, rfl, .str _ _ rfl, hsr.kill hti hτ hw' hfr, ?_⟩
            refine Fr.of ⟨?_, ?_, ?_, ?_, fun k hk => ?_⟩ fun k o ho hc => ?_
            · simp only [World.freeze]; split <;> rfl
            · simp only [World.freeze]; split <;> rfl
            · simp only [World.freeze]; split <;> rfl
            · rw [hfr]; simp [setBlk]
            · rw [hfr]; exact setBlk_other (by have := hTK.ge; omega)
            · rw [hfr, setBlk_other]
              · exact ho
              · rintro rfl; rw [hw'] at ho; cases ho; simp [isCells] at hc
        · cases hu
    · cases hp
  · cases hp
end Go.Ab

/-
  A row that lists variables: the wrap, the world's shape and what the listed variables hold kept.
-/
namespace Go.Ab
open Go
variable {H : Type} {enc : TypeId × Value → H}

theorem returns_laid_shaped {a : Assume} {C : Checked} {os : Os} {f : FuncId} {fn : Func} {s : ChangeSpec} {conds : List PathCond} {apart fresh handsOn again : Bool} (X : World → Prop) (hX : ∀ w w' : World, w.heap = w'.heap → X w → X w')
    (own : ownKnob C.prog.godebug = none) (started : os.Started) (noInit : C.prog.inits.idxOf? f = none) (hfn : C.prog.funcs[f]? = some fn)
    (witness : ∃ (w : World) (tape : Tape) (i : Input), w.os = os ∧ (w.forCall tape i).Shaped C.prog ∧ i.vars = [] ∧ Input.okWide C.prog (w.forCall tape i) .any w.heap.size f i ∧
      ((s.pre enc C.prog fn conds apart (w.forCall tape i).memory i.args ∧ X (w.forCall tape i).memory) ∧ sizedMet enc C.prog fn (OpenSpec.ofChange s) apart (w.forCall tape i).memory i.args) ∧ a.holds C.prog (lone (Frame.enter C.prog f i.args .normal) [] (w.forCall tape i)))
    (contract : ∀ (W : World) (base : Nat) (args : Array Value) (ds gs : List (DataW H)) (before : List MemPlace),
      (∀ (j : Nat) t v, fn.params[j]? = some t → args[j]? = some v → Value.okWide C.prog W .any base t v) →
      DataW.Whole enc C.prog fn.params.toList s.vars apart W args.toList ds gs before →
      X W →
      (DataW.weightsEach C.prog (fn.params.toList ++ s.plain.varTypes C.prog) (ds ++ gs)).all (· ≤ reachBytes) = true →
      W.ShapedOpen C.prog →
      a.holds C.prog (lone (Frame.enter C.prog f args .normal) [] W) →
      Calls C.prog f args W fun e W' => ∃ v, e = .returned v ∧ s.post enc C.prog fn apart fresh handsOn again W args v W') :
    ReturnsInHanded a C os f .any (fun w args => (s.pre enc C.prog fn conds apart w args ∧ X w) ∧ sizedMet enc C.prog fn (OpenSpec.ofChange s) apart w args) (s.post enc C.prog fn apart fresh handsOn again) := by
  refine returnsInHanded_of_calls own started noInit witness ?_
  intro w tape i _ hshape _ hok hpre hholds
  obtain ⟨_, _, _, fn2, hfn2, _, _, _, _, hval⟩ := hok
  obtain rfl : fn2 = fn := Option.some.inj (hfn2.symm.trans hfn)
  obtain ⟨⟨⟨ds, gs, before, hwhole, _⟩, hlaid⟩, hsized⟩ := hpre
  have hlaid2 : X (w.forCall tape i) := hX _ _ (by rfl) hlaid
  have hwhole2 := DataW.Whole.of_heap (w' := w.forCall tape i) (by rfl) hwhole
  have hrun := contract _ w.heap.size i.args ds gs before hval hwhole2 hlaid2 (hsized.weights hwhole) hshape hholds
  refine hrun.mono ?_
  rintro e W2 ⟨v, rfl, hpost⟩
  exact ChangeSpec.post_blind hpost
end Go.Ab
