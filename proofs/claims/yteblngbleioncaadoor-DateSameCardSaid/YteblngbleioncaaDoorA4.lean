/-
  strings.Builder: what is written, and its text.
-/
import Derived.Test.YteblngbleioncaaDoorA3
import Derived.KernelRfl
namespace Go.Ab
set_option linter.unusedVariables false
set_option linter.unusedSimpArgs false
variable {P : St → Prop} {st : St} {e : Env} {s s' : St} {b : Nat} {x : PV} {l : List UInt8}

/-- A Builder in a box. -/
structure Bu (s : St) (b : Nat) (x : PV) (l : List UInt8) : Prop where
  bx : s.boxes[b]? = some [.bslot, x] ∨ s.boxes[b]? = some [.ptr b 0, x]
  lv : Live s x l

/-- What a write leaves. -/
structure BuStep (s s' : St) (b : Nat) (x x' : PV) (l' : List UInt8) : Prop where
  bx : s'.boxes = s.boxes.set b [.ptr b 0, x']
  lv : Live s' x' l'
  lp : s'.loops = s.loops
  tl : s.toks.length ≤ s'.toks.length
  tk : ∀ i, i < s.toks.length → tokOf x ≠ some i → s'.toks[i]? = s.toks[i]?
  tn : ∀ i, tokOf x' = some i → tokOf x = some i ∨ s.toks.length ≤ i
  lw : min s.low b ≤ s'.low

theorem Bu.lt (h : Bu s b x l) : b < s.boxes.length := by
  rcases h.bx with h | h <;> exact (List.getElem?_eq_some_iff.1 h).1
theorem BuStep.bu {x' : PV} {l' : List UInt8} (h : BuStep s s' b x x' l') (hb : b < s.boxes.length) : Bu s' b x' l' :=
  ⟨.inr (by rw [h.bx, List.getElem?_set_self hb]), h.lv⟩

theorem copyCheck_spec (h : Bu s b x l) : ∃ s1, primS pCopyCheck [.ptr b 0] s = some (.tup [], s1) ∧ s1 = { s with boxes := s.boxes.set b [.ptr b 0, x] } := by
  rcases h.bx with h1 | h1
  · refine ⟨_, ?_, rfl⟩
    simp [primS, pCopyCheck, h1, updS, storePV, PV.cells, PV.inB, leafOk, hasTok, tokOf, setCells]
  · refine ⟨_, ?_, rfl⟩
    have : s.boxes.set b [.ptr b 0, x] = s.boxes := by
      obtain ⟨q, r⟩ := List.getElem?_eq_some_iff.1 h1
      rw [← r]; simp
    rw [this]
    simp [primS, pCopyCheck, h1, updS]

/-- The core of a write: m is put behind; s was the caller's state, s0 is the callee's, with more tokens. -/
theorem bu_app {y : PV} {m : List UInt8} {s0 : St} (h : Live s x l) (hb : b < s.boxes.length) (hbx : s0.boxes = s.boxes.set b [.ptr b 0, x]) (hlp : s0.loops = s.loops) (htl : s.toks.length ≤ s0.toks.length) (htk : ∀ i, i < s.toks.length → s0.toks[i]? = s.toks[i]?)
    (hy : src8 s0 y = some m) (hl : l.length + m.length ≤ room) (hlow : s0.low = s.boxes.length) :
    ∃ x' s1 s2, app8 s0 x y = some (x', s1) ∧ storePV s1 1 (.ptr b 1) x' = some s2 ∧ ∀ v : PV, v.inB s.boxes.length = true → (∀ n toks, keepRes n toks v = (v, [])) → ∃ s', leave s s2 v = (v, s') ∧ BuStep s s' b x x' (l ++ m) := by
  obtain ⟨x', s1, a1, a2, a3, a4, a5, a6, a7, a8, a9⟩ := app8_live (h.move (s' := s0) fun i hi => htk i (h.lt hi).1) hy hl
  have hg : s1.boxes[b]? = some [.ptr b 0, x] := by rw [a2, hbx, List.getElem?_set_self hb]
  have hcell : x'.cells = [x'] ∧ leafOk x' = true ∧ x'.inB (b + 1) = true := by
    rcases a5 with ⟨rfl, _⟩ | ⟨i, rfl, _⟩ <;> exact ⟨rfl, rfl, rfl⟩
  have hst : storePV s1 1 (.ptr b 1) x' = some { s1 with boxes := s1.boxes.set b [.ptr b 0, x'], low := if hasTok [x'] then min s1.low b else s1.low } := by
    simp [storePV, hg, hcell.1, hcell.2.1, hcell.2.2, setCells]
  refine ⟨x', s1, _, a1, hst, fun v hv hk => ?_⟩
  have htake : (s1.boxes.set b [.ptr b 0, x']).take s.boxes.length = s.boxes.set b [.ptr b 0, x'] := by
    rw [a2, hbx, List.set_set]; apply List.take_of_length_le; simp
  have hkeep : ∀ i, i < s.toks.length → tokOf x ≠ some i → s1.toks[i]? = s.toks[i]? := fun i hi hne => by
    rw [a7 i (by omega) hne, htk i hi]
  cases ht : hasTok [x'] with
  | true =>
    have hlt : ¬ s.boxes.length ≤ min s1.low b := by omega
    refine ⟨{ boxes := s.boxes.set b [.ptr b 0, x'], toks := s1.toks, loops := s1.loops, low := min s.low (min s1.low b) }, ?_, ⟨rfl, a5, a3.trans hlp, by show s.toks.length ≤ s1.toks.length; omega, hkeep, fun i hi => ?_, ?_⟩⟩
    · simp [leave, hv, hlt, htake]
    · rcases a8 i hi with ⟨h1, _⟩ | h1
      · exact .inl h1
      · exact .inr (by omega)
    · show min s.low b ≤ min s.low (min s1.low b)
      rw [a4, hlow]; omega
  | false =>
    -- nothing that lives was stored
    have hx' : x' = .nils := by
      rcases a5 with ⟨rfl, _⟩ | ⟨i, rfl, _⟩
      · rfl
      · simp [hasTok, tokOf] at ht
    have hle : s.boxes.length ≤ s1.low := by rw [a4, hlow]; exact Nat.le_refl _
    refine ⟨{ boxes := s.boxes.set b [.ptr b 0, x'], toks := s1.toks.take s.toks.length, loops := s1.loops, low := s.low }, ?_, ⟨rfl, ?_, a3.trans hlp, ?_, fun i hi hne => ?_, fun i hi => (by rw [hx'] at hi; cases hi), ?_⟩⟩
    · simp [leave, hv, hle, htake, hk]
    · rcases a5 with ⟨h1, h2⟩ | ⟨i, h1, _⟩
      · exact .inl ⟨h1, h2⟩
      · rw [hx'] at h1; cases h1
    · simp; omega
    · show (s1.toks.take s.toks.length)[i]? = _
      rw [List.getElem?_take, if_pos hi]; exact hkeep i hi hne
    · show min s.low b ≤ s.low
      omega

theorem WriteByte_spec {c : UInt8} (h : Bu s b x l) (hl : l.length + 1 ≤ room) : ∃ x' s', call prog (.fn 57 []) [.ptr b 0, .b8 c] s = some (.nili, s') ∧ BuStep s s' b x x' (l ++ [c]) := by
  have hlt := h.lt
  obtain ⟨s1, c1, c2⟩ := copyCheck_spec (s := { s with low := s.boxes.length }) ⟨h.bx, h.lv.move fun _ _ => rfl⟩
  have hlit : lit8Fill (List.replicate 1 0) [(0, .b8 c)] = some [c] := rfl
  have ld : loadPV s1 false 1 (.ptr b 1) = some x := by simp [c2, loadPV, hlt, readCells]
  obtain ⟨x', s2, s3, a1, a2, a3⟩ := bu_app (s := s) (s0 := s1.tok1) (b := b) (y := .bys (.own s1.toks.length) [c]) (m := [c]) h.lv hlt (by rw [c2]; rfl) (by rw [c2]; rfl) (by rw [c2]; simp [St.tok1]) (fun i hi => by
    rw [c2]; show (s.toks ++ [true])[i]? = _
    rw [List.getElem?_append_left hi]) rfl (by simpa using hl) (by rw [c2]; rfl)
  obtain ⟨s', k1, k2⟩ := a3 .nili rfl (fun _ _ => rfl)
  refine ⟨x', s', call_of_W prog_57 ?_, k2⟩
  unfold F_P_strings_Builder_WriteByte; dsimp only
  have c1' : call prog (.fn 73 []) [.ptr b 0] { boxes := s.boxes, toks := s.toks, loops := s.loops, low := s.boxes.length } = some (.tup [], s1) := by
    rw [call_primS prog_73]; exact c1
  simp (maxSteps := 1000000) (disch := omega) only [c1', faddrPV, Nat.zero_add, ld, hlit, freshT_eq, a1, a2, W_seq, W_region, W_cond, W_block, W_skip, W_label, W_exit, W_goto, W_ret, WO_cons, WO_consG, WO_nil, wantedA_eq, wantB, evOp, ev_tmp, ev_const, ev_fn, WN_some, WN_none, updO_some, updO_none, upd_eq,
 ↓reduceIte, Nat.reduceEqDiff, List.nil_append, List.cons_append, List.append_nil, List.map_cons, List.map_nil, env0_zero, env0_succ, env0_nil, Option.map_some, Option.map_none, seqQ_normal, seqQ_ret, seqQ_exit, seqQ_goto, blockQ_normal, blockQ_ret, blockQ_exit, blockQ_goto, condW_bool, loopQ_ret, loopQ_exit, loopQ_goto, endQ_ret, endQ_normal, keep_mk, keep_st,
 lss_i, leq_i, gtr_i, geq_i, eql_i, neq_i, eql_8, neq_8, lss_8, leq_8, gtr_8, geq_8, eql_s, neq_s, eql_b, neq_b, not_b, by_bys, by_nils, load_cp1, beq_true, beq_false, Bool.not_eq_true', decide_eq_true_eq, decide_eq_false_iff_not, decide_true, decide_false,
 Int.toNat_natCast, Int.ofNat_lt, Int.ofNat_le, Int.natCast_inj, Bool.false_eq_true, Bool.true_eq_false, extPV, List.getElem?_cons_zero, List.getElem?_cons_succ, nilckPV, Int.reduceToNat, Int.reduceLE, true_and, and_true, reduceCtorEq, or_false, false_or, or_true, Option.some.injEq, exists_eq_left', Bool.not_true, Bool.not_false, ne_eq, Int.reduceEq, not_true_eq_false, not_false_eq_true, Int.reduceLT, UInt8.reduceLT, UInt8.reduceLE, UInt8.reduceToNat]
  exact ⟨.nili, rfl, k1⟩

/-- The text; the room behind it is nobody's more. -/
theorem BString_spec (h : Bu s b x l) (hn : l = [] → x = .nils) (hr : l.length ≤ room) : ∃ s', call prog (.fn 59 []) [.ptr b 0] s = some (.str l, s') ∧ s'.boxes = s.boxes ∧ s'.loops = s.loops ∧ s'.low = s.low ∧ s'.toks.length = s.toks.length ∧ ∀ i, tokOf x ≠ some i → s'.toks[i]? = s.toks[i]? := by
  rw [call_primS prog_59]
  rcases h.lv with ⟨rfl, rfl⟩ | ⟨i, rfl, hi⟩
  · refine ⟨s, ?_, rfl, rfl, rfl, rfl, fun _ _ => rfl⟩
    rcases h.bx with h1 | h1 <;> simp [primS, pBuilderString, h1, updS]
  · have hl : l ≠ [] := fun h => by have := hn h; cases this
    refine ⟨{ s with toks := s.toks.set i false }, ?_, rfl, rfl, rfl, by simp, fun j hj => ?_⟩
    · rcases h.bx with h1 | h1 <;> simp [primS, pBuilderString, h1, hl, updS, hi, show ¬ room < l.length by omega]
    · rw [List.getElem?_set_ne (fun h => hj (by rw [h]; rfl))]

/-! ### A function's state that keeps what its caller has -/
structure Kept (st s : St) : Prop where
  bx : s.boxes.take st.boxes.length = st.boxes
  lp : s.loops = st.loops
  lw : st.boxes.length ≤ s.low
  tk : s.toks.take st.toks.length = st.toks

theorem Kept.start : Kept st { boxes := st.boxes, toks := st.toks, loops := st.loops, low := st.boxes.length } := ⟨by simp, rfl, Nat.le_refl _, by simp⟩
theorem Kept.bl (h : Kept st s) : st.boxes.length ≤ s.boxes.length := by
  have := congrArg List.length h.bx
  simp at this; omega
theorem Kept.tl (h : Kept st s) : st.toks.length ≤ s.toks.length := by
  have := congrArg List.length h.tk
  simp at this; omega
theorem Kept.get (h : Kept st s) {i : Nat} (hi : i < st.toks.length) : s.toks[i]? = st.toks[i]? := by
  have := congrArg (fun z => z[i]?) h.tk
  simpa [List.getElem?_take, hi] using this
theorem Kept.of {s' : St} (h : Kept st s) (hb : s'.boxes.take st.boxes.length = s.boxes.take st.boxes.length) (hl : s'.loops = s.loops) (hw : st.boxes.length ≤ s'.low) (ht : ∀ i, i < st.toks.length → s'.toks[i]? = s.toks[i]?) (hn : st.toks.length ≤ s'.toks.length) : Kept st s' :=
  ⟨hb.trans h.bx, hl.trans h.lp, hw, by
    apply List.ext_getElem?
    intro i
    rw [List.getElem?_take]
    split
    · rename_i hi
      rw [ht i hi, h.get hi]
    · rename_i hi
      rw [List.getElem?_eq_none (by omega)]⟩
theorem Kept.tok1 (h : Kept st s) : Kept st s.tok1 := h.of rfl rfl h.lw (fun i hi => by
  show (s.toks ++ [true])[i]? = _
  rw [List.getElem?_append_left (by have := h.tl; omega)]) (by have := h.tl; simp [St.tok1]; omega)
theorem Kept.leave (h : Kept st s) {v : PV} (h1 : v.inB st.boxes.length = true) (h2 : ∀ n toks, keepRes n toks v = (v, [])) : leave st s v = (v, st) := by
  have e1 := h.bx; have e2 := h.lp; have e3 := h.tk
  simp [Ab.leave, h1, h.lw, h2, e1, e2, e3]
theorem Kept.alloc {z : List PV} (h : Kept st s) : Kept st { s with boxes := s.boxes ++ [z] } := h.of (by
  have := h.bl
  rw [List.take_append_of_le_length this]) rfl h.lw (fun _ _ => rfl) h.tl
/-- A Builder of one's own is written. -/
theorem Kept.step {x' : PV} {l' : List UInt8} (h : Kept st s) (hs : BuStep s s' b x x' l') (hb : st.boxes.length ≤ b) (hm : ∀ i, tokOf x = some i → st.toks.length ≤ i) : Kept st s' ∧ ∀ i, tokOf x' = some i → st.toks.length ≤ i := by
  have htl := h.tl
  refine ⟨h.of ?_ hs.lp (by have := hs.lw; have := h.lw; omega) (fun i hi => hs.tk i (by omega) fun hh => by have := hm i hh; omega) (by have := hs.tl; omega), fun i hi => ?_⟩
  · rw [hs.bx, List.take_set_of_le hb]
  · rcases hs.tn i hi with h1 | h1
    · exact hm i h1
    · omega

theorem Kept.string (h : Kept st s) (hs : ∃ s', P s' ∧ s'.boxes = s.boxes ∧ s'.loops = s.loops ∧ s'.low = s.low ∧ s'.toks.length = s.toks.length ∧ ∀ i, tokOf x ≠ some i → s'.toks[i]? = s.toks[i]?) (hm : ∀ i, tokOf x = some i → st.toks.length ≤ i) : ∃ s', P s' ∧ Kept st s' := by
  obtain ⟨s', h0, h1, h2, h3, h4, h5⟩ := hs
  exact ⟨s', h0, h.of (by rw [h1]) h2 (by rw [h3]; exact h.lw) (fun i hi => h5 i fun hh => by have := hm i hh; omega) (by rw [h4]; exact h.tl)⟩

/-- A slice of one's own. -/
def Mine (st s : St) (v : PV) (l : List UInt8) : Prop := Live s v l ∧ ∀ t, tokOf v = some t → st.toks.length ≤ t
theorem Mine.nil : Mine st s .nils [] := ⟨.inl ⟨rfl, rfl⟩, fun t h => (by cases h)⟩
theorem Mine.by {v : PV} (h : Mine st s v l) : v.by = some l := h.1.by
theorem Mine.tok1 {v : PV} (h : Mine st s v l) : Mine st s.tok1 v l := ⟨h.1.tok1, h.2⟩
theorem Kept.app8 {v y : PV} {m : List UInt8} (hk : Kept st s) (h : Mine st s v l) (hy : src8 s y = some m) (hl : l.length + m.length ≤ room) :
    ∃ v' s', Ab.app8 s v y = some (v', s') ∧ Kept st s' ∧ Mine st s' v' (l ++ m) := by
  obtain ⟨v', s', a1, a2, a3, a4, a5, a6, a7, a8, a9⟩ := app8_live h.1 hy hl
  have htl := hk.tl
  refine ⟨v', s', a1, hk.of (by rw [a2]) a3 (by rw [a4]; exact hk.lw) (fun i hi => a7 i (by omega) fun hh => by have := h.2 i hh; omega) (by omega), a5, fun t ht => ?_⟩
  rcases a8 t ht with ⟨h1, _⟩ | h1
  · exact h.2 t h1
  · omega
/-- One byte more. -/
theorem Kept.push {v : PV} {c : UInt8} (hk : Kept st s) (h : Mine st s v l) (hl : l.length + 1 ≤ room) :
    ∃ v' s', Ab.app8 s.tok1 v (.bys (.own s.toks.length) [c]) = some (v', s') ∧ Kept st s' ∧ Mine st s' v' (l ++ [c]) :=
  hk.tok1.app8 h.tok1 rfl (by simpa using hl)
theorem lit8_2 {c d : UInt8} : lit8Fill (List.replicate 2 0) [(0, .b8 c), (1, .b8 d)] = some [c, d] := rfl
/-- What a call hands back that is no slice, no place. -/
def Flat (v : PV) : Prop := (∀ n, v.inB n = true) ∧ (∀ n toks, keepRes n toks v = (v, []))
theorem Kept.leave' (h : Kept st s) {v : PV} (hv : Flat v) : Ab.leave st s v = (v, st) := h.leave (hv.1 _) hv.2
end Go.Ab

/-
  Operations on texts; the library's and the document's searches in them.
-/
namespace Go.Ab
set_option linter.unusedVariables false
set_option linter.unusedSimpArgs false
variable {A : AP} {st : St} {e : Env}

theorem len_s {l : List UInt8} : lenPV true (.str l) = some (.int .i64 (l.length : Int)) := rfl
theorem idx_s {l : List UInt8} {k : IntKind} {c : Int} (h1 : 0 ≤ c) (h2 : c.toNat < l.length) : idxSPV (.str l) (.int k c) = some (.b8 (l.getD c.toNat 0)) := by
  simp [idxSPV, intOf, h1, show c < l.length by omega]
theorem slc_s_lo {l : List UInt8} {k : IntKind} {c : Int} (h1 : 0 ≤ c) (h2 : c.toNat ≤ l.length) : slcPV 0 (.str l) (some (.int k c)) none none = some (.str (l.drop c.toNat)) := by
  simp [slcPV, bnd, intOf, h1, show c ≤ l.length by omega]
theorem slc_s_hi {l : List UInt8} {k : IntKind} {c : Int} (h1 : 0 ≤ c) (h2 : c.toNat ≤ l.length) : slcPV 0 (.str l) none (some (.int k c)) none = some (.str (l.take c.toNat)) := by
  simp [slcPV, bnd, intOf, h1, show c ≤ l.length by omega]
theorem slc_s {l : List UInt8} {k k' : IntKind} {c d : Int} (h1 : 0 ≤ c) (h2 : c ≤ d) (h3 : d.toNat ≤ l.length) : slcPV 0 (.str l) (some (.int k c)) (some (.int k' d)) none = some (.str ((l.take d.toNat).drop c.toNat)) := by
  simp [slcPV, bnd, intOf, h1, show d ≤ l.length by omega, show 0 ≤ d by omega, show c ≤ max d 0 by omega]
theorem adds {ek : EK} {a b : List UInt8} (h : a.length + b.length ≤ 9223372036854775807) : binPV .add ek (.str a) (.str b) = some (.str (a ++ b)) := by
  simp [binPV, binS, h]

theorem drop_getD {l : List UInt8} {i : Nat} (h : i < l.length) : l.drop i = l.getD i 0 :: l.drop (i + 1) := by
  rw [List.drop_eq_getElem_cons h]; congr 1; simp [List.getD, h]
theorem take_getD {l : List UInt8} {i : Nat} (h : i < l.length) : l.take (i + 1) = l.take i ++ [l.getD i 0] := by
  rw [List.take_succ_eq_append_getElem h]; simp [List.getD, h]

/-- A text of one byte is a part just if the byte is in the text. -/
theorem index_one {l : List UInt8} {c : UInt8} : 0 ≤ Lib.index l [c] ↔ c ∈ l := by
  induction l with
  | nil => simp [Lib.index]
  | cons d r ih =>
    simp only [Lib.index]
    by_cases h : c = d
    · subst h; simp
    · have h' : ([c] : List UInt8).isPrefixOf (d :: r) = false := by simp [List.isPrefixOf, h]
      have hge := Lib.index_ge r [c]
      rw [h']
      simp only [Bool.false_eq_true, if_false, List.mem_cons, h, false_or]
      rw [← ih]
      split
      · rename_i h2; simp at h2; omega
      · rename_i h2; simp at h2; omega

theorem strIndex_spec {a b : List UInt8} (h : a.length < 4294967281) : call prog (.fn 82 []) [.str a, .str b] st = some (.int .i64 (Lib.index a b), st) := by
  rw [call_prim prog_82]; simp [pStrIndex, h]
theorem slHasPrefix_spec {a b : List UInt8} : call prog (.fn 79 []) [.str a, .str b] st = some (.bool (decide (b <+: a)), st) := by
  refine call_of_W prog_79 ?_
  unfold F_internal_stringslite_HasPrefix; dsimp only
  by_cases h : b.length ≤ a.length
  · simp (maxSteps := 1000000) (disch := omega) only [len_s, h, slc_s_hi, W_seq, W_region, W_cond, W_block, W_skip, W_label, W_exit, W_goto, W_ret, WO_cons, WO_consG, WO_nil, wantedA_eq, wantB, evOp, ev_tmp, ev_const, ev_fn, WN_some, WN_none, updO_some, updO_none, upd_eq,
 ↓reduceIte, Nat.reduceEqDiff, List.nil_append, List.cons_append, List.append_nil, List.map_cons, List.map_nil, env0_zero, env0_succ, env0_nil, Option.map_some, Option.map_none, seqQ_normal, seqQ_ret, seqQ_exit, seqQ_goto, blockQ_normal, blockQ_ret, blockQ_exit, blockQ_goto, condW_bool, loopQ_ret, loopQ_exit, loopQ_goto, endQ_ret, endQ_normal, keep_mk, keep_st,
 lss_i, leq_i, gtr_i, geq_i, eql_i, neq_i, eql_8, neq_8, lss_8, leq_8, gtr_8, geq_8, eql_s, neq_s, eql_b, neq_b, not_b, by_bys, by_nils, load_cp1, beq_true, beq_false, Bool.not_eq_true', decide_eq_true_eq, decide_eq_false_iff_not, decide_true, decide_false,
 Int.toNat_natCast, Int.ofNat_lt, Int.ofNat_le, Int.natCast_inj, Bool.false_eq_true, Bool.true_eq_false, extPV, List.getElem?_cons_zero, List.getElem?_cons_succ, nilckPV, Int.reduceToNat, Int.reduceLE, true_and, and_true, reduceCtorEq, or_false, false_or, or_true, Option.some.injEq, exists_eq_left', Bool.not_true, Bool.not_false, ne_eq, Int.reduceEq, not_true_eq_false, not_false_eq_true, Int.reduceLT, UInt8.reduceLT, UInt8.reduceLE, UInt8.reduceToNat]
    rw [show decide (b <+: a) = decide (a.take b.length = b) by congr 1; rw [List.prefix_iff_eq_take]; exact propext eq_comm]
    exact end1 rfl Kp_bool
  · simp (maxSteps := 1000000) (disch := omega) only [len_s, h, W_seq, W_region, W_cond, W_block, W_skip, W_label, W_exit, W_goto, W_ret, WO_cons, WO_consG, WO_nil, wantedA_eq, wantB, evOp, ev_tmp, ev_const, ev_fn, WN_some, WN_none, updO_some, updO_none, upd_eq,
 ↓reduceIte, Nat.reduceEqDiff, List.nil_append, List.cons_append, List.append_nil, List.map_cons, List.map_nil, env0_zero, env0_succ, env0_nil, Option.map_some, Option.map_none, seqQ_normal, seqQ_ret, seqQ_exit, seqQ_goto, blockQ_normal, blockQ_ret, blockQ_exit, blockQ_goto, condW_bool, loopQ_ret, loopQ_exit, loopQ_goto, endQ_ret, endQ_normal, keep_mk, keep_st,
 lss_i, leq_i, gtr_i, geq_i, eql_i, neq_i, eql_8, neq_8, lss_8, leq_8, gtr_8, geq_8, eql_s, neq_s, eql_b, neq_b, not_b, by_bys, by_nils, load_cp1, beq_true, beq_false, Bool.not_eq_true', decide_eq_true_eq, decide_eq_false_iff_not, decide_true, decide_false,
 Int.toNat_natCast, Int.ofNat_lt, Int.ofNat_le, Int.natCast_inj, Bool.false_eq_true, Bool.true_eq_false, extPV, List.getElem?_cons_zero, List.getElem?_cons_succ, nilckPV, Int.reduceToNat, Int.reduceLE, true_and, and_true, reduceCtorEq, or_false, false_or, or_true, Option.some.injEq, exists_eq_left', Bool.not_true, Bool.not_false, ne_eq, Int.reduceEq, not_true_eq_false, not_false_eq_true, Int.reduceLT, UInt8.reduceLT, UInt8.reduceLE, UInt8.reduceToNat]
    rw [show decide (b <+: a) = false by simp; intro hp; exact h hp.length_le]
    exact end1 rfl Kp_bool
theorem sHasPrefix_spec {a b : List UInt8} : call prog (.fn 72 []) [.str a, .str b] st = some (.bool (decide (b <+: a)), st) := by
  refine call_of_W prog_72 ?_
  unfold F_strings_HasPrefix; dsimp only
  simp (maxSteps := 1000000) (disch := omega) only [slHasPrefix_spec, W_seq, W_region, W_cond, W_block, W_skip, W_label, W_exit, W_goto, W_ret, WO_cons, WO_consG, WO_nil, wantedA_eq, wantB, evOp, ev_tmp, ev_const, ev_fn, WN_some, WN_none, updO_some, updO_none, upd_eq,
 ↓reduceIte, Nat.reduceEqDiff, List.nil_append, List.cons_append, List.append_nil, List.map_cons, List.map_nil, env0_zero, env0_succ, env0_nil, Option.map_some, Option.map_none, seqQ_normal, seqQ_ret, seqQ_exit, seqQ_goto, blockQ_normal, blockQ_ret, blockQ_exit, blockQ_goto, condW_bool, loopQ_ret, loopQ_exit, loopQ_goto, endQ_ret, endQ_normal, keep_mk, keep_st,
 lss_i, leq_i, gtr_i, geq_i, eql_i, neq_i, eql_8, neq_8, lss_8, leq_8, gtr_8, geq_8, eql_s, neq_s, eql_b, neq_b, not_b, by_bys, by_nils, load_cp1, beq_true, beq_false, Bool.not_eq_true', decide_eq_true_eq, decide_eq_false_iff_not, decide_true, decide_false,
 Int.toNat_natCast, Int.ofNat_lt, Int.ofNat_le, Int.natCast_inj, Bool.false_eq_true, Bool.true_eq_false, extPV, List.getElem?_cons_zero, List.getElem?_cons_succ, nilckPV, Int.reduceToNat, Int.reduceLE, true_and, and_true, reduceCtorEq, or_false, false_or, or_true, Option.some.injEq, exists_eq_left', Bool.not_true, Bool.not_false, ne_eq, Int.reduceEq, not_true_eq_false, not_false_eq_true, Int.reduceLT, UInt8.reduceLT, UInt8.reduceLE, UInt8.reduceToNat]
  exact end1 rfl Kp_bool

end Go.Ab

/-
  Names in small letters; fields of a name; how big a header is.
-/
namespace Go.Ab
set_option linter.unusedVariables false
set_option linter.unusedSimpArgs false
variable {st : St} {e : Env}

/-! ### Bytes in a box of one's own -/
def bst (st : St) (l : List UInt8) : St := ⟨st.boxes ++ [l.map .b8], st.toks, st.loops, st.boxes.length⟩
theorem bst_eq {l : List UInt8} : (⟨st.boxes ++ [l.map .b8], st.toks, st.loops, st.boxes.length⟩ : St) = bst st l := rfl
theorem iaddr_ms {b n : Nat} {k : IntKind} {c : Int} (h1 : 0 ≤ c) (h2 : c.toNat < n) : iaddrPV 1 (.ms b 0 n) (.int k c) = some (.ptr b c.toNat) := by
  simp [iaddrPV, intOf, h1, show c < n by omega]
theorem len_ms {b n : Nat} : lenPV false (.ms b 0 n) = some (.int .i64 (n : Int)) := rfl
theorem load_bst {l : List UInt8} {i : Nat} (h : i < l.length) : loadPV (bst st l) false 1 (.ptr st.boxes.length i) = some (.b8 (l.getD i 0)) := by
  simp only [loadPV, bst, get_app0]
  rw [← List.map_drop, drop_getD h]; rfl
theorem store_bst {l : List UInt8} {i : Nat} {c : UInt8} (h : i < l.length) : storePV (bst st l) 1 (.ptr st.boxes.length i) (.b8 c) = some (bst st (l.set i c)) := by
  simp only [storePV, bst, get_app0, PV.cells]
  have h2 : i + 1 ≤ l.length := by omega
  simp [h2, PV.inB, leafOk, setCells, hasTok, tokOf, List.map_set]
theorem bytesOf_map : ∀ l : List UInt8, bytesOf (l.map .b8) = some l := by
  intro l
  induction l with
  | nil => rfl
  | cons c r ih => simp [bytesOf, ih]
theorem b2s_bst {l : List UInt8} {n : Nat} (h : n = l.length) : b2s true (bst st l) (.ms st.boxes.length 0 n) = some l := by
  subst h
  simp only [b2s, if_true, src8, bst, get_app0]
  rw [if_pos (by simp), List.drop_zero, List.take_of_length_le (by simp), bytesOf_map]
theorem leave_bst {l : List UInt8} {v : PV} (h1 : v.inB st.boxes.length = true) (h2 : ∀ n toks, keepRes n toks v = (v, [])) : leave st (bst st l) v = (v, st) := by
  simp [leave, bst, h1, h2]

theorem add_8 {ek : EK} {a b : UInt8} : binPV .add ek (.b8 a) (.b8 b) = some (.b8 (a + b)) := rfl
def lowC (c : UInt8) : UInt8 := if 65 ≤ c ∧ c ≤ 90 then c + 32 else c
def lowOf (s : List UInt8) : List UInt8 := s.map lowC

theorem lower_spec {s : List UInt8} (h : s.length ≤ 1000000) : call prog (.fn 167 []) [.str s] st = some (.str (lowOf s), st) := by
  refine call_of_W prog_167 ?_
  unfold F_fields_lower; dsimp only
  simp (maxSteps := 1000000) (disch := omega) only [bst_eq, len_ms, W_seq, W_region, W_cond, W_block, W_skip, W_label, W_exit, W_goto, W_ret, WO_cons, WO_consG, WO_nil, wantedA_eq, wantB, evOp, ev_tmp, ev_const, ev_fn, WN_some, WN_none, updO_some, updO_none, upd_eq,
 ↓reduceIte, Nat.reduceEqDiff, List.nil_append, List.cons_append, List.append_nil, List.map_cons, List.map_nil, env0_zero, env0_succ, env0_nil, Option.map_some, Option.map_none, seqQ_normal, seqQ_ret, seqQ_exit, seqQ_goto, blockQ_normal, blockQ_ret, blockQ_exit, blockQ_goto, condW_bool, loopQ_ret, loopQ_exit, loopQ_goto, endQ_ret, endQ_normal, keep_mk, keep_st,
 lss_i, leq_i, gtr_i, geq_i, eql_i, neq_i, eql_8, neq_8, lss_8, leq_8, gtr_8, geq_8, eql_s, neq_s, eql_b, neq_b, not_b, by_bys, by_nils, load_cp1, beq_true, beq_false, Bool.not_eq_true', decide_eq_true_eq, decide_eq_false_iff_not, decide_true, decide_false,
 Int.toNat_natCast, Int.ofNat_lt, Int.ofNat_le, Int.natCast_inj, Bool.false_eq_true, Bool.true_eq_false, extPV, List.getElem?_cons_zero, List.getElem?_cons_succ, nilckPV, Int.reduceToNat, Int.reduceLE, true_and, and_true, reduceCtorEq, or_false, false_or, or_true, Option.some.injEq, exists_eq_left', Bool.not_true, Bool.not_false, ne_eq, Int.reduceEq, not_true_eq_false, not_false_eq_true, Int.reduceLT, UInt8.reduceLT, UInt8.reduceLE, UInt8.reduceToNat]
  obtain ⟨I, hI⟩ : ∃ I : Nat → Env → St → Prop, I = fun n e s' => ∃ (i : Nat) (l : List UInt8), n = s.length - i ∧ i ≤ s.length ∧ l = lowOf (s.take i) ++ s.drop i ∧ s' = bst st l ∧ e 3 = .ms st.boxes.length 0 s.length ∧ e 8 = .ms st.boxes.length 0 s.length ∧ e 9 = .int .i64 (s.length : Int) ∧ e 10 = .int .i64 (i : Int) := ⟨_, rfl⟩
  refine W_loop I ?_ (n := s.length) (by
    rw [hI]
    exact ⟨0, s, rfl, by omega, by simp [lowOf], rfl, rfl, rfl, rfl, rfl⟩)
  intro n e s' hh
  rw [hI] at hh
  obtain ⟨i, l, rfl, hi, hl, rfl, h3, h8, h9, h10⟩ := hh
  have hll : l.length = s.length := by rw [hl]; simp [lowOf]; omega
  by_cases hlt : i < s.length
  · obtain ⟨c, hc⟩ : ∃ c, c = s.getD i 0 := ⟨_, rfl⟩
    have hlc : l.getD i 0 = c := by
      rw [hl, hc]
      simp only [List.getD]
      rw [List.getElem?_append_right (by simp [lowOf]; omega)]
      simp [lowOf, Nat.min_eq_left hi]
    have hnext : ∀ (E : Env) (l' : List UInt8), l' = l.set i (lowC c) → E 3 = .ms st.boxes.length 0 s.length → E 8 = .ms st.boxes.length 0 s.length → E 9 = .int .i64 (s.length : Int) → E 10 = .int .i64 ((i + 1 : Nat) : Int) → I (s.length - (i + 1)) E (bst st l') := by
      intro E l' k0 k1 k2 k3 k4
      rw [hI]
      refine ⟨i + 1, l', rfl, by omega, ?_, rfl, k1, k2, k3, k4⟩
      rw [k0, hl, take_getD hlt, ← hc, drop_getD hlt]
      have hn : (lowOf (s.take i)).length = i := by simp [lowOf]; omega
      rw [List.set_append_right _ _ (by omega), hn]
      simp [lowOf]
    by_cases h65 : 65 ≤ c
    · by_cases h90 : c ≤ 90
      · simp (maxSteps := 1000000) (disch := omega) only [h3, h8, h9, h10, hlt, iaddr_ms, load_bst (st := st) (l := l) (i := i) (by omega), hlc, h65, h90, add_8, store_bst (st := st) (l := l) (i := i) (by omega), add_n, W_seq, W_region, W_cond, W_block, W_skip, W_label, W_exit, W_goto, W_ret, WO_cons, WO_consG, WO_nil, wantedA_eq, wantB, evOp, ev_tmp, ev_const, ev_fn, WN_some, WN_none, updO_some, updO_none, upd_eq,
 ↓reduceIte, Nat.reduceEqDiff, List.nil_append, List.cons_append, List.append_nil, List.map_cons, List.map_nil, env0_zero, env0_succ, env0_nil, Option.map_some, Option.map_none, seqQ_normal, seqQ_ret, seqQ_exit, seqQ_goto, blockQ_normal, blockQ_ret, blockQ_exit, blockQ_goto, condW_bool, loopQ_ret, loopQ_exit, loopQ_goto, endQ_ret, endQ_normal, keep_mk, keep_st,
 lss_i, leq_i, gtr_i, geq_i, eql_i, neq_i, eql_8, neq_8, lss_8, leq_8, gtr_8, geq_8, eql_s, neq_s, eql_b, neq_b, not_b, by_bys, by_nils, load_cp1, beq_true, beq_false, Bool.not_eq_true', decide_eq_true_eq, decide_eq_false_iff_not, decide_true, decide_false,
 Int.toNat_natCast, Int.ofNat_lt, Int.ofNat_le, Int.natCast_inj, Bool.false_eq_true, Bool.true_eq_false, extPV, List.getElem?_cons_zero, List.getElem?_cons_succ, nilckPV, Int.reduceToNat, Int.reduceLE, true_and, and_true, reduceCtorEq, or_false, false_or, or_true, Option.some.injEq, exists_eq_left', Bool.not_true, Bool.not_false, ne_eq, Int.reduceEq, not_true_eq_false, not_false_eq_true, Int.reduceLT, UInt8.reduceLT, UInt8.reduceLE, UInt8.reduceToNat]
        exact loopQ_intro (m := s.length - (i + 1)) (by omega) (hnext _ (l.set i (c + 32)) (by simp [lowC, h65, h90]) h3 h8 h9 rfl)
      · simp (maxSteps := 1000000) (disch := omega) only [h3, h8, h9, h10, hlt, iaddr_ms, load_bst (st := st) (l := l) (i := i) (by omega), hlc, h65, h90, add_n, W_seq, W_region, W_cond, W_block, W_skip, W_label, W_exit, W_goto, W_ret, WO_cons, WO_consG, WO_nil, wantedA_eq, wantB, evOp, ev_tmp, ev_const, ev_fn, WN_some, WN_none, updO_some, updO_none, upd_eq,
 ↓reduceIte, Nat.reduceEqDiff, List.nil_append, List.cons_append, List.append_nil, List.map_cons, List.map_nil, env0_zero, env0_succ, env0_nil, Option.map_some, Option.map_none, seqQ_normal, seqQ_ret, seqQ_exit, seqQ_goto, blockQ_normal, blockQ_ret, blockQ_exit, blockQ_goto, condW_bool, loopQ_ret, loopQ_exit, loopQ_goto, endQ_ret, endQ_normal, keep_mk, keep_st,
 lss_i, leq_i, gtr_i, geq_i, eql_i, neq_i, eql_8, neq_8, lss_8, leq_8, gtr_8, geq_8, eql_s, neq_s, eql_b, neq_b, not_b, by_bys, by_nils, load_cp1, beq_true, beq_false, Bool.not_eq_true', decide_eq_true_eq, decide_eq_false_iff_not, decide_true, decide_false,
 Int.toNat_natCast, Int.ofNat_lt, Int.ofNat_le, Int.natCast_inj, Bool.false_eq_true, Bool.true_eq_false, extPV, List.getElem?_cons_zero, List.getElem?_cons_succ, nilckPV, Int.reduceToNat, Int.reduceLE, true_and, and_true, reduceCtorEq, or_false, false_or, or_true, Option.some.injEq, exists_eq_left', Bool.not_true, Bool.not_false, ne_eq, Int.reduceEq, not_true_eq_false, not_false_eq_true, Int.reduceLT, UInt8.reduceLT, UInt8.reduceLE, UInt8.reduceToNat]
        exact loopQ_intro (m := s.length - (i + 1)) (by omega) (hnext _ l (by simp only [lowC, h90, and_false, if_false]; rw [← hlc, List.getD, List.getElem?_eq_getElem (by omega)]; simp) h3 h8 h9 rfl)
    · simp (maxSteps := 1000000) (disch := omega) only [h3, h8, h9, h10, hlt, iaddr_ms, load_bst (st := st) (l := l) (i := i) (by omega), hlc, h65, add_n, W_seq, W_region, W_cond, W_block, W_skip, W_label, W_exit, W_goto, W_ret, WO_cons, WO_consG, WO_nil, wantedA_eq, wantB, evOp, ev_tmp, ev_const, ev_fn, WN_some, WN_none, updO_some, updO_none, upd_eq,
 ↓reduceIte, Nat.reduceEqDiff, List.nil_append, List.cons_append, List.append_nil, List.map_cons, List.map_nil, env0_zero, env0_succ, env0_nil, Option.map_some, Option.map_none, seqQ_normal, seqQ_ret, seqQ_exit, seqQ_goto, blockQ_normal, blockQ_ret, blockQ_exit, blockQ_goto, condW_bool, loopQ_ret, loopQ_exit, loopQ_goto, endQ_ret, endQ_normal, keep_mk, keep_st,
 lss_i, leq_i, gtr_i, geq_i, eql_i, neq_i, eql_8, neq_8, lss_8, leq_8, gtr_8, geq_8, eql_s, neq_s, eql_b, neq_b, not_b, by_bys, by_nils, load_cp1, beq_true, beq_false, Bool.not_eq_true', decide_eq_true_eq, decide_eq_false_iff_not, decide_true, decide_false,
 Int.toNat_natCast, Int.ofNat_lt, Int.ofNat_le, Int.natCast_inj, Bool.false_eq_true, Bool.true_eq_false, extPV, List.getElem?_cons_zero, List.getElem?_cons_succ, nilckPV, Int.reduceToNat, Int.reduceLE, true_and, and_true, reduceCtorEq, or_false, false_or, or_true, Option.some.injEq, exists_eq_left', Bool.not_true, Bool.not_false, ne_eq, Int.reduceEq, not_true_eq_false, not_false_eq_true, Int.reduceLT, UInt8.reduceLT, UInt8.reduceLE, UInt8.reduceToNat]
      exact loopQ_intro (m := s.length - (i + 1)) (by omega) (hnext _ l (by simp only [lowC, h65, false_and, if_false]; rw [← hlc, List.getD, List.getElem?_eq_getElem (by omega)]; simp) h3 h8 h9 rfl)
  · obtain rfl : i = s.length := by omega
    simp (maxSteps := 1000000) (disch := omega) only [h3, h8, h9, h10, hlt, b2s_bst (st := st) (l := l) hll.symm, W_seq, W_region, W_cond, W_block, W_skip, W_label, W_exit, W_goto, W_ret, WO_cons, WO_consG, WO_nil, wantedA_eq, wantB, evOp, ev_tmp, ev_const, ev_fn, WN_some, WN_none, updO_some, updO_none, upd_eq,
 ↓reduceIte, Nat.reduceEqDiff, List.nil_append, List.cons_append, List.append_nil, List.map_cons, List.map_nil, env0_zero, env0_succ, env0_nil, Option.map_some, Option.map_none, seqQ_normal, seqQ_ret, seqQ_exit, seqQ_goto, blockQ_normal, blockQ_ret, blockQ_exit, blockQ_goto, condW_bool, loopQ_ret, loopQ_exit, loopQ_goto, endQ_ret, endQ_normal, keep_mk, keep_st,
 lss_i, leq_i, gtr_i, geq_i, eql_i, neq_i, eql_8, neq_8, lss_8, leq_8, gtr_8, geq_8, eql_s, neq_s, eql_b, neq_b, not_b, by_bys, by_nils, load_cp1, beq_true, beq_false, Bool.not_eq_true', decide_eq_true_eq, decide_eq_false_iff_not, decide_true, decide_false,
 Int.toNat_natCast, Int.ofNat_lt, Int.ofNat_le, Int.natCast_inj, Bool.false_eq_true, Bool.true_eq_false, extPV, List.getElem?_cons_zero, List.getElem?_cons_succ, nilckPV, Int.reduceToNat, Int.reduceLE, true_and, and_true, reduceCtorEq, or_false, false_or, or_true, Option.some.injEq, exists_eq_left', Bool.not_true, Bool.not_false, ne_eq, Int.reduceEq, not_true_eq_false, not_false_eq_true, Int.reduceLT, UInt8.reduceLT, UInt8.reduceLE, UInt8.reduceToNat]
    exact ⟨.str (lowOf s), by rw [hl]; simp [resOf, rvAll, rv1, upd_eq, notTup, packRes], leave_bst rfl (fun _ _ => rfl)⟩

end Go.Ab

/-
  Fields of a name; how big a header is.
-/
namespace Go.Ab
set_option linter.unusedVariables false
set_option linter.unusedSimpArgs false
variable {st s : St} {e : Env}

abbrev Fld := List UInt8 × List UInt8
def fV (f : Fld) : PV := .agg [.str f.1, .str f.2]
/-! ### A field in a box -/
end Go.Ab

/-
  Names and values of fields; texts without blanks at their ends.
-/
namespace Go.Ab
set_option linter.unusedVariables false
set_option linter.unusedSimpArgs false
variable {st s : St} {e : Env}

/-! ### Blanks at the ends -/
end Go.Ab

/-
  Texts without blanks at their ends; values of fields.
-/
namespace Go.Ab
set_option linter.unusedVariables false
set_option linter.unusedSimpArgs false
variable {st s : St} {e : Env}

end Go.Ab

/-
  The document's trimming; values; small letters; fields of a name, by the document.
-/
namespace Go.Ab
set_option linter.unusedVariables false
set_option linter.unusedSimpArgs false
variable {st s : St} {e : Env}

end Go.Ab

/-
  Values of fields; small letters and fields of a name, by the document.
-/
namespace Go.Ab
set_option linter.unusedVariables false
set_option linter.unusedSimpArgs false
variable {st s : St} {e : Env}

theorem Grew.kept (h : Grew st s) : Kept st s := ⟨by rw [h.bx]; simp, h.lp, by rw [h.lw]; exact Nat.le_refl _, h.tk⟩
end Go.Ab

/-
  Addresses: plain.
-/
namespace Go.Ab
set_option linter.unusedVariables false
set_option linter.unusedSimpArgs false

abbrev Bs := List UInt8
/-- What holds of all bytes, looked at one by one. -/
theorem all8 {p : UInt8 → Bool} (h : (List.range 256).all (fun n => p (UInt8.ofNat n)) = true) (c : UInt8) : p c = true := by
  have := List.all_eq_true.1 h c.toNat (List.mem_range.2 c.toNat_lt)
  simpa using this

def alnC (c : UInt8) : Bool := (decide (97 ≤ c) && decide (c ≤ 122)) || (decide (65 ≤ c) && decide (c ≤ 90)) || (decide (48 ≤ c) && decide (c ≤ 57))
def signs : Bs := [33, 35, 36, 37, 38, 39, 42, 43, 45, 47, 61, 63, 94, 95, 123, 124, 125, 126, 96]
def atC (c : UInt8) : Bool := alnC c || signs.contains c
def labC (c : UInt8) : Bool := alnC c || decide (c = 45)
/-- Name, local part, domain. -/
abbrev Adr := Bs × Bs × Bs
/-! ### Parts -/
/-! ### Small letters -/
/-! ### Signs that stand in no address -/
theorem index_chr {k : UInt8} : ∀ (n r : Bs), (∀ c ∈ n, c ≠ k) → Lib.index (n ++ k :: r) [k] = n.length := by
  intro n
  induction n with
  | nil => intro r _; simp [Lib.index, List.isPrefixOf]
  | cons c n ih =>
    intro r h
    have hc : c ≠ k := h c (by simp)
    have := ih r (fun d hd => h d (by simp [hd]))
    rw [List.cons_append, Lib.index]
    have hp : ([k] : Bs).isPrefixOf (c :: (n ++ k :: r)) = false := by
      simp [List.isPrefixOf]; exact fun h => hc h.symm
    rw [hp, this]
    simp <;> omega
/-- The signs of an address's local part, and of its domain. -/
def locC (c : UInt8) : Prop := atC c = true ∨ c = 46
def domC (c : UInt8) : Prop := labC c = true ∨ c = 46
structure RightA (a : Adr) : Prop where
  lc : ∀ c ∈ a.2.1, locC c
  ln : a.2.1 ≠ []
  dc : ∀ c ∈ a.2.2, domC c
  dn : a.2.2 ≠ []
  nl : a.1.length ≤ 128
  ll : a.2.1.length ≤ 64
  dl : a.2.2.length ≤ 253
theorem chr_split (k : UInt8) : ∀ s : Bs, (k ∉ s ∧ Lib.index s [k] = -1) ∨ ∃ n r, s = n ++ k :: r ∧ ∀ c ∈ n, c ≠ k := by
  intro s
  by_cases h : k ∈ s
  · right
    induction s with
    | nil => cases h
    | cons c s ih =>
      by_cases hc : c = k
      · exact ⟨[], s, by simp [hc], fun c hc => (by cases hc)⟩
      · rcases List.mem_cons.1 h with h | h
        · exact absurd h.symm hc
        · obtain ⟨n, r, e1, e2⟩ := ih h
          refine ⟨c :: n, r, by simp [e1], fun d hd => ?_⟩
          rcases List.mem_cons.1 hd with rfl | hd
          · exact hc
          · exact e2 d hd
  · left
    refine ⟨h, ?_⟩
    have h1 := Lib.index_ge s [k]
    have h2 := index_one (l := s) (c := k)
    have h3 : ¬ 0 ≤ Lib.index s [k] := fun h0 => h (h2.1 h0)
    omega
end Go.Ab

/-
  Addresses are read as they were written: plain.
-/
namespace Go.Ab
set_option linter.unusedVariables false
set_option linter.unusedSimpArgs false

/-! ### Blanks at the ends -/
/-! ### Names between quotes -/
/-! ### A text of an address -/
/-! ### Lists -/
end Go.Ab

/-
  strings.Cut.
-/
namespace Go.Ab
set_option linter.unusedVariables false
set_option linter.unusedSimpArgs false
variable {st : St} {e : Env}

theorem index_room' : ∀ (a b : List UInt8), 0 ≤ Lib.index a b → Lib.index a b + b.length ≤ a.length := by
  intro a b
  induction a with
  | nil =>
    intro h
    cases b with
    | nil => simp [Lib.index]
    | cons c r => simp [Lib.index] at h
  | cons c r ih =>
    intro h
    by_cases hp : b.isPrefixOf (c :: r) = true
    · have := (List.isPrefixOf_iff_prefix.1 hp).length_le
      rw [Lib.index, if_pos hp]; omega
    · have hp2 : b.isPrefixOf (c :: r) = false := Bool.eq_false_iff.2 hp
      rw [Lib.index, hp2] at h ⊢
      by_cases hq : (Lib.index r b == -1) = true
      · rw [hq] at h; simp at h
      · have hq2 : (Lib.index r b == -1) = false := by simpa using hq
        rw [hq2] at h ⊢
        simp only [Bool.false_eq_true, if_false] at h ⊢
        have hge := Lib.index_ge r b
        have hne : Lib.index r b ≠ -1 := by simpa using hq2
        have := ih (by omega)
        simp only [List.length_cons]; omega
/-- strings.Cut. -/
def cutAt (a b : List UInt8) : PV := if 0 ≤ Lib.index a b then .tup [.str (a.take (Lib.index a b).toNat), .str (a.drop ((Lib.index a b).toNat + b.length)), .bool true] else .tup [.str a, .str [], .bool false]
theorem sCut_spec {a b : List UInt8} (h : a.length < 4294967281) (hb : b.length < 4294967281) : call prog (.fn 135 []) [.str a, .str b] st = some (cutAt a b, st) := by
  refine call_of_W prog_135 ?_
  unfold F_internal_stringslite_Cut; dsimp only
  have hroom := index_room' a b
  by_cases h0 : 0 ≤ Lib.index a b
  · have hr := hroom h0
    obtain ⟨k, hk⟩ : ∃ k : Nat, Lib.index a b = (k : Int) := ⟨(Lib.index a b).toNat, by omega⟩
    rw [hk] at hr
    have hadd : ∀ ek, binPV .add ek (.int .i64 (k : Int)) (.int .i64 (b.length : Int)) = some (.int .i64 ((k + b.length : Nat) : Int)) := fun ek => by
      rw [add_i (by omega) (by omega)]; simp
    have e1 : (0 : Int) ≤ (k : Int) := by omega
    simp (maxSteps := 1000000) (disch := omega) only [strIndex_spec h, hk, e1, len_s, hadd, slc_s_lo, slc_s_hi, W_seq, W_region, W_cond, W_block, W_skip, W_label, W_exit, W_goto, W_ret, WO_cons, WO_consG, WO_nil, wantedA_eq, wantB, evOp, ev_tmp, ev_const, ev_fn, WN_some, WN_none, updO_some, updO_none, upd_eq,
 ↓reduceIte, Nat.reduceEqDiff, List.nil_append, List.cons_append, List.append_nil, List.map_cons, List.map_nil, env0_zero, env0_succ, env0_nil, Option.map_some, Option.map_none, seqQ_normal, seqQ_ret, seqQ_exit, seqQ_goto, blockQ_normal, blockQ_ret, blockQ_exit, blockQ_goto, condW_bool, loopQ_ret, loopQ_exit, loopQ_goto, endQ_ret, endQ_normal, keep_mk, keep_st,
 lss_i, leq_i, gtr_i, geq_i, eql_i, neq_i, eql_8, neq_8, lss_8, leq_8, gtr_8, geq_8, eql_s, neq_s, eql_b, neq_b, not_b, by_bys, by_nils, load_cp1, beq_true, beq_false, Bool.not_eq_true', decide_eq_true_eq, decide_eq_false_iff_not, decide_true, decide_false,
 Int.toNat_natCast, Int.ofNat_lt, Int.ofNat_le, Int.natCast_inj, Bool.false_eq_true, Bool.true_eq_false, extPV, List.getElem?_cons_zero, List.getElem?_cons_succ, nilckPV, Int.reduceToNat, Int.reduceLE, true_and, and_true, reduceCtorEq, or_false, false_or, or_true, Option.some.injEq, exists_eq_left', Bool.not_true, Bool.not_false, ne_eq, Int.reduceEq, not_true_eq_false, not_false_eq_true, Int.reduceLT, UInt8.reduceLT, UInt8.reduceLE, UInt8.reduceToNat]
    rw [show cutAt a b = .tup [.str (a.take k), .str (a.drop (k + b.length)), .bool true] by simp [cutAt, hk]]
    exact end3 rfl rfl rfl Kp_str Kp_str Kp_bool
  · simp (maxSteps := 1000000) (disch := omega) only [strIndex_spec h, h0, W_seq, W_region, W_cond, W_block, W_skip, W_label, W_exit, W_goto, W_ret, WO_cons, WO_consG, WO_nil, wantedA_eq, wantB, evOp, ev_tmp, ev_const, ev_fn, WN_some, WN_none, updO_some, updO_none, upd_eq,
 ↓reduceIte, Nat.reduceEqDiff, List.nil_append, List.cons_append, List.append_nil, List.map_cons, List.map_nil, env0_zero, env0_succ, env0_nil, Option.map_some, Option.map_none, seqQ_normal, seqQ_ret, seqQ_exit, seqQ_goto, blockQ_normal, blockQ_ret, blockQ_exit, blockQ_goto, condW_bool, loopQ_ret, loopQ_exit, loopQ_goto, endQ_ret, endQ_normal, keep_mk, keep_st,
 lss_i, leq_i, gtr_i, geq_i, eql_i, neq_i, eql_8, neq_8, lss_8, leq_8, gtr_8, geq_8, eql_s, neq_s, eql_b, neq_b, not_b, by_bys, by_nils, load_cp1, beq_true, beq_false, Bool.not_eq_true', decide_eq_true_eq, decide_eq_false_iff_not, decide_true, decide_false,
 Int.toNat_natCast, Int.ofNat_lt, Int.ofNat_le, Int.natCast_inj, Bool.false_eq_true, Bool.true_eq_false, extPV, List.getElem?_cons_zero, List.getElem?_cons_succ, nilckPV, Int.reduceToNat, Int.reduceLE, true_and, and_true, reduceCtorEq, or_false, false_or, or_true, Option.some.injEq, exists_eq_left', Bool.not_true, Bool.not_false, ne_eq, Int.reduceEq, not_true_eq_false, not_false_eq_true, Int.reduceLT, UInt8.reduceLT, UInt8.reduceLE, UInt8.reduceToNat]
    rw [show cutAt a b = .tup [.str a, .str [], .bool false] by simp [cutAt, h0]]
    exact end3 rfl rfl rfl Kp_str Kp_str Kp_bool
theorem Cut_spec {a b : List UInt8} (h : a.length < 4294967281) (hb : b.length < 4294967281) : call prog (.fn 128 []) [.str a, .str b] st = some (cutAt a b, st) := by
  refine call_of_W prog_128 ?_
  unfold F_strings_Cut; dsimp only
  by_cases h0 : 0 ≤ Lib.index a b
  · have hc : cutAt a b = .tup [.str (a.take (Lib.index a b).toNat), .str (a.drop ((Lib.index a b).toNat + b.length)), .bool true] := by simp [cutAt, h0]
    simp (maxSteps := 1000000) (disch := omega) only [sCut_spec h hb, hc, W_seq, W_region, W_cond, W_block, W_skip, W_label, W_exit, W_goto, W_ret, WO_cons, WO_consG, WO_nil, wantedA_eq, wantB, evOp, ev_tmp, ev_const, ev_fn, WN_some, WN_none, updO_some, updO_none, upd_eq,
 ↓reduceIte, Nat.reduceEqDiff, List.nil_append, List.cons_append, List.append_nil, List.map_cons, List.map_nil, env0_zero, env0_succ, env0_nil, Option.map_some, Option.map_none, seqQ_normal, seqQ_ret, seqQ_exit, seqQ_goto, blockQ_normal, blockQ_ret, blockQ_exit, blockQ_goto, condW_bool, loopQ_ret, loopQ_exit, loopQ_goto, endQ_ret, endQ_normal, keep_mk, keep_st,
 lss_i, leq_i, gtr_i, geq_i, eql_i, neq_i, eql_8, neq_8, lss_8, leq_8, gtr_8, geq_8, eql_s, neq_s, eql_b, neq_b, not_b, by_bys, by_nils, load_cp1, beq_true, beq_false, Bool.not_eq_true', decide_eq_true_eq, decide_eq_false_iff_not, decide_true, decide_false,
 Int.toNat_natCast, Int.ofNat_lt, Int.ofNat_le, Int.natCast_inj, Bool.false_eq_true, Bool.true_eq_false, extPV, List.getElem?_cons_zero, List.getElem?_cons_succ, nilckPV, Int.reduceToNat, Int.reduceLE, true_and, and_true, reduceCtorEq, or_false, false_or, or_true, Option.some.injEq, exists_eq_left', Bool.not_true, Bool.not_false, ne_eq, Int.reduceEq, not_true_eq_false, not_false_eq_true, Int.reduceLT, UInt8.reduceLT, UInt8.reduceLE, UInt8.reduceToNat]
    exact end3 rfl rfl rfl Kp_str Kp_str Kp_bool
  · have hc : cutAt a b = .tup [.str a, .str [], .bool false] := by simp [cutAt, h0]
    simp (maxSteps := 1000000) (disch := omega) only [sCut_spec h hb, hc, W_seq, W_region, W_cond, W_block, W_skip, W_label, W_exit, W_goto, W_ret, WO_cons, WO_consG, WO_nil, wantedA_eq, wantB, evOp, ev_tmp, ev_const, ev_fn, WN_some, WN_none, updO_some, updO_none, upd_eq,
 ↓reduceIte, Nat.reduceEqDiff, List.nil_append, List.cons_append, List.append_nil, List.map_cons, List.map_nil, env0_zero, env0_succ, env0_nil, Option.map_some, Option.map_none, seqQ_normal, seqQ_ret, seqQ_exit, seqQ_goto, blockQ_normal, blockQ_ret, blockQ_exit, blockQ_goto, condW_bool, loopQ_ret, loopQ_exit, loopQ_goto, endQ_ret, endQ_normal, keep_mk, keep_st,
 lss_i, leq_i, gtr_i, geq_i, eql_i, neq_i, eql_8, neq_8, lss_8, leq_8, gtr_8, geq_8, eql_s, neq_s, eql_b, neq_b, not_b, by_bys, by_nils, load_cp1, beq_true, beq_false, Bool.not_eq_true', decide_eq_true_eq, decide_eq_false_iff_not, decide_true, decide_false,
 Int.toNat_natCast, Int.ofNat_lt, Int.ofNat_le, Int.natCast_inj, Bool.false_eq_true, Bool.true_eq_false, extPV, List.getElem?_cons_zero, List.getElem?_cons_succ, nilckPV, Int.reduceToNat, Int.reduceLE, true_and, and_true, reduceCtorEq, or_false, false_or, or_true, Option.some.injEq, exists_eq_left', Bool.not_true, Bool.not_false, ne_eq, Int.reduceEq, not_true_eq_false, not_false_eq_true, Int.reduceLT, UInt8.reduceLT, UInt8.reduceLE, UInt8.reduceToNat]
    exact end3 rfl rfl rfl Kp_str Kp_str Kp_bool

end Go.Ab

/-
  Rules that part the ways of a run: each way under what it was taken for.
-/
namespace Go.Ab
set_option linter.unusedVariables false
set_option linter.unusedSimpArgs false
variable {A : AP} {st : St} {e : Env}

end Go.Ab

/-
  Signs, atoms, labels, names; parts of a text.
-/
namespace Go.Ab
set_option linter.unusedVariables false
set_option linter.unusedSimpArgs false
variable {st s : St} {e : Env}

theorem ret1 {a : Nat} {v : PV} (ha : e a = v) (hnt : notTup v = true) (hk : Kept st s) (hf : Flat v) : ∃ rv, resOf e s [.tmp a] = some rv ∧ leave st s rv = (v, st) :=
  ⟨v, by simp [resOf, rvAll, rv1, ha, hnt, packRes], hk.leave' hf⟩
theorem retB {a : Nat} {b c : Bool} (ha : e a = .bool b) (hk : Kept st s) (hb : b = c) : ∃ rv, resOf e s [.tmp a] = some rv ∧ leave st s rv = (.bool c, st) := by
  subst hb; exact ret1 ha rfl hk ⟨fun _ => rfl, fun _ _ => rfl⟩
theorem retS {a : Nat} {b c : List UInt8} (ha : e a = .str b) (hk : Kept st s) (hb : b = c) : ∃ rv, resOf e s [.tmp a] = some rv ∧ leave st s rv = (.str c, st) := by
  subst hb; exact ret1 ha rfl hk ⟨fun _ => rfl, fun _ _ => rfl⟩
theorem retI {a : Nat} {k : IntKind} {b c : Int} (ha : e a = .int k b) (hk : Kept st s) (hb : b = c) : ∃ rv, resOf e s [.tmp a] = some rv ∧ leave st s rv = (.int k c, st) := by
  subst hb; exact ret1 ha rfl hk ⟨fun _ => rfl, fun _ _ => rfl⟩

end Go.Ab

/-
  The calendar: plain.
-/
namespace Go.Ab
set_option linter.unusedVariables false
set_option linter.unusedSimpArgs false
set_option maxRecDepth 20000

/-- Is a year a leap year? -/
def lpY (y : Nat) : Bool := (y % 4 == 0 && y % 100 != 0) || y % 400 == 0
/-- How many days a year has. -/
def ydY (y : Nat) : Nat := if lpY y then 366 else 365
/-- How many days lie ahead of a year, from 1970 on. -/
def befY (y : Nat) : Nat := 365 * (y - 1970) + (y - 1) / 4 + (y - 1) / 400 - ((y - 1) / 100 + 477)
/-- How many days a month has. -/
def mdY (y m : Nat) : Nat := if m = 2 then (if lpY y then 29 else 28) else if m = 4 ∨ m = 6 ∨ m = 9 ∨ m = 11 then 30 else 31
/-- How many days of the year lie ahead of a month. -/
def cumY (y : Nat) : Nat → Nat
  | 0 => 0
  | m + 1 => cumY y m + if m = 0 then 0 else mdY y m

theorem lp_cases (y : Nat) : (lpY y = true ∧ (y % 4 = 0 ∧ y % 100 ≠ 0 ∨ y % 400 = 0)) ∨ (lpY y = false ∧ ¬ (y % 4 = 0 ∧ y % 100 ≠ 0 ∨ y % 400 = 0)) := by
  by_cases h1 : y % 4 = 0 <;> by_cases h2 : y % 100 = 0 <;> by_cases h3 : y % 400 = 0 <;> simp [lpY, h1, h2, h3]

theorem bef_1 (k : Nat) : befY (1970 + k) = 365 * k + (1969 + k) / 4 + (1969 + k) / 400 - ((1969 + k) / 100 + 477) := by
  unfold befY
  rw [show 1970 + k - 1970 = k by omega, show 1970 + k - 1 = 1969 + k by omega]
theorem bef_2 (k : Nat) : befY (1970 + k + 1) = 365 * (k + 1) + (1970 + k) / 4 + (1970 + k) / 400 - ((1970 + k) / 100 + 477) := by
  unfold befY
  rw [show 1970 + k + 1 - 1970 = k + 1 by omega, show 1970 + k + 1 - 1 = 1970 + k by omega]
theorem bef_succ {y : Nat} (h : 1970 ≤ y) : befY (y + 1) = befY y + ydY y := by
  obtain ⟨k, rfl⟩ : ∃ k, y = 1970 + k := ⟨y - 1970, by omega⟩
  by_cases hk : k = 0
  · subst hk; decide
  rw [bef_1, bef_2]
  rcases lp_cases (1970 + k) with ⟨h1, h2⟩ | ⟨h1, h2⟩
  · rw [show ydY (1970 + k) = 366 by unfold ydY; rw [h1]; rfl]; omega
  · rw [show ydY (1970 + k) = 365 by unfold ydY; rw [h1]; rfl]; omega

theorem yd_bound (y : Nat) : 365 ≤ ydY y ∧ ydY y ≤ 366 := by
  rcases lp_cases y with ⟨h1, h2⟩ | ⟨h1, h2⟩ <;> simp [ydY, h1]

theorem bef_mono {a : Nat} (ha : 1970 ≤ a) : ∀ {b : Nat}, a ≤ b → befY a ≤ befY b := by
  intro b h
  induction b with
  | zero => omega
  | succ b ih =>
    by_cases hb : a = b + 1
    · subst hb; exact Nat.le_refl _
    · have := ih (by omega)
      have h2 := bef_succ (y := b) (by omega)
      omega

theorem md_bound (y m : Nat) : 28 ≤ mdY y m ∧ mdY y m ≤ 31 := by
  unfold mdY; split
  · split <;> omega
  · split <;> omega

theorem cum_succ (y : Nat) {m : Nat} (h : m ≠ 0) : cumY y (m + 1) = cumY y m + mdY y m := by simp [cumY, h]
theorem cum_13 (y : Nat) : cumY y 13 = ydY y := by
  rcases lp_cases y with ⟨h1, h2⟩ | ⟨h1, h2⟩ <;> simp [cumY, mdY, ydY, h1]
theorem cum_1 (y : Nat) : cumY y 1 = 0 := rfl
theorem cum_mono (y : Nat) {a : Nat} : ∀ {b : Nat}, a ≤ b → cumY y a ≤ cumY y b := by
  intro b h
  induction b with
  | zero => have : a = 0 := by omega
            subst this; exact Nat.le_refl _
  | succ b ih =>
    by_cases hb : a = b + 1
    · subst hb; exact Nat.le_refl _
    · have := ih (by omega)
      simp only [cumY]; omega

/-- The day n is the day d of the month m of the year y. -/
structure Ci (n y m d : Nat) : Prop where
  y1 : 1970 ≤ y
  y2 : y ≤ 9999
  m1 : 1 ≤ m
  m2 : m ≤ 12
  d1 : 1 ≤ d
  d2 : d ≤ mdY y m
  eq : n + 1 = befY y + cumY y m + d

theorem Ci.yr {n y m d : Nat} (h : Ci n y m d) : befY y ≤ n ∧ n < befY (y + 1) := by
  have h1 := bef_succ h.y1
  have h2 := cum_succ y (m := m) (by have := h.m1; omega)
  have h3 := cum_mono y (a := m + 1) (b := 13) (by have := h.m2; omega)
  have h4 := cum_13 y
  have := h.d1; have := h.d2; have := h.eq
  omega

theorem Ci.uniq {n y m d y' m' d' : Nat} (h : Ci n y m d) (k : Ci n y' m' d') : y = y' ∧ m = m' ∧ d = d' := by
  have a := h.yr
  have b := k.yr
  have hy : y = y' := by
    rcases Nat.lt_trichotomy y y' with h1 | h1 | h1
    · have := bef_mono (a := y + 1) (b := y') (by have := h.y1; omega) (by omega); omega
    · exact h1
    · have := bef_mono (a := y' + 1) (b := y) (by have := k.y1; omega) (by omega); omega
  subst hy
  have hm : m = m' := by
    have e1 := h.eq; have e2 := k.eq; have := h.d1; have := h.d2; have := k.d1; have := k.d2; have := h.m1; have := k.m1
    rcases Nat.lt_trichotomy m m' with h1 | h1 | h1
    · have := cum_mono y (a := m + 1) (b := m') (by omega)
      have := cum_succ y (m := m) (by omega); omega
    · exact h1
    · have := cum_mono y (a := m' + 1) (b := m) (by omega)
      have := cum_succ y (m := m') (by omega); omega
  subst hm
  have e1 := h.eq; have e2 := k.eq
  exact ⟨rfl, rfl, by omega⟩

theorem bef_1970 : befY 1970 = 0 := by decide
theorem bef_10000 : befY 10000 = 2932897 := by decide

/-- There is such a day. -/
theorem ci_ex {n : Nat} (hn : n ≤ 2932896) : ∃ y m d, Ci n y m d := by
  have hy : ∃ y, 1970 ≤ y ∧ y ≤ 9999 ∧ befY y ≤ n ∧ n < befY (y + 1) := by
    have : ∀ k, k ≤ 8030 → befY (1970 + k) ≤ n ∨ ∃ y, 1970 ≤ y ∧ y ≤ 9999 ∧ befY y ≤ n ∧ n < befY (y + 1) := by
      intro k
      induction k with
      | zero => intro _; left; rw [show 1970 + 0 = 1970 from rfl, bef_1970]; omega
      | succ k ih =>
        intro hk
        rcases ih (by omega) with h | h
        · by_cases hc : befY (1970 + (k + 1)) ≤ n
          · exact .inl hc
          · exact .inr ⟨1970 + k, by omega, by omega, h, by rw [show 1970 + k + 1 = 1970 + (k + 1) from rfl]; omega⟩
        · exact .inr h
    rcases this 8030 (by omega) with h | h
    · rw [show 1970 + 8030 = 10000 from rfl, bef_10000] at h; omega
    · exact h
  obtain ⟨y, h1, h2, h3, h4⟩ := hy
  have hm : ∃ m, 1 ≤ m ∧ m ≤ 12 ∧ cumY y m ≤ n - befY y ∧ n - befY y < cumY y (m + 1) := by
    have : ∀ k, k ≤ 12 → cumY y (1 + k) ≤ n - befY y ∨ ∃ m, 1 ≤ m ∧ m ≤ 12 ∧ cumY y m ≤ n - befY y ∧ n - befY y < cumY y (m + 1) := by
      intro k
      induction k with
      | zero => intro _; left; rw [show 1 + 0 = 1 from rfl, cum_1]; omega
      | succ k ih =>
        intro hk
        rcases ih (by omega) with h | h
        · by_cases hc : cumY y (1 + (k + 1)) ≤ n - befY y
          · exact .inl hc
          · exact .inr ⟨1 + k, by omega, by omega, h, by rw [show 1 + k + 1 = 1 + (k + 1) from rfl]; omega⟩
        · exact .inr h
    rcases this 12 (by omega) with h | h
    · have := cum_13 y; have := bef_succ h1
      rw [show 1 + 12 = 13 from rfl] at h; omega
    · exact h
  obtain ⟨m, h5, h6, h7, h8⟩ := hm
  have := cum_succ y (m := m) (by omega)
  exact ⟨y, m, n - befY y - cumY y m + 1, h1, h2, h5, h6, by omega, by omega, by omega⟩

theorem ci_le {n y m d : Nat} (h : Ci n y m d) : n ≤ 2932896 := by
  have := h.yr
  have := bef_mono (a := y + 1) (b := 10000) (by have := h.y1; omega) (by have := h.y2; omega)
  have := bef_10000; omega

end Go.Ab

/-
  Ids: plain.
-/
namespace Go.Ab
set_option linter.unusedVariables false
set_option linter.unusedSimpArgs false

end Go.Ab

/-
  What may be an address; its normal form; an address without a name.
-/
namespace Go.Ab
set_option linter.unusedVariables false
set_option linter.unusedSimpArgs false
variable {st s : St} {e : Env}

theorem split_len {sep : UInt8} : ∀ (l acc : Bs), ∀ x ∈ splitOn sep acc l, x.length ≤ acc.length + l.length := by
  intro l
  induction l with
  | nil => intro acc x hx; simp [splitOn] at hx; subst hx; simp
  | cons d r ih =>
    intro acc x hx
    simp only [splitOn] at hx
    split at hx
    · rcases List.mem_cons.1 hx with rfl | hx
      · simp
      · have := ih [] x hx; simp at this ⊢; omega
    · have := ih (acc ++ [d]) x hx; simp at this ⊢; omega
theorem Split_spec {l : Bs} {c : UInt8} (hl : l.length ≤ 100000000) : call prog (.fn 133 []) [.str l, .str [c]] st = some (.sl 1 .no ((splitOn c [] l).map .str), st) := by
  rw [call_prim prog_133]
  simp [pStrSplit]
  omega
theorem iaddr_t {x : PV} {xs : List Bs} {k : IntKind} {c : Int} (h : x.vs 1 = some (xs.map .str)) (h1 : 0 ≤ c) (h2 : c.toNat < xs.length) : iaddrPV 1 x (.int k c) = some (.cp [.str (xs.getD c.toNat [])]) := by
  rw [iaddr_vs h h1 (by simpa using h2)]
  simp [List.getD, h2, PV.cells]
/-! ### Three texts in a box -/
variable {B : List (List PV)} {T : List Bool} {L : List LoopS} {lo : Nat} {a b c : Bs}
structure okA (a : Adr) : Prop where
  n : a.1.length ≤ 100000000
  l : a.2.1.length ≤ 100000000
  d : a.2.2.length ≤ 100000000

end Go.Ab

/-
  Layer 20: what must come of fixed calls; weekdays.
-/
namespace Go.Ab
set_option linter.unusedVariables false
set_option linter.unusedSimpArgs false
set_option maxRecDepth 20000
variable {st s : St} {e : Env}

theorem al20_0 : evV prog 400 (.fn 260 []) [] ⟨[], [], [], 0⟩ = some (.bool true, ⟨[], [], [], 0⟩) := by kernel_rfl

theorem retV2 {a b : Nat} {v w : PV} (ha : e a = v) (hb : e b = w) (h1 : notTup v = true) (h2 : notTup w = true) (hk : Kept st s) (hf : Flat (.tup [v, w])) : ∃ rv, resOf e s [.tmp a, .tmp b] = some rv ∧ leave st s rv = (.tup [v, w], st) :=
  ⟨.tup [v, w], by simp [resOf, rvAll, rv1, ha, hb, h1, h2, packRes], hk.leave' hf⟩
theorem retII {a b : Nat} {k l : IntKind} {t u : Int} {n m : Int} (ha : e a = .int k t) (hb : e b = .int l n) (hk : Kept st s) (h1 : t = u) (h2 : n = m) : ∃ rv, resOf e s [.tmp a, .tmp b] = some rv ∧ leave st s rv = (.tup [.int k u, .int l m], st) := by
  subst h1 h2; exact retV2 ha hb rfl rfl hk ⟨fun _ => rfl, fun _ _ => rfl⟩
theorem retTI {a b : Nat} {t u : Bs} {n m : Int} (ha : e a = .str t) (hb : e b = .int .i64 n) (hk : Kept st s) (h1 : t = u) (h2 : n = m) : ∃ rv, resOf e s [.tmp a, .tmp b] = some rv ∧ leave st s rv = (.tup [.str u, .int .i64 m], st) := by
  subst h1 h2; exact retV2 ha hb rfl rfl hk ⟨fun _ => rfl, fun _ _ => rfl⟩

/-- A day's weekday. -/
def wkOf (d : Int) : Int × Int := if d < 0 ∨ 2932896 < d then (0, 110) else ((d + 3) % 7, 0)
theorem rem_i {k : IntKind} {ek : EK} {a : Int} {c : Int} (h : c ≠ 0) : binPV .rem ek (.int k a) (.int k c) = some (.int k (a.tmod c)) := by simp [binPV, binI, h]
theorem quo_i {ek : EK} {a : Int} {c : Int} (h : 0 < c) (h1 : -9223372036854775808 < a) (h2 : a < 9223372036854775808) : binPV .quo ek (.int .i64 a) (.int .i64 c) = some (.int .i64 (a.tdiv c)) := by
  have h3 : c ≠ 0 := by omega
  simp only [binPV, binI, reduceIte, h3, Option.some.injEq]
  have : (a.tdiv c).natAbs ≤ a.natAbs := by rw [Int.natAbs_tdiv]; exact Nat.div_le_self _ _
  rw [wrap64 (by omega) (by omega)]

theorem Weekday_spec {d : Int} : call prog (.fn 258 []) [.int .i64 d] st = some (.tup [.int .i64 (wkOf d).1, .int .i64 (wkOf d).2], st) := by
  refine call_of_W prog_258 ?_
  unfold F_date_Weekday; dsimp only
  by_cases h : d < 0 ∨ 2932896 < d
  · have e1 : wkOf d = (0, 110) := by simp [wkOf, h]
    rw [e1]
    by_cases h1 : d < 0
    · simp (maxSteps := 1000000) (disch := omega) only [h1, W_seq, W_region, W_cond, W_block, W_skip, W_label, W_exit, W_goto, W_ret, WO_cons, WO_consG, WO_nil, wantedA_eq, wantB, evOp, ev_tmp, ev_const, ev_fn, WN_some, WN_none, updO_some, updO_none, upd_eq,
 ↓reduceIte, Nat.reduceEqDiff, List.nil_append, List.cons_append, List.append_nil, List.map_cons, List.map_nil, env0_zero, env0_succ, env0_nil, Option.map_some, Option.map_none, seqQ_normal, seqQ_ret, seqQ_exit, seqQ_goto, blockQ_normal, blockQ_ret, blockQ_exit, blockQ_goto, condW_bool, loopQ_ret, loopQ_exit, loopQ_goto, endQ_ret, endQ_normal, keep_mk, keep_st,
 lss_i, leq_i, gtr_i, geq_i, eql_i, neq_i, eql_8, neq_8, lss_8, leq_8, gtr_8, geq_8, eql_s, neq_s, eql_b, neq_b, not_b, by_bys, by_nils, load_cp1, beq_true, beq_false, Bool.not_eq_true', decide_eq_true_eq, decide_eq_false_iff_not, decide_true, decide_false,
 Int.toNat_natCast, Int.ofNat_lt, Int.ofNat_le, Int.natCast_inj, Bool.false_eq_true, Bool.true_eq_false, extPV, List.getElem?_cons_zero, List.getElem?_cons_succ, nilckPV, Int.reduceToNat, Int.reduceLE, true_and, and_true, reduceCtorEq, or_false, false_or, or_true, Option.some.injEq, exists_eq_left', Bool.not_true, Bool.not_false, ne_eq, Int.reduceEq, not_true_eq_false, not_false_eq_true, Int.reduceLT, UInt8.reduceLT, UInt8.reduceLE, UInt8.reduceToNat]
      exact retII rfl rfl Kept.start rfl rfl
    · have h2 : 2932896 < d := by omega
      simp (maxSteps := 1000000) (disch := omega) only [h1, h2, W_seq, W_region, W_cond, W_block, W_skip, W_label, W_exit, W_goto, W_ret, WO_cons, WO_consG, WO_nil, wantedA_eq, wantB, evOp, ev_tmp, ev_const, ev_fn, WN_some, WN_none, updO_some, updO_none, upd_eq,
 ↓reduceIte, Nat.reduceEqDiff, List.nil_append, List.cons_append, List.append_nil, List.map_cons, List.map_nil, env0_zero, env0_succ, env0_nil, Option.map_some, Option.map_none, seqQ_normal, seqQ_ret, seqQ_exit, seqQ_goto, blockQ_normal, blockQ_ret, blockQ_exit, blockQ_goto, condW_bool, loopQ_ret, loopQ_exit, loopQ_goto, endQ_ret, endQ_normal, keep_mk, keep_st,
 lss_i, leq_i, gtr_i, geq_i, eql_i, neq_i, eql_8, neq_8, lss_8, leq_8, gtr_8, geq_8, eql_s, neq_s, eql_b, neq_b, not_b, by_bys, by_nils, load_cp1, beq_true, beq_false, Bool.not_eq_true', decide_eq_true_eq, decide_eq_false_iff_not, decide_true, decide_false,
 Int.toNat_natCast, Int.ofNat_lt, Int.ofNat_le, Int.natCast_inj, Bool.false_eq_true, Bool.true_eq_false, extPV, List.getElem?_cons_zero, List.getElem?_cons_succ, nilckPV, Int.reduceToNat, Int.reduceLE, true_and, and_true, reduceCtorEq, or_false, false_or, or_true, Option.some.injEq, exists_eq_left', Bool.not_true, Bool.not_false, ne_eq, Int.reduceEq, not_true_eq_false, not_false_eq_true, Int.reduceLT, UInt8.reduceLT, UInt8.reduceLE, UInt8.reduceToNat]
      exact retII rfl rfl Kept.start rfl rfl
  · have e1 : wkOf d = ((d + 3) % 7, 0) := by simp [wkOf, h]
    rw [e1]
    have h1 : ¬ d < 0 := by omega
    have h2 : ¬ 2932896 < d := by omega
    simp (maxSteps := 1000000) (disch := omega) only [h1, h2, add_i, rem_i, Int.tmod_eq_emod_of_nonneg (show 0 ≤ d + 3 by omega), W_seq, W_region, W_cond, W_block, W_skip, W_label, W_exit, W_goto, W_ret, WO_cons, WO_consG, WO_nil, wantedA_eq, wantB, evOp, ev_tmp, ev_const, ev_fn, WN_some, WN_none, updO_some, updO_none, upd_eq,
 ↓reduceIte, Nat.reduceEqDiff, List.nil_append, List.cons_append, List.append_nil, List.map_cons, List.map_nil, env0_zero, env0_succ, env0_nil, Option.map_some, Option.map_none, seqQ_normal, seqQ_ret, seqQ_exit, seqQ_goto, blockQ_normal, blockQ_ret, blockQ_exit, blockQ_goto, condW_bool, loopQ_ret, loopQ_exit, loopQ_goto, endQ_ret, endQ_normal, keep_mk, keep_st,
 lss_i, leq_i, gtr_i, geq_i, eql_i, neq_i, eql_8, neq_8, lss_8, leq_8, gtr_8, geq_8, eql_s, neq_s, eql_b, neq_b, not_b, by_bys, by_nils, load_cp1, beq_true, beq_false, Bool.not_eq_true', decide_eq_true_eq, decide_eq_false_iff_not, decide_true, decide_false,
 Int.toNat_natCast, Int.ofNat_lt, Int.ofNat_le, Int.natCast_inj, Bool.false_eq_true, Bool.true_eq_false, extPV, List.getElem?_cons_zero, List.getElem?_cons_succ, nilckPV, Int.reduceToNat, Int.reduceLE, true_and, and_true, reduceCtorEq, or_false, false_or, or_true, Option.some.injEq, exists_eq_left', Bool.not_true, Bool.not_false, ne_eq, Int.reduceEq, not_true_eq_false, not_false_eq_true, Int.reduceLT, UInt8.reduceLT, UInt8.reduceLE, UInt8.reduceToNat]
    exact retII rfl rfl Kept.start rfl rfl

end Go.Ab

/-
  Ids are written.
-/
namespace Go.Ab
set_option linter.unusedVariables false
set_option linter.unusedSimpArgs false
set_option maxRecDepth 20000
variable {st s : St} {e : Env}

theorem Right_w {t : Int} : call prog (.fn 199 []) [.int .i64 t] st = some (.bool (decide (0 ≤ t ∧ t ≤ 253402300799)), st) := by
  refine call_of_W prog_199 ?_
  unfold F_when_Right; dsimp only
  by_cases h1 : 0 ≤ t
  · by_cases h2 : t ≤ 253402300799
    · simp (maxSteps := 1000000) (disch := omega) only [h1, h2, W_seq, W_region, W_cond, W_block, W_skip, W_label, W_exit, W_goto, W_ret, WO_cons, WO_consG, WO_nil, wantedA_eq, wantB, evOp, ev_tmp, ev_const, ev_fn, WN_some, WN_none, updO_some, updO_none, upd_eq,
 ↓reduceIte, Nat.reduceEqDiff, List.nil_append, List.cons_append, List.append_nil, List.map_cons, List.map_nil, env0_zero, env0_succ, env0_nil, Option.map_some, Option.map_none, seqQ_normal, seqQ_ret, seqQ_exit, seqQ_goto, blockQ_normal, blockQ_ret, blockQ_exit, blockQ_goto, condW_bool, loopQ_ret, loopQ_exit, loopQ_goto, endQ_ret, endQ_normal, keep_mk, keep_st,
 lss_i, leq_i, gtr_i, geq_i, eql_i, neq_i, eql_8, neq_8, lss_8, leq_8, gtr_8, geq_8, eql_s, neq_s, eql_b, neq_b, not_b, by_bys, by_nils, load_cp1, beq_true, beq_false, Bool.not_eq_true', decide_eq_true_eq, decide_eq_false_iff_not, decide_true, decide_false,
 Int.toNat_natCast, Int.ofNat_lt, Int.ofNat_le, Int.natCast_inj, Bool.false_eq_true, Bool.true_eq_false, extPV, List.getElem?_cons_zero, List.getElem?_cons_succ, nilckPV, Int.reduceToNat, Int.reduceLE, true_and, and_true, reduceCtorEq, or_false, false_or, or_true, Option.some.injEq, exists_eq_left', Bool.not_true, Bool.not_false, ne_eq, Int.reduceEq, not_true_eq_false, not_false_eq_true, Int.reduceLT, UInt8.reduceLT, UInt8.reduceLE, UInt8.reduceToNat]
      exact retB rfl Kept.start (by simp [h1, h2])
    · simp (maxSteps := 1000000) (disch := omega) only [h1, h2, W_seq, W_region, W_cond, W_block, W_skip, W_label, W_exit, W_goto, W_ret, WO_cons, WO_consG, WO_nil, wantedA_eq, wantB, evOp, ev_tmp, ev_const, ev_fn, WN_some, WN_none, updO_some, updO_none, upd_eq,
 ↓reduceIte, Nat.reduceEqDiff, List.nil_append, List.cons_append, List.append_nil, List.map_cons, List.map_nil, env0_zero, env0_succ, env0_nil, Option.map_some, Option.map_none, seqQ_normal, seqQ_ret, seqQ_exit, seqQ_goto, blockQ_normal, blockQ_ret, blockQ_exit, blockQ_goto, condW_bool, loopQ_ret, loopQ_exit, loopQ_goto, endQ_ret, endQ_normal, keep_mk, keep_st,
 lss_i, leq_i, gtr_i, geq_i, eql_i, neq_i, eql_8, neq_8, lss_8, leq_8, gtr_8, geq_8, eql_s, neq_s, eql_b, neq_b, not_b, by_bys, by_nils, load_cp1, beq_true, beq_false, Bool.not_eq_true', decide_eq_true_eq, decide_eq_false_iff_not, decide_true, decide_false,
 Int.toNat_natCast, Int.ofNat_lt, Int.ofNat_le, Int.natCast_inj, Bool.false_eq_true, Bool.true_eq_false, extPV, List.getElem?_cons_zero, List.getElem?_cons_succ, nilckPV, Int.reduceToNat, Int.reduceLE, true_and, and_true, reduceCtorEq, or_false, false_or, or_true, Option.some.injEq, exists_eq_left', Bool.not_true, Bool.not_false, ne_eq, Int.reduceEq, not_true_eq_false, not_false_eq_true, Int.reduceLT, UInt8.reduceLT, UInt8.reduceLE, UInt8.reduceToNat]
      exact retB rfl Kept.start (by simp [h1, h2])
  · simp (maxSteps := 1000000) (disch := omega) only [h1, W_seq, W_region, W_cond, W_block, W_skip, W_label, W_exit, W_goto, W_ret, WO_cons, WO_consG, WO_nil, wantedA_eq, wantB, evOp, ev_tmp, ev_const, ev_fn, WN_some, WN_none, updO_some, updO_none, upd_eq,
 ↓reduceIte, Nat.reduceEqDiff, List.nil_append, List.cons_append, List.append_nil, List.map_cons, List.map_nil, env0_zero, env0_succ, env0_nil, Option.map_some, Option.map_none, seqQ_normal, seqQ_ret, seqQ_exit, seqQ_goto, blockQ_normal, blockQ_ret, blockQ_exit, blockQ_goto, condW_bool, loopQ_ret, loopQ_exit, loopQ_goto, endQ_ret, endQ_normal, keep_mk, keep_st,
 lss_i, leq_i, gtr_i, geq_i, eql_i, neq_i, eql_8, neq_8, lss_8, leq_8, gtr_8, geq_8, eql_s, neq_s, eql_b, neq_b, not_b, by_bys, by_nils, load_cp1, beq_true, beq_false, Bool.not_eq_true', decide_eq_true_eq, decide_eq_false_iff_not, decide_true, decide_false,
 Int.toNat_natCast, Int.ofNat_lt, Int.ofNat_le, Int.natCast_inj, Bool.false_eq_true, Bool.true_eq_false, extPV, List.getElem?_cons_zero, List.getElem?_cons_succ, nilckPV, Int.reduceToNat, Int.reduceLE, true_and, and_true, reduceCtorEq, or_false, false_or, or_true, Option.some.injEq, exists_eq_left', Bool.not_true, Bool.not_false, ne_eq, Int.reduceEq, not_true_eq_false, not_false_eq_true, Int.reduceLT, UInt8.reduceLT, UInt8.reduceLE, UInt8.reduceToNat]
    exact retB rfl Kept.start (by simp [h1])

end Go.Ab

/-
  Dates: two digits, names, the calendar's walk (the program's).
-/
namespace Go.Ab
set_option linter.unusedVariables false
set_option linter.unusedSimpArgs false
set_option maxRecDepth 20000
variable {st s : St} {e : Env}

theorem quo_n {ek : EK} {a c : Nat} (hc : 0 < c) (h : a < 9223372036854775808) : binPV .quo ek (.int .i64 (a : Int)) (.int .i64 (c : Int)) = some (.int .i64 ((a / c : Nat) : Int)) := by
  rw [quo_i (by omega) (by omega) (by omega)]; rfl
theorem rem_n {ek : EK} {a c : Nat} (hc : 0 < c) : binPV .rem ek (.int .i64 (a : Int)) (.int .i64 (c : Int)) = some (.int .i64 ((a % c : Nat) : Int)) := by
  rw [rem_i (by omega)]; rfl
theorem mul_n {ek : EK} {a c : Nat} (h : c * a < 9223372036854775808) : binPV .mul ek (.int .i64 (c : Int)) (.int .i64 (a : Int)) = some (.int .i64 ((c * a : Nat) : Int)) := by
  have e : (c : Int) * (a : Int) = ((c * a : Nat) : Int) := by rw [Int.natCast_mul]
  simp only [binPV, binI, reduceIte, Option.some.injEq]
  rw [e, wrap64 (by omega) (by omega)]
theorem quo_10 {ek : EK} {a : Nat} (h : a < 9223372036854775808) : binPV .quo ek (.int .i64 (a : Int)) (.int .i64 10) = some (.int .i64 ((a / 10 : Nat) : Int)) := quo_n (c := 10) (by omega) h
theorem rem_10 {ek : EK} {a : Nat} : binPV .rem ek (.int .i64 (a : Int)) (.int .i64 10) = some (.int .i64 ((a % 10 : Nat) : Int)) := rem_n (c := 10) (by omega)
theorem cU8 {k : IntKind} {n : Nat} (h : n < 256) : cIntPV .u8 (.int k (n : Int)) = some (.b8 (UInt8.ofNat n)) := by
  simp only [cIntPV, Option.some.injEq]
  have : IntKind.u8.wrap (n : Int) = n := by
    unfold IntKind.wrap
    simp only [IntKind.signed, IntKind.bits]
    simp
    omega
  rw [this]; simp

/-- A number's last digit. -/
def dg (n : Nat) : UInt8 := UInt8.ofNat (48 + n % 10)
/-- .. its last two. -/
def twoT (n : Nat) : Bs := [dg (n / 10), dg n]

theorem two_spec {n : Nat} (h : n < 9223372036854775808) : call prog (.fn 276 []) [.int .i64 (n : Int)] st = some (.str (twoT n), st) := by
  refine call_of_W prog_276 ?_
  unfold F_date_two; dsimp only
  have hb : b2s false (St.tok1 ⟨st.boxes, st.toks, st.loops, st.boxes.length⟩) (.bys (.own st.toks.length) [UInt8.ofNat (48 + n / 10 % 10), UInt8.ofNat (48 + n % 10)]) = some [UInt8.ofNat (48 + n / 10 % 10), UInt8.ofNat (48 + n % 10)] := rfl
  simp (maxSteps := 1000000) (disch := omega) only [quo_10, rem_10, add_n', cU8, lit8_2, freshT_eq, hb, W_seq, W_region, W_cond, W_block, W_skip, W_label, W_exit, W_goto, W_ret, WO_cons, WO_consG, WO_nil, wantedA_eq, wantB, evOp, ev_tmp, ev_const, ev_fn, WN_some, WN_none, updO_some, updO_none, upd_eq,
 ↓reduceIte, Nat.reduceEqDiff, List.nil_append, List.cons_append, List.append_nil, List.map_cons, List.map_nil, env0_zero, env0_succ, env0_nil, Option.map_some, Option.map_none, seqQ_normal, seqQ_ret, seqQ_exit, seqQ_goto, blockQ_normal, blockQ_ret, blockQ_exit, blockQ_goto, condW_bool, loopQ_ret, loopQ_exit, loopQ_goto, endQ_ret, endQ_normal, keep_mk, keep_st,
 lss_i, leq_i, gtr_i, geq_i, eql_i, neq_i, eql_8, neq_8, lss_8, leq_8, gtr_8, geq_8, eql_s, neq_s, eql_b, neq_b, not_b, by_bys, by_nils, load_cp1, beq_true, beq_false, Bool.not_eq_true', decide_eq_true_eq, decide_eq_false_iff_not, decide_true, decide_false,
 Int.toNat_natCast, Int.ofNat_lt, Int.ofNat_le, Int.natCast_inj, Bool.false_eq_true, Bool.true_eq_false, extPV, List.getElem?_cons_zero, List.getElem?_cons_succ, nilckPV, Int.reduceToNat, Int.reduceLE, true_and, and_true, reduceCtorEq, or_false, false_or, or_true, Option.some.injEq, exists_eq_left', Bool.not_true, Bool.not_false, ne_eq, Int.reduceEq, not_true_eq_false, not_false_eq_true, Int.reduceLT, UInt8.reduceLT, UInt8.reduceLE, UInt8.reduceToNat]
  exact retS rfl Kept.start.tok1 rfl

def dayNames : List Bs := [[77, 111, 110], [84, 117, 101], [87, 101, 100], [84, 104, 117], [70, 114, 105], [83, 97, 116], [83, 117, 110]]
def dayT (n : Nat) : Bs := dayNames.getD n []
def monNames : List Bs := [[], [74, 97, 110], [70, 101, 98], [77, 97, 114], [65, 112, 114], [77, 97, 121], [74, 117, 110], [74, 117, 108], [65, 117, 103], [83, 101, 112], [79, 99, 116], [78, 111, 118], [68, 101, 99]]
def monT (n : Nat) : Bs := monNames.getD n []

/-- A value that leads nowhere. -/
def plainP : PV → Bool
  | .int _ _ | .str _ | .b8 _ | .bool _ => true
  | _ => false
theorem plainP_inB {n : Nat} : ∀ cs : List PV, cs.all plainP = true → PV.inB.inBAll n cs = true ∧ cs.all leafOk = true ∧ hasTok cs = false
  | [], _ => ⟨rfl, rfl, rfl⟩
  | c :: cs, h => by
    simp only [List.all_cons, Bool.and_eq_true] at h
    obtain ⟨a, b, d⟩ := plainP_inB (n := n) cs h.2
    simp only [hasTok] at d
    cases c <;> simp_all [plainP, PV.inB.inBAll, PV.inB, leafOk, hasTok, tokOf]
theorem setRow_all : ∀ (vs pre z : List PV), z.length = vs.length → setCells (pre ++ z) pre.length vs = pre ++ vs
  | [], pre, z, h => by
    have : z = [] := List.length_eq_zero_iff.1 h
    subst this; rfl
  | v :: vs, pre, z, h => by
    cases z with
    | nil => simp at h
    | cons y z =>
      rw [setCells, List.set_append_right _ _ (Nat.le_refl _), Nat.sub_self, List.set_cons_zero]
      have := setRow_all vs (pre ++ [v]) z (by simpa using h)
      simpa using this
/-- A row of plain values is put into a new box. -/
theorem st_all {B : List (List PV)} {T : List Bool} {L : List LoopS} {lo n : Nat} {cs z : List PV} (hn : n = cs.length) (hl : z.length = cs.length) (hf : cs.all plainP = true) :
    storePV ⟨B ++ [z], T, L, lo⟩ n (.ptr B.length 0) (.agg cs) = some ⟨B ++ [cs], T, L, lo⟩ := by
  subst hn
  obtain ⟨a, b, d⟩ := plainP_inB (n := B.length + 1) cs hf
  have hs := setRow_all cs [] z hl
  simp only [List.nil_append, List.length_nil] at hs
  simp [storePV, PV.cells, PV.inB, a, b, d, hs, hl]
theorem ld_at {B : List (List PV)} {T : List Bool} {L : List LoopS} {lo : Nat} {cs : List PV} {i : Nat} {v : PV} (h : cs[i]? = some v) : loadPV ⟨B ++ [cs], T, L, lo⟩ false 1 (.ptr B.length (0 + i * 1)) = some v := by
  have hi := (List.getElem?_eq_some_iff.1 h)
  simp only [loadPV]
  rw [List.getElem?_append_right (Nat.le_refl _), Nat.sub_self]
  simp only [List.getElem?_cons_zero, readCells, Bool.false_eq_true, if_false]
  obtain ⟨h1, h2⟩ := hi
  rw [show 0 + i * 1 = i by omega, List.drop_eq_getElem_cons h1]
  simp only [h2]
theorem iaA {len b : Nat} {n : Int} (h0 : 0 ≤ n) (h1 : n < (len : Int)) : iaddrAPV len 1 (.ptr b 0) (.int .i64 n) = some (.ptr b (0 + n.toNat * 1)) := by
  simp [iaddrAPV, intOf, h0, h1, faddrPV]

theorem dayName_spec {n : Nat} (h : n < 7) : call prog (.fn 277 []) [.int .i64 (n : Int)] st = some (.str (dayT n), st) := by
  refine call_of_W prog_277 ?_
  unfold F_date_dayName; dsimp only
  have hb : buildCells [.str [], .str [], .str [], .str [], .str [], .str [], .str []] [(0, 1, .str [77, 111, 110]), (1, 1, .str [84, 117, 101]), (2, 1, .str [87, 101, 100]), (3, 1, .str [84, 104, 117]), (4, 1, .str [70, 114, 105]), (5, 1, .str [83, 97, 116]), (6, 1, .str [83, 117, 110])] = some (dayNames.map .str) := by rfl
  have hst : storePV ⟨st.boxes ++ [[.str [], .str [], .str [], .str [], .str [], .str [], .str []]], st.toks, st.loops, st.boxes.length⟩ 7 (.ptr st.boxes.length 0) (.agg (dayNames.map .str)) = some ⟨st.boxes ++ [dayNames.map .str], st.toks, st.loops, st.boxes.length⟩ := st_all rfl rfl rfl
  have hld : loadPV ⟨st.boxes ++ [dayNames.map .str], st.toks, st.loops, st.boxes.length⟩ false 1 (.ptr st.boxes.length (0 + ((n : Int)).toNat * 1)) = some (.str (dayT n)) := ld_at (by
    simp only [Int.toNat_natCast, List.getElem?_map]
    have h7 : n < dayNames.length := h
    simp [dayT, List.getD, h7])
  have hia : iaddrAPV 7 1 (.ptr st.boxes.length 0) (.int .i64 (n : Int)) = some (.ptr st.boxes.length (0 + ((n : Int)).toNat * 1)) := iaA (by omega) (by omega)
  simp only [Int.toNat_natCast] at hld hia
  simp (maxSteps := 1000000) (disch := omega) only [hb, allocPV, hst, hia, hld, W_seq, W_region, W_cond, W_block, W_skip, W_label, W_exit, W_goto, W_ret, WO_cons, WO_consG, WO_nil, wantedA_eq, wantB, evOp, ev_tmp, ev_const, ev_fn, WN_some, WN_none, updO_some, updO_none, upd_eq,
 ↓reduceIte, Nat.reduceEqDiff, List.nil_append, List.cons_append, List.append_nil, List.map_cons, List.map_nil, env0_zero, env0_succ, env0_nil, Option.map_some, Option.map_none, seqQ_normal, seqQ_ret, seqQ_exit, seqQ_goto, blockQ_normal, blockQ_ret, blockQ_exit, blockQ_goto, condW_bool, loopQ_ret, loopQ_exit, loopQ_goto, endQ_ret, endQ_normal, keep_mk, keep_st,
 lss_i, leq_i, gtr_i, geq_i, eql_i, neq_i, eql_8, neq_8, lss_8, leq_8, gtr_8, geq_8, eql_s, neq_s, eql_b, neq_b, not_b, by_bys, by_nils, load_cp1, beq_true, beq_false, Bool.not_eq_true', decide_eq_true_eq, decide_eq_false_iff_not, decide_true, decide_false,
 Int.toNat_natCast, Int.ofNat_lt, Int.ofNat_le, Int.natCast_inj, Bool.false_eq_true, Bool.true_eq_false, extPV, List.getElem?_cons_zero, List.getElem?_cons_succ, nilckPV, Int.reduceToNat, Int.reduceLE, true_and, and_true, reduceCtorEq, or_false, false_or, or_true, Option.some.injEq, exists_eq_left', Bool.not_true, Bool.not_false, ne_eq, Int.reduceEq, not_true_eq_false, not_false_eq_true, Int.reduceLT, UInt8.reduceLT, UInt8.reduceLE, UInt8.reduceToNat]
  exact retS rfl Kept.start.alloc rfl
theorem monthName_spec {n : Nat} (h : n < 13) : call prog (.fn 278 []) [.int .i64 (n : Int)] st = some (.str (monT n), st) := by
  refine call_of_W prog_278 ?_
  unfold F_date_monthName; dsimp only
  have hb : buildCells [.str [], .str [], .str [], .str [], .str [], .str [], .str [], .str [], .str [], .str [], .str [], .str [], .str []] [(0, 1, .str []), (1, 1, .str [74, 97, 110]), (2, 1, .str [70, 101, 98]), (3, 1, .str [77, 97, 114]), (4, 1, .str [65, 112, 114]), (5, 1, .str [77, 97, 121]), (6, 1, .str [74, 117, 110]), (7, 1, .str [74, 117, 108]), (8, 1, .str [65, 117, 103]), (9, 1, .str [83, 101, 112]), (10, 1, .str [79, 99, 116]), (11, 1, .str [78, 111, 118]), (12, 1, .str [68, 101, 99])] = some (monNames.map .str) := by rfl
  have hst : storePV ⟨st.boxes ++ [[.str [], .str [], .str [], .str [], .str [], .str [], .str [], .str [], .str [], .str [], .str [], .str [], .str []]], st.toks, st.loops, st.boxes.length⟩ 13 (.ptr st.boxes.length 0) (.agg (monNames.map .str)) = some ⟨st.boxes ++ [monNames.map .str], st.toks, st.loops, st.boxes.length⟩ := st_all rfl rfl rfl
  have hld : loadPV ⟨st.boxes ++ [monNames.map .str], st.toks, st.loops, st.boxes.length⟩ false 1 (.ptr st.boxes.length (0 + ((n : Int)).toNat * 1)) = some (.str (monT n)) := ld_at (by
    simp only [Int.toNat_natCast, List.getElem?_map]
    have h7 : n < monNames.length := h
    simp [monT, List.getD, h7])
  have hia : iaddrAPV 13 1 (.ptr st.boxes.length 0) (.int .i64 (n : Int)) = some (.ptr st.boxes.length (0 + ((n : Int)).toNat * 1)) := iaA (by omega) (by omega)
  simp only [Int.toNat_natCast] at hld hia
  simp (maxSteps := 1000000) (disch := omega) only [hb, allocPV, hst, hia, hld, W_seq, W_region, W_cond, W_block, W_skip, W_label, W_exit, W_goto, W_ret, WO_cons, WO_consG, WO_nil, wantedA_eq, wantB, evOp, ev_tmp, ev_const, ev_fn, WN_some, WN_none, updO_some, updO_none, upd_eq,
 ↓reduceIte, Nat.reduceEqDiff, List.nil_append, List.cons_append, List.append_nil, List.map_cons, List.map_nil, env0_zero, env0_succ, env0_nil, Option.map_some, Option.map_none, seqQ_normal, seqQ_ret, seqQ_exit, seqQ_goto, blockQ_normal, blockQ_ret, blockQ_exit, blockQ_goto, condW_bool, loopQ_ret, loopQ_exit, loopQ_goto, endQ_ret, endQ_normal, keep_mk, keep_st,
 lss_i, leq_i, gtr_i, geq_i, eql_i, neq_i, eql_8, neq_8, lss_8, leq_8, gtr_8, geq_8, eql_s, neq_s, eql_b, neq_b, not_b, by_bys, by_nils, load_cp1, beq_true, beq_false, Bool.not_eq_true', decide_eq_true_eq, decide_eq_false_iff_not, decide_true, decide_false,
 Int.toNat_natCast, Int.ofNat_lt, Int.ofNat_le, Int.natCast_inj, Bool.false_eq_true, Bool.true_eq_false, extPV, List.getElem?_cons_zero, List.getElem?_cons_succ, nilckPV, Int.reduceToNat, Int.reduceLE, true_and, and_true, reduceCtorEq, or_false, false_or, or_true, Option.some.injEq, exists_eq_left', Bool.not_true, Bool.not_false, ne_eq, Int.reduceEq, not_true_eq_false, not_false_eq_true, Int.reduceLT, UInt8.reduceLT, UInt8.reduceLE, UInt8.reduceToNat]
  exact retS rfl Kept.start.alloc rfl

def shiftOK (n : Int) : Bool := decide (-86340 ≤ n) && decide (n ≤ 86340) && decide (n.tmod 60 = 0)
theorem isShift_spec {n : Int} : call prog (.fn 274 []) [.int .i64 n] st = some (.bool (shiftOK n), st) := by
  refine call_of_W prog_274 ?_
  unfold F_date_isShift; dsimp only
  have r60 : binPV .rem .no (.int .i64 n) (.int .i64 60) = some (.int .i64 (n.tmod 60)) := rem_i (by decide)
  have fin : ∀ {E : Env} (b : Bool), E 2 = .bool b → b = shiftOK n → ∃ rv, resOf E { boxes := st.boxes, toks := st.toks, loops := st.loops, low := st.boxes.length } [.tmp 2] = some rv ∧ leave st { boxes := st.boxes, toks := st.toks, loops := st.loops, low := st.boxes.length } rv = (.bool (shiftOK n), st) :=
    fun b h hb => retB h Kept.start hb
  by_cases h1 : -86340 ≤ n <;> by_cases h2 : n ≤ 86340 <;> by_cases h3 : n.tmod 60 = 0 <;> simp (maxSteps := 1000000) (disch := omega) only [r60, h1, h2, h3, W_seq, W_region, W_cond, W_block, W_skip, W_label, W_exit, W_goto, W_ret, WO_cons, WO_consG, WO_nil, wantedA_eq, wantB, evOp, ev_tmp, ev_const, ev_fn, WN_some, WN_none, updO_some, updO_none, upd_eq,
 ↓reduceIte, Nat.reduceEqDiff, List.nil_append, List.cons_append, List.append_nil, List.map_cons, List.map_nil, env0_zero, env0_succ, env0_nil, Option.map_some, Option.map_none, seqQ_normal, seqQ_ret, seqQ_exit, seqQ_goto, blockQ_normal, blockQ_ret, blockQ_exit, blockQ_goto, condW_bool, loopQ_ret, loopQ_exit, loopQ_goto, endQ_ret, endQ_normal, keep_mk, keep_st,
 lss_i, leq_i, gtr_i, geq_i, eql_i, neq_i, eql_8, neq_8, lss_8, leq_8, gtr_8, geq_8, eql_s, neq_s, eql_b, neq_b, not_b, by_bys, by_nils, load_cp1, beq_true, beq_false, Bool.not_eq_true', decide_eq_true_eq, decide_eq_false_iff_not, decide_true, decide_false,
 Int.toNat_natCast, Int.ofNat_lt, Int.ofNat_le, Int.natCast_inj, Bool.false_eq_true, Bool.true_eq_false, extPV, List.getElem?_cons_zero, List.getElem?_cons_succ, nilckPV, Int.reduceToNat, Int.reduceLE, true_and, and_true, reduceCtorEq, or_false, false_or, or_true, Option.some.injEq, exists_eq_left', Bool.not_true, Bool.not_false, ne_eq, Int.reduceEq, not_true_eq_false, not_false_eq_true, Int.reduceLT, UInt8.reduceLT, UInt8.reduceLE, UInt8.reduceToNat]
  all_goals first | exact fin true rfl (by simp only [shiftOK, *, decide_true, decide_false, Bool.and_true, Bool.true_and, Bool.and_false, Bool.false_and, Bool.or_true, Bool.true_or, Bool.or_false, Bool.false_or, Bool.not_true, Bool.not_false, not_true_eq_false, not_false_eq_true]) | exact fin false rfl (by simp only [shiftOK, *, decide_true, decide_false, Bool.and_true, Bool.true_and, Bool.and_false, Bool.false_and, Bool.or_true, Bool.true_or, Bool.or_false, Bool.false_or, Bool.not_true, Bool.not_false, not_true_eq_false, not_false_eq_true])

set_option maxHeartbeats 2000000 in
theorem leap_spec {y : Nat} : call prog (.fn 315 []) [.int .i64 (y : Int)] st = some (.bool (lpY y), st) := by
  refine call_of_W prog_315 ?_
  unfold F_when_leap; dsimp only
  have r4 : binPV .rem .no (.int .i64 (y : Int)) (.int .i64 4) = some (.int .i64 ((y % 4 : Nat) : Int)) := rem_n (c := 4) (by omega)
  have r100 : binPV .rem .no (.int .i64 (y : Int)) (.int .i64 100) = some (.int .i64 ((y % 100 : Nat) : Int)) := rem_n (c := 100) (by omega)
  have r400 : binPV .rem .no (.int .i64 (y : Int)) (.int .i64 400) = some (.int .i64 ((y % 400 : Nat) : Int)) := rem_n (c := 400) (by omega)
  have hl : lpY y = ((y % 4 == 0 && y % 100 != 0) || y % 400 == 0) := rfl
  generalize y % 4 = a at r4 hl
  generalize y % 100 = b at r100 hl
  generalize y % 400 = c at r400 hl
  rw [hl]
  clear hl
  have c4 : ((a : Int) = 0) = (a = 0) := by apply propext; omega
  have c100 : ((b : Int) = 0) = (b = 0) := by apply propext; omega
  have c400 : ((c : Int) = 0) = (c = 0) := by apply propext; omega
  have em : ∀ n : Nat, (n = 0) = True ∨ (n = 0) = False := fun n => by by_cases h : n = 0 <;> simp [h]
  rcases em a with h1 | h1 <;> rcases em b with h2 | h2 <;> rcases em c with h3 | h3 <;> simp (maxSteps := 1000000) (disch := omega) only [r4, r100, r400, c4, c100, c400, h1, h2, h3, W_seq, W_region, W_cond, W_block, W_skip, W_label, W_exit, W_goto, W_ret, WO_cons, WO_consG, WO_nil, wantedA_eq, wantB, evOp, ev_tmp, ev_const, ev_fn, WN_some, WN_none, updO_some, updO_none, upd_eq,
 ↓reduceIte, Nat.reduceEqDiff, List.nil_append, List.cons_append, List.append_nil, List.map_cons, List.map_nil, env0_zero, env0_succ, env0_nil, Option.map_some, Option.map_none, seqQ_normal, seqQ_ret, seqQ_exit, seqQ_goto, blockQ_normal, blockQ_ret, blockQ_exit, blockQ_goto, condW_bool, loopQ_ret, loopQ_exit, loopQ_goto, endQ_ret, endQ_normal, keep_mk, keep_st,
 lss_i, leq_i, gtr_i, geq_i, eql_i, neq_i, eql_8, neq_8, lss_8, leq_8, gtr_8, geq_8, eql_s, neq_s, eql_b, neq_b, not_b, by_bys, by_nils, load_cp1, beq_true, beq_false, Bool.not_eq_true', decide_eq_true_eq, decide_eq_false_iff_not, decide_true, decide_false,
 Int.toNat_natCast, Int.ofNat_lt, Int.ofNat_le, Int.natCast_inj, Bool.false_eq_true, Bool.true_eq_false, extPV, List.getElem?_cons_zero, List.getElem?_cons_succ, nilckPV, Int.reduceToNat, Int.reduceLE, true_and, and_true, reduceCtorEq, or_false, false_or, or_true, Option.some.injEq, exists_eq_left', Bool.not_true, Bool.not_false, ne_eq, Int.reduceEq, not_true_eq_false, not_false_eq_true, Int.reduceLT, UInt8.reduceLT, UInt8.reduceLE, UInt8.reduceToNat]
  all_goals first | exact retB (b := true) rfl Kept.start (by show _ = ((decide (a = 0) && !decide (b = 0)) || decide (c = 0)); simp [h1, h2, h3]) | exact retB (b := false) rfl Kept.start (by show _ = ((decide (a = 0) && !decide (b = 0)) || decide (c = 0)); simp [h1, h2, h3])

theorem before_spec {y : Nat} (h1 : 1970 ≤ y) (h2 : y ≤ 10000) : call prog (.fn 306 []) [.int .i64 (y : Int)] st = some (.int .i64 (befY y : Int), st) := by
  refine call_of_W prog_306 ?_
  unfold F_when_before; dsimp only
  have q4 : ∀ a : Nat, a < 20000 → binPV .quo .no (.int .i64 (a : Int)) (.int .i64 4) = some (.int .i64 ((a / 4 : Nat) : Int)) := fun a ha => quo_n (c := 4) (by omega) (by omega)
  have q100 : ∀ a : Nat, a < 20000 → binPV .quo .no (.int .i64 (a : Int)) (.int .i64 100) = some (.int .i64 ((a / 100 : Nat) : Int)) := fun a ha => quo_n (c := 100) (by omega) (by omega)
  have q400 : ∀ a : Nat, a < 20000 → binPV .quo .no (.int .i64 (a : Int)) (.int .i64 400) = some (.int .i64 ((a / 400 : Nat) : Int)) := fun a ha => quo_n (c := 400) (by omega) (by omega)
  have m365 : ∀ a : Nat, a < 20000 → binPV .mul .no (.int .i64 365) (.int .i64 (a : Int)) = some (.int .i64 ((365 * a : Nat) : Int)) := fun a ha => mul_n (c := 365) (by omega)
  obtain ⟨k, rfl⟩ : ∃ k, y = 1970 + k := ⟨y - 1970, by omega⟩
  have e1 : (1970 + k - 1 : Nat) = 1969 + k := by omega
  have e2 : (1969 + k - 1969 : Nat) = k := by omega
  have hge : 477 ≤ 365 * k + (1969 + k) / 4 - (1969 + k) / 100 + (1969 + k) / 400 := by
    by_cases hk : k = 0
    · subst hk; decide
    · omega
  simp (maxSteps := 1000000) (disch := omega) only [sub_n, e1, e2, q4, q100, q400, m365, add_n, W_seq, W_region, W_cond, W_block, W_skip, W_label, W_exit, W_goto, W_ret, WO_cons, WO_consG, WO_nil, wantedA_eq, wantB, evOp, ev_tmp, ev_const, ev_fn, WN_some, WN_none, updO_some, updO_none, upd_eq,
 ↓reduceIte, Nat.reduceEqDiff, List.nil_append, List.cons_append, List.append_nil, List.map_cons, List.map_nil, env0_zero, env0_succ, env0_nil, Option.map_some, Option.map_none, seqQ_normal, seqQ_ret, seqQ_exit, seqQ_goto, blockQ_normal, blockQ_ret, blockQ_exit, blockQ_goto, condW_bool, loopQ_ret, loopQ_exit, loopQ_goto, endQ_ret, endQ_normal, keep_mk, keep_st,
 lss_i, leq_i, gtr_i, geq_i, eql_i, neq_i, eql_8, neq_8, lss_8, leq_8, gtr_8, geq_8, eql_s, neq_s, eql_b, neq_b, not_b, by_bys, by_nils, load_cp1, beq_true, beq_false, Bool.not_eq_true', decide_eq_true_eq, decide_eq_false_iff_not, decide_true, decide_false,
 Int.toNat_natCast, Int.ofNat_lt, Int.ofNat_le, Int.natCast_inj, Bool.false_eq_true, Bool.true_eq_false, extPV, List.getElem?_cons_zero, List.getElem?_cons_succ, nilckPV, Int.reduceToNat, Int.reduceLE, true_and, and_true, reduceCtorEq, or_false, false_or, or_true, Option.some.injEq, exists_eq_left', Bool.not_true, Bool.not_false, ne_eq, Int.reduceEq, not_true_eq_false, not_false_eq_true, Int.reduceLT, UInt8.reduceLT, UInt8.reduceLE, UInt8.reduceToNat]
  refine retI rfl Kept.start ?_
  rw [bef_1]
  by_cases hk : k = 0
  · subst hk; decide
  · omega

def md1 (m : Nat) : Nat := [0, 31, 28, 31, 30, 31, 30, 31, 31, 30, 31, 30, 31].getD m 0
theorem md_1 {y m : Nat} (h1 : 1 ≤ m) (h2 : m ≤ 12) : mdY y m = if m = 2 ∧ lpY y = true then 29 else md1 m := by
  have : m = 1 ∨ m = 2 ∨ m = 3 ∨ m = 4 ∨ m = 5 ∨ m = 6 ∨ m = 7 ∨ m = 8 ∨ m = 9 ∨ m = 10 ∨ m = 11 ∨ m = 12 := by omega
  rcases this with rfl | rfl | rfl | rfl | rfl | rfl | rfl | rfl | rfl | rfl | rfl | rfl <;> simp [mdY, md1]
def mdL : List PV := [.int .i64 0, .int .i64 31, .int .i64 28, .int .i64 31, .int .i64 30, .int .i64 31, .int .i64 30, .int .i64 31, .int .i64 31, .int .i64 30, .int .i64 31, .int .i64 30, .int .i64 31]
theorem mdL_at {m : Nat} (h : m < 13) : mdL[m]? = some (.int .i64 (md1 m : Int)) := by
  have : m = 0 ∨ m = 1 ∨ m = 2 ∨ m = 3 ∨ m = 4 ∨ m = 5 ∨ m = 6 ∨ m = 7 ∨ m = 8 ∨ m = 9 ∨ m = 10 ∨ m = 11 ∨ m = 12 := by omega
  rcases this with rfl | rfl | rfl | rfl | rfl | rfl | rfl | rfl | rfl | rfl | rfl | rfl | rfl <;> rfl
theorem month_spec {y m : Nat} (h1 : 1 ≤ m) (h2 : m ≤ 12) : call prog (.fn 307 []) [.int .i64 (y : Int), .int .i64 (m : Int)] st = some (.int .i64 (mdY y m : Int), st) := by
  refine call_of_W prog_307 ?_
  unfold F_when_month; dsimp only
  have hb : buildCells [.int .i64 0, .int .i64 0, .int .i64 0, .int .i64 0, .int .i64 0, .int .i64 0, .int .i64 0, .int .i64 0, .int .i64 0, .int .i64 0, .int .i64 0, .int .i64 0, .int .i64 0] [(0, 1, .int .i64 0), (1, 1, .int .i64 31), (2, 1, .int .i64 28), (3, 1, .int .i64 31), (4, 1, .int .i64 30), (5, 1, .int .i64 31), (6, 1, .int .i64 30), (7, 1, .int .i64 31), (8, 1, .int .i64 31), (9, 1, .int .i64 30), (10, 1, .int .i64 31), (11, 1, .int .i64 30), (12, 1, .int .i64 31)] = some mdL := by rfl
  have hst : storePV ⟨st.boxes ++ [[.int .i64 0, .int .i64 0, .int .i64 0, .int .i64 0, .int .i64 0, .int .i64 0, .int .i64 0, .int .i64 0, .int .i64 0, .int .i64 0, .int .i64 0, .int .i64 0, .int .i64 0]], st.toks, st.loops, st.boxes.length⟩ 13 (.ptr st.boxes.length 0) (.agg mdL) = some ⟨st.boxes ++ [mdL], st.toks, st.loops, st.boxes.length⟩ := st_all rfl rfl rfl
  have hld : loadPV ⟨st.boxes ++ [mdL], st.toks, st.loops, st.boxes.length⟩ false 1 (.ptr st.boxes.length (0 + ((m : Int)).toNat * 1)) = some (.int .i64 (md1 m : Int)) := ld_at (by
    simp only [Int.toNat_natCast]; exact mdL_at (by omega))
  have hia : iaddrAPV 13 1 (.ptr st.boxes.length 0) (.int .i64 (m : Int)) = some (.ptr st.boxes.length (0 + ((m : Int)).toNat * 1)) := iaA (by omega) (by omega)
  simp only [Int.toNat_natCast] at hld hia
  have c2 : ((m : Int) = 2) = (m = 2) := by apply propext; omega
  have hlp := fun S : St => leap_spec (st := S) (y := y)
  rw [md_1 h1 h2]
  by_cases hm : m = 2
  · cases hl : lpY y with
    | true =>
      rw [hl] at hlp
      simp (maxSteps := 1000000) (disch := omega) only [hb, allocPV, hst, hia, hld, c2, eq_true hm, hlp, W_seq, W_region, W_cond, W_block, W_skip, W_label, W_exit, W_goto, W_ret, WO_cons, WO_consG, WO_nil, wantedA_eq, wantB, evOp, ev_tmp, ev_const, ev_fn, WN_some, WN_none, updO_some, updO_none, upd_eq,
 ↓reduceIte, Nat.reduceEqDiff, List.nil_append, List.cons_append, List.append_nil, List.map_cons, List.map_nil, env0_zero, env0_succ, env0_nil, Option.map_some, Option.map_none, seqQ_normal, seqQ_ret, seqQ_exit, seqQ_goto, blockQ_normal, blockQ_ret, blockQ_exit, blockQ_goto, condW_bool, loopQ_ret, loopQ_exit, loopQ_goto, endQ_ret, endQ_normal, keep_mk, keep_st,
 lss_i, leq_i, gtr_i, geq_i, eql_i, neq_i, eql_8, neq_8, lss_8, leq_8, gtr_8, geq_8, eql_s, neq_s, eql_b, neq_b, not_b, by_bys, by_nils, load_cp1, beq_true, beq_false, Bool.not_eq_true', decide_eq_true_eq, decide_eq_false_iff_not, decide_true, decide_false,
 Int.toNat_natCast, Int.ofNat_lt, Int.ofNat_le, Int.natCast_inj, Bool.false_eq_true, Bool.true_eq_false, extPV, List.getElem?_cons_zero, List.getElem?_cons_succ, nilckPV, Int.reduceToNat, Int.reduceLE, true_and, and_true, reduceCtorEq, or_false, false_or, or_true, Option.some.injEq, exists_eq_left', Bool.not_true, Bool.not_false, ne_eq, Int.reduceEq, not_true_eq_false, not_false_eq_true, Int.reduceLT, UInt8.reduceLT, UInt8.reduceLE, UInt8.reduceToNat]
      exact retI rfl Kept.start.alloc (by simp [hm])
    | false =>
      rw [hl] at hlp
      simp (maxSteps := 1000000) (disch := omega) only [hb, allocPV, hst, hia, hld, c2, eq_true hm, hlp, W_seq, W_region, W_cond, W_block, W_skip, W_label, W_exit, W_goto, W_ret, WO_cons, WO_consG, WO_nil, wantedA_eq, wantB, evOp, ev_tmp, ev_const, ev_fn, WN_some, WN_none, updO_some, updO_none, upd_eq,
 ↓reduceIte, Nat.reduceEqDiff, List.nil_append, List.cons_append, List.append_nil, List.map_cons, List.map_nil, env0_zero, env0_succ, env0_nil, Option.map_some, Option.map_none, seqQ_normal, seqQ_ret, seqQ_exit, seqQ_goto, blockQ_normal, blockQ_ret, blockQ_exit, blockQ_goto, condW_bool, loopQ_ret, loopQ_exit, loopQ_goto, endQ_ret, endQ_normal, keep_mk, keep_st,
 lss_i, leq_i, gtr_i, geq_i, eql_i, neq_i, eql_8, neq_8, lss_8, leq_8, gtr_8, geq_8, eql_s, neq_s, eql_b, neq_b, not_b, by_bys, by_nils, load_cp1, beq_true, beq_false, Bool.not_eq_true', decide_eq_true_eq, decide_eq_false_iff_not, decide_true, decide_false,
 Int.toNat_natCast, Int.ofNat_lt, Int.ofNat_le, Int.natCast_inj, Bool.false_eq_true, Bool.true_eq_false, extPV, List.getElem?_cons_zero, List.getElem?_cons_succ, nilckPV, Int.reduceToNat, Int.reduceLE, true_and, and_true, reduceCtorEq, or_false, false_or, or_true, Option.some.injEq, exists_eq_left', Bool.not_true, Bool.not_false, ne_eq, Int.reduceEq, not_true_eq_false, not_false_eq_true, Int.reduceLT, UInt8.reduceLT, UInt8.reduceLE, UInt8.reduceToNat]
      exact retI rfl Kept.start.alloc (by simp [hm])
  · simp (maxSteps := 1000000) (disch := omega) only [hb, allocPV, hst, hia, hld, c2, hm, W_seq, W_region, W_cond, W_block, W_skip, W_label, W_exit, W_goto, W_ret, WO_cons, WO_consG, WO_nil, wantedA_eq, wantB, evOp, ev_tmp, ev_const, ev_fn, WN_some, WN_none, updO_some, updO_none, upd_eq,
 ↓reduceIte, Nat.reduceEqDiff, List.nil_append, List.cons_append, List.append_nil, List.map_cons, List.map_nil, env0_zero, env0_succ, env0_nil, Option.map_some, Option.map_none, seqQ_normal, seqQ_ret, seqQ_exit, seqQ_goto, blockQ_normal, blockQ_ret, blockQ_exit, blockQ_goto, condW_bool, loopQ_ret, loopQ_exit, loopQ_goto, endQ_ret, endQ_normal, keep_mk, keep_st,
 lss_i, leq_i, gtr_i, geq_i, eql_i, neq_i, eql_8, neq_8, lss_8, leq_8, gtr_8, geq_8, eql_s, neq_s, eql_b, neq_b, not_b, by_bys, by_nils, load_cp1, beq_true, beq_false, Bool.not_eq_true', decide_eq_true_eq, decide_eq_false_iff_not, decide_true, decide_false,
 Int.toNat_natCast, Int.ofNat_lt, Int.ofNat_le, Int.natCast_inj, Bool.false_eq_true, Bool.true_eq_false, extPV, List.getElem?_cons_zero, List.getElem?_cons_succ, nilckPV, Int.reduceToNat, Int.reduceLE, true_and, and_true, reduceCtorEq, or_false, false_or, or_true, Option.some.injEq, exists_eq_left', Bool.not_true, Bool.not_false, ne_eq, Int.reduceEq, not_true_eq_false, not_false_eq_true, Int.reduceLT, UInt8.reduceLT, UInt8.reduceLE, UInt8.reduceToNat]
    exact retI rfl Kept.start.alloc (by simp [hm])
end Go.Ab

/-
  A day's year, month and day: both walks.
-/
namespace Go.Ab
set_option linter.unusedVariables false
set_option linter.unusedSimpArgs false
set_option maxRecDepth 20000
variable {st s : St} {e : Env}

theorem ret4 {a b c d : Nat} {p q r t : Int} (ha : e a = .int .i64 p) (hb : e b = .int .i64 q) (hc : e c = .int .i64 r) (hd : e d = .int .i64 t) (hk : Kept st s) :
    ∃ rv, resOf e s [.tmp a, .tmp b, .tmp c, .tmp d] = some rv ∧ leave st s rv = (.tup [.int .i64 p, .int .i64 q, .int .i64 r, .int .i64 t], st) :=
  ⟨_, by simp [resOf, rvAll, rv1, ha, hb, hc, hd, notTup, packRes], hk.leave' ⟨fun _ => rfl, fun _ _ => rfl⟩⟩

theorem bef_le (k : Nat) : befY (1970 + k) ≤ 366 * k := by
  induction k with
  | zero => decide
  | succ k ih =>
    have h1 := bef_succ (y := 1970 + k) (by omega)
    have h2 := yd_bound (1970 + k)
    rw [show 1970 + (k + 1) = 1970 + k + 1 from rfl]; omega

/-- What is left of the days, and the month so far. -/
theorem ci_fin {n y m r y' m' d' : Nat} (h : Ci n y' m' d') (h1 : 1970 ≤ y) (h2 : y ≤ 9999) (h3 : 1 ≤ m) (h4 : m ≤ 12) (h5 : r + befY y + cumY y m = n) (h6 : r < mdY y m) : y = y' ∧ m = m' ∧ r + 1 = d' :=
  Ci.uniq (n := n) ⟨h1, h2, h3, h4, by omega, by omega, by omega⟩ h

set_option maxHeartbeats 2000000 in
theorem Civil_spec {n y m d : Nat} (hci : Ci n y m d) : call prog (.fn 275 []) [.int .i64 (n : Int)] st = some (.tup [.int .i64 (y : Int), .int .i64 (m : Int), .int .i64 (d : Int), .int .i64 0], st) := by
  refine call_of_W prog_275 ?_
  unfold F_when_Civil; dsimp only
  have hn := ci_le hci
  have g1 : ¬ (n : Int) < 0 := by omega
  have g2 : ¬ (2932896 : Int) < (n : Int) := by omega
  have q366 : binPV .quo .no (.int .i64 (n : Int)) (.int .i64 366) = some (.int .i64 ((n / 366 : Nat) : Int)) := quo_n (c := 366) (by omega) (by omega)
  simp (maxSteps := 1000000) (disch := omega) only [g1, g2, q366, add_n', W_seq, W_region, W_cond, W_block, W_skip, W_label, W_exit, W_goto, W_ret, WO_cons, WO_consG, WO_nil, wantedA_eq, wantB, evOp, ev_tmp, ev_const, ev_fn, WN_some, WN_none, updO_some, updO_none, upd_eq,
 ↓reduceIte, Nat.reduceEqDiff, List.nil_append, List.cons_append, List.append_nil, List.map_cons, List.map_nil, env0_zero, env0_succ, env0_nil, Option.map_some, Option.map_none, seqQ_normal, seqQ_ret, seqQ_exit, seqQ_goto, blockQ_normal, blockQ_ret, blockQ_exit, blockQ_goto, condW_bool, loopQ_ret, loopQ_exit, loopQ_goto, endQ_ret, endQ_normal, keep_mk, keep_st,
 lss_i, leq_i, gtr_i, geq_i, eql_i, neq_i, eql_8, neq_8, lss_8, leq_8, gtr_8, geq_8, eql_s, neq_s, eql_b, neq_b, not_b, by_bys, by_nils, load_cp1, beq_true, beq_false, Bool.not_eq_true', decide_eq_true_eq, decide_eq_false_iff_not, decide_true, decide_false,
 Int.toNat_natCast, Int.ofNat_lt, Int.ofNat_le, Int.natCast_inj, Bool.false_eq_true, Bool.true_eq_false, extPV, List.getElem?_cons_zero, List.getElem?_cons_succ, nilckPV, Int.reduceToNat, Int.reduceLE, true_and, and_true, reduceCtorEq, or_false, false_or, or_true, Option.some.injEq, exists_eq_left', Bool.not_true, Bool.not_false, ne_eq, Int.reduceEq, not_true_eq_false, not_false_eq_true, Int.reduceLT, UInt8.reduceLT, UInt8.reduceLE, UInt8.reduceToNat]
  refine W_mono (Q := fun x E S => x = .exit 0 ∧ ∃ Y : Nat, 1970 ≤ Y ∧ Y ≤ 9999 ∧ befY Y ≤ n ∧ n < befY (Y + 1) ∧ Kept st S ∧ E 0 = .int .i64 (n : Int) ∧ E 6 = .int .i64 (Y : Int)) ?_ ?_
  · obtain ⟨J, hJ⟩ : ∃ J : Ex → Env → St → Prop, J = fun x E S => x = .exit 0 ∧ ∃ Y : Nat, 1970 ≤ Y ∧ Y ≤ 9999 ∧ befY Y ≤ n ∧ n < befY (Y + 1) ∧ Kept st S ∧ E 0 = .int .i64 (n : Int) ∧ E 6 = .int .i64 (Y : Int) := ⟨_, rfl⟩
    rw [← hJ]
    obtain ⟨I, hI⟩ : ∃ I : Nat → Env → St → Prop, I = fun k E S => ∃ Y : Nat, k = 9999 - Y ∧ 1970 ≤ Y ∧ Y ≤ 9999 ∧ befY Y ≤ n ∧ Kept st S ∧ E 0 = .int .i64 (n : Int) ∧ E 6 = .int .i64 (Y : Int) := ⟨_, rfl⟩
    refine W_loop I ?_ (n := 9999 - (1970 + n / 366)) (by
      rw [hI]
      exact ⟨1970 + n / 366, rfl, by omega, by omega, by have := bef_le (n / 366); omega, Kept.start, rfl, rfl⟩)
    intro k E S hh
    rw [hI] at hh
    obtain ⟨Y, rfl, y1, y2, y3, hk, e0, e6⟩ := hh
    by_cases c1 : Y < 9999
    · have hb := fun S : St => before_spec (st := S) (y := Y + 1) (by omega) (by omega)
      by_cases c2 : befY (Y + 1) ≤ n
      · simp (maxSteps := 1000000) (disch := omega) only [e0, e6, Int.ofNat_lt, eq_true (show ((Y : Int) < 9999) from by omega), add_n, hb, c2, loopQ_normal, W_seq, W_region, W_cond, W_block, W_skip, W_label, W_exit, W_goto, W_ret, WO_cons, WO_consG, WO_nil, wantedA_eq, wantB, evOp, ev_tmp, ev_const, ev_fn, WN_some, WN_none, updO_some, updO_none, upd_eq,
 ↓reduceIte, Nat.reduceEqDiff, List.nil_append, List.cons_append, List.append_nil, List.map_cons, List.map_nil, env0_zero, env0_succ, env0_nil, Option.map_some, Option.map_none, seqQ_normal, seqQ_ret, seqQ_exit, seqQ_goto, blockQ_normal, blockQ_ret, blockQ_exit, blockQ_goto, condW_bool, loopQ_ret, loopQ_exit, loopQ_goto, endQ_ret, endQ_normal, keep_mk, keep_st,
 lss_i, leq_i, gtr_i, geq_i, eql_i, neq_i, eql_8, neq_8, lss_8, leq_8, gtr_8, geq_8, eql_s, neq_s, eql_b, neq_b, not_b, by_bys, by_nils, load_cp1, beq_true, beq_false, Bool.not_eq_true', decide_eq_true_eq, decide_eq_false_iff_not, decide_true, decide_false,
 Int.toNat_natCast, Int.ofNat_lt, Int.ofNat_le, Int.natCast_inj, Bool.false_eq_true, Bool.true_eq_false, extPV, List.getElem?_cons_zero, List.getElem?_cons_succ, nilckPV, Int.reduceToNat, Int.reduceLE, true_and, and_true, reduceCtorEq, or_false, false_or, or_true, Option.some.injEq, exists_eq_left', Bool.not_true, Bool.not_false, ne_eq, Int.reduceEq, not_true_eq_false, not_false_eq_true, Int.reduceLT, UInt8.reduceLT, UInt8.reduceLE, UInt8.reduceToNat]
        refine ⟨9999 - (Y + 1), by omega, ?_⟩
        rw [hI]
        exact ⟨Y + 1, rfl, by omega, by omega, c2, hk, e0, rfl⟩
      · simp (maxSteps := 1000000) (disch := omega) only [e0, e6, eq_true (show ((Y : Int) < 9999) from by omega), add_n, hb, c2, W_seq, W_region, W_cond, W_block, W_skip, W_label, W_exit, W_goto, W_ret, WO_cons, WO_consG, WO_nil, wantedA_eq, wantB, evOp, ev_tmp, ev_const, ev_fn, WN_some, WN_none, updO_some, updO_none, upd_eq,
 ↓reduceIte, Nat.reduceEqDiff, List.nil_append, List.cons_append, List.append_nil, List.map_cons, List.map_nil, env0_zero, env0_succ, env0_nil, Option.map_some, Option.map_none, seqQ_normal, seqQ_ret, seqQ_exit, seqQ_goto, blockQ_normal, blockQ_ret, blockQ_exit, blockQ_goto, condW_bool, loopQ_ret, loopQ_exit, loopQ_goto, endQ_ret, endQ_normal, keep_mk, keep_st,
 lss_i, leq_i, gtr_i, geq_i, eql_i, neq_i, eql_8, neq_8, lss_8, leq_8, gtr_8, geq_8, eql_s, neq_s, eql_b, neq_b, not_b, by_bys, by_nils, load_cp1, beq_true, beq_false, Bool.not_eq_true', decide_eq_true_eq, decide_eq_false_iff_not, decide_true, decide_false,
 Int.toNat_natCast, Int.ofNat_lt, Int.ofNat_le, Int.natCast_inj, Bool.false_eq_true, Bool.true_eq_false, extPV, List.getElem?_cons_zero, List.getElem?_cons_succ, nilckPV, Int.reduceToNat, Int.reduceLE, true_and, and_true, reduceCtorEq, or_false, false_or, or_true, Option.some.injEq, exists_eq_left', Bool.not_true, Bool.not_false, ne_eq, Int.reduceEq, not_true_eq_false, not_false_eq_true, Int.reduceLT, UInt8.reduceLT, UInt8.reduceLE, UInt8.reduceToNat]
        rw [hJ]
        exact ⟨rfl, Y, y1, y2, y3, by omega, hk, e0, e6⟩
    · have c1' : ¬ (Y : Int) < 9999 := by omega
      simp (maxSteps := 1000000) (disch := omega) only [e0, e6, c1', W_seq, W_region, W_cond, W_block, W_skip, W_label, W_exit, W_goto, W_ret, WO_cons, WO_consG, WO_nil, wantedA_eq, wantB, evOp, ev_tmp, ev_const, ev_fn, WN_some, WN_none, updO_some, updO_none, upd_eq,
 ↓reduceIte, Nat.reduceEqDiff, List.nil_append, List.cons_append, List.append_nil, List.map_cons, List.map_nil, env0_zero, env0_succ, env0_nil, Option.map_some, Option.map_none, seqQ_normal, seqQ_ret, seqQ_exit, seqQ_goto, blockQ_normal, blockQ_ret, blockQ_exit, blockQ_goto, condW_bool, loopQ_ret, loopQ_exit, loopQ_goto, endQ_ret, endQ_normal, keep_mk, keep_st,
 lss_i, leq_i, gtr_i, geq_i, eql_i, neq_i, eql_8, neq_8, lss_8, leq_8, gtr_8, geq_8, eql_s, neq_s, eql_b, neq_b, not_b, by_bys, by_nils, load_cp1, beq_true, beq_false, Bool.not_eq_true', decide_eq_true_eq, decide_eq_false_iff_not, decide_true, decide_false,
 Int.toNat_natCast, Int.ofNat_lt, Int.ofNat_le, Int.natCast_inj, Bool.false_eq_true, Bool.true_eq_false, extPV, List.getElem?_cons_zero, List.getElem?_cons_succ, nilckPV, Int.reduceToNat, Int.reduceLE, true_and, and_true, reduceCtorEq, or_false, false_or, or_true, Option.some.injEq, exists_eq_left', Bool.not_true, Bool.not_false, ne_eq, Int.reduceEq, not_true_eq_false, not_false_eq_true, Int.reduceLT, UInt8.reduceLT, UInt8.reduceLE, UInt8.reduceToNat]
      rw [hJ]
      have : Y = 9999 := by omega
      subst this
      exact ⟨rfl, 9999, y1, y2, y3, by have := bef_10000; rw [show 9999 + 1 = 10000 from rfl]; omega, hk, e0, e6⟩
  · rintro x E S ⟨rfl, Y, y1, y2, y3, y4, hk, e0, e6⟩
    have hb := fun S : St => before_spec (st := S) (y := Y) (by omega) (by omega)
    have hs := bef_succ y1
    have h13 := cum_13 Y
    simp (maxSteps := 1000000) (disch := omega) only [e0, e6, hb, sub_n, W_seq, W_region, W_cond, W_block, W_skip, W_label, W_exit, W_goto, W_ret, WO_cons, WO_consG, WO_nil, wantedA_eq, wantB, evOp, ev_tmp, ev_const, ev_fn, WN_some, WN_none, updO_some, updO_none, upd_eq,
 ↓reduceIte, Nat.reduceEqDiff, List.nil_append, List.cons_append, List.append_nil, List.map_cons, List.map_nil, env0_zero, env0_succ, env0_nil, Option.map_some, Option.map_none, seqQ_normal, seqQ_ret, seqQ_exit, seqQ_goto, blockQ_normal, blockQ_ret, blockQ_exit, blockQ_goto, condW_bool, loopQ_ret, loopQ_exit, loopQ_goto, endQ_ret, endQ_normal, keep_mk, keep_st,
 lss_i, leq_i, gtr_i, geq_i, eql_i, neq_i, eql_8, neq_8, lss_8, leq_8, gtr_8, geq_8, eql_s, neq_s, eql_b, neq_b, not_b, by_bys, by_nils, load_cp1, beq_true, beq_false, Bool.not_eq_true', decide_eq_true_eq, decide_eq_false_iff_not, decide_true, decide_false,
 Int.toNat_natCast, Int.ofNat_lt, Int.ofNat_le, Int.natCast_inj, Bool.false_eq_true, Bool.true_eq_false, extPV, List.getElem?_cons_zero, List.getElem?_cons_succ, nilckPV, Int.reduceToNat, Int.reduceLE, true_and, and_true, reduceCtorEq, or_false, false_or, or_true, Option.some.injEq, exists_eq_left', Bool.not_true, Bool.not_false, ne_eq, Int.reduceEq, not_true_eq_false, not_false_eq_true, Int.reduceLT, UInt8.reduceLT, UInt8.reduceLE, UInt8.reduceToNat]
    refine W_mono (Q := fun x E S => x = .exit 2 ∧ ∃ M R : Nat, 1 ≤ M ∧ M ≤ 12 ∧ R + befY Y + cumY Y M = n ∧ R < mdY Y M ∧ Kept st S ∧ E 6 = .int .i64 (Y : Int) ∧ E 7 = .int .i64 (R : Int) ∧ E 8 = .int .i64 (M : Int)) ?_ ?_
    · obtain ⟨J, hJ⟩ : ∃ J : Ex → Env → St → Prop, J = fun x E S => x = .exit 2 ∧ ∃ M R : Nat, 1 ≤ M ∧ M ≤ 12 ∧ R + befY Y + cumY Y M = n ∧ R < mdY Y M ∧ Kept st S ∧ E 6 = .int .i64 (Y : Int) ∧ E 7 = .int .i64 (R : Int) ∧ E 8 = .int .i64 (M : Int) := ⟨_, rfl⟩
      rw [← hJ]
      obtain ⟨I, hI⟩ : ∃ I : Nat → Env → St → Prop, I = fun k E S => ∃ M R : Nat, k = 12 - M ∧ 1 ≤ M ∧ M ≤ 12 ∧ R + befY Y + cumY Y M = n ∧ Kept st S ∧ E 6 = .int .i64 (Y : Int) ∧ E 7 = .int .i64 (R : Int) ∧ E 8 = .int .i64 (M : Int) := ⟨_, rfl⟩
      refine W_loop I ?_ (n := 12 - 1) (by
        rw [hI]
        exact ⟨1, n - befY Y, rfl, by omega, by omega, by rw [cum_1]; omega, hk, e6, rfl, rfl⟩)
      intro k E S hh
      rw [hI] at hh
      obtain ⟨M, R, rfl, m1, m2, m3, hk, e6, e7, e8⟩ := hh
      have hm := fun S : St => month_spec (st := S) (y := Y) m1 m2
      have hcs := cum_succ Y (m := M) (by omega)
      by_cases c : mdY Y M ≤ R
      · have hM : M < 12 := by
          rcases Nat.lt_or_ge M 12 with h | h
          · exact h
          · have : M = 12 := by omega
            subst this
            rw [show 12 + 1 = 13 from rfl] at hcs; omega
        simp (maxSteps := 1000000) (disch := omega) only [e6, e7, e8, hm, c, sub_n, add_n, loopQ_normal, W_seq, W_region, W_cond, W_block, W_skip, W_label, W_exit, W_goto, W_ret, WO_cons, WO_consG, WO_nil, wantedA_eq, wantB, evOp, ev_tmp, ev_const, ev_fn, WN_some, WN_none, updO_some, updO_none, upd_eq,
 ↓reduceIte, Nat.reduceEqDiff, List.nil_append, List.cons_append, List.append_nil, List.map_cons, List.map_nil, env0_zero, env0_succ, env0_nil, Option.map_some, Option.map_none, seqQ_normal, seqQ_ret, seqQ_exit, seqQ_goto, blockQ_normal, blockQ_ret, blockQ_exit, blockQ_goto, condW_bool, loopQ_ret, loopQ_exit, loopQ_goto, endQ_ret, endQ_normal, keep_mk, keep_st,
 lss_i, leq_i, gtr_i, geq_i, eql_i, neq_i, eql_8, neq_8, lss_8, leq_8, gtr_8, geq_8, eql_s, neq_s, eql_b, neq_b, not_b, by_bys, by_nils, load_cp1, beq_true, beq_false, Bool.not_eq_true', decide_eq_true_eq, decide_eq_false_iff_not, decide_true, decide_false,
 Int.toNat_natCast, Int.ofNat_lt, Int.ofNat_le, Int.natCast_inj, Bool.false_eq_true, Bool.true_eq_false, extPV, List.getElem?_cons_zero, List.getElem?_cons_succ, nilckPV, Int.reduceToNat, Int.reduceLE, true_and, and_true, reduceCtorEq, or_false, false_or, or_true, Option.some.injEq, exists_eq_left', Bool.not_true, Bool.not_false, ne_eq, Int.reduceEq, not_true_eq_false, not_false_eq_true, Int.reduceLT, UInt8.reduceLT, UInt8.reduceLE, UInt8.reduceToNat]
        refine ⟨12 - (M + 1), by omega, ?_⟩
        rw [hI]
        exact ⟨M + 1, R - mdY Y M, rfl, by omega, by omega, by rw [hcs]; omega, hk, e6, rfl, rfl⟩
      · simp (maxSteps := 1000000) (disch := omega) only [e6, e7, e8, hm, c, W_seq, W_region, W_cond, W_block, W_skip, W_label, W_exit, W_goto, W_ret, WO_cons, WO_consG, WO_nil, wantedA_eq, wantB, evOp, ev_tmp, ev_const, ev_fn, WN_some, WN_none, updO_some, updO_none, upd_eq,
 ↓reduceIte, Nat.reduceEqDiff, List.nil_append, List.cons_append, List.append_nil, List.map_cons, List.map_nil, env0_zero, env0_succ, env0_nil, Option.map_some, Option.map_none, seqQ_normal, seqQ_ret, seqQ_exit, seqQ_goto, blockQ_normal, blockQ_ret, blockQ_exit, blockQ_goto, condW_bool, loopQ_ret, loopQ_exit, loopQ_goto, endQ_ret, endQ_normal, keep_mk, keep_st,
 lss_i, leq_i, gtr_i, geq_i, eql_i, neq_i, eql_8, neq_8, lss_8, leq_8, gtr_8, geq_8, eql_s, neq_s, eql_b, neq_b, not_b, by_bys, by_nils, load_cp1, beq_true, beq_false, Bool.not_eq_true', decide_eq_true_eq, decide_eq_false_iff_not, decide_true, decide_false,
 Int.toNat_natCast, Int.ofNat_lt, Int.ofNat_le, Int.natCast_inj, Bool.false_eq_true, Bool.true_eq_false, extPV, List.getElem?_cons_zero, List.getElem?_cons_succ, nilckPV, Int.reduceToNat, Int.reduceLE, true_and, and_true, reduceCtorEq, or_false, false_or, or_true, Option.some.injEq, exists_eq_left', Bool.not_true, Bool.not_false, ne_eq, Int.reduceEq, not_true_eq_false, not_false_eq_true, Int.reduceLT, UInt8.reduceLT, UInt8.reduceLE, UInt8.reduceToNat]
        rw [hJ]
        exact ⟨rfl, M, R, m1, m2, m3, by omega, hk, e6, e7, e8⟩
    · rintro x E S ⟨rfl, M, R, m1, m2, m3, m4, hk, e6, e7, e8⟩
      obtain ⟨rfl, rfl, rfl⟩ := ci_fin hci y1 y2 m1 m2 m3 m4
      have := md_bound Y M
      simp (maxSteps := 1000000) (disch := omega) only [e6, e7, e8, add_n, W_seq, W_region, W_cond, W_block, W_skip, W_label, W_exit, W_goto, W_ret, WO_cons, WO_consG, WO_nil, wantedA_eq, wantB, evOp, ev_tmp, ev_const, ev_fn, WN_some, WN_none, updO_some, updO_none, upd_eq,
 ↓reduceIte, Nat.reduceEqDiff, List.nil_append, List.cons_append, List.append_nil, List.map_cons, List.map_nil, env0_zero, env0_succ, env0_nil, Option.map_some, Option.map_none, seqQ_normal, seqQ_ret, seqQ_exit, seqQ_goto, blockQ_normal, blockQ_ret, blockQ_exit, blockQ_goto, condW_bool, loopQ_ret, loopQ_exit, loopQ_goto, endQ_ret, endQ_normal, keep_mk, keep_st,
 lss_i, leq_i, gtr_i, geq_i, eql_i, neq_i, eql_8, neq_8, lss_8, leq_8, gtr_8, geq_8, eql_s, neq_s, eql_b, neq_b, not_b, by_bys, by_nils, load_cp1, beq_true, beq_false, Bool.not_eq_true', decide_eq_true_eq, decide_eq_false_iff_not, decide_true, decide_false,
 Int.toNat_natCast, Int.ofNat_lt, Int.ofNat_le, Int.natCast_inj, Bool.false_eq_true, Bool.true_eq_false, extPV, List.getElem?_cons_zero, List.getElem?_cons_succ, nilckPV, Int.reduceToNat, Int.reduceLE, true_and, and_true, reduceCtorEq, or_false, false_or, or_true, Option.some.injEq, exists_eq_left', Bool.not_true, Bool.not_false, ne_eq, Int.reduceEq, not_true_eq_false, not_false_eq_true, Int.reduceLT, UInt8.reduceLT, UInt8.reduceLE, UInt8.reduceToNat]
      exact ret4 rfl rfl rfl rfl hk

/-! ### The document's -/
end Go.Ab

/-
  Dates are written, both ways; the law DatePrints.
-/
namespace Go.Ab
set_option linter.unusedVariables false
set_option linter.unusedSimpArgs false
set_option maxRecDepth 20000
variable {st s : St} {e : Env}

end Go.Ab

/-
  Dates are written; the law DatePrints.
-/
namespace Go.Ab
set_option linter.unusedVariables false
set_option linter.unusedSimpArgs false
set_option maxRecDepth 20000
variable {st s : St} {e : Env}

/-- May a time be written with a shift? -/
def okP (t z : Int) : Prop := (0 ≤ t ∧ t ≤ 253402300799) ∧ shiftOK z = true ∧ (0 ≤ t + z ∧ t + z ≤ 253402300799)
def clkT (c : Nat) : Bs := twoT (c / 3600) ++ [58] ++ twoT (c / 60 % 60) ++ [58] ++ twoT (c % 60)
def frontT (y m d w c : Nat) : Bs := dayT w ++ [44, 32] ++ twoT d ++ [32] ++ monT m ++ [32] ++ twoT (y / 100) ++ twoT y ++ [32] ++ clkT c ++ [32]
def zoneT (z : Int) : Bs := (if z < 0 then [45] else [43]) ++ twoT (z.natAbs / 3600) ++ twoT (z.natAbs / 60 % 60)
def dateT (y m d w c : Nat) (z : Int) : Bs := frontT y m d w c ++ zoneT z

theorem dayT_len {w : Nat} (h : w < 7) : (dayT w).length = 3 := by
  have := List.all_eq_true.1 (show (List.range 7).all (fun n => (dayT n).length == 3) = true by kernel_rfl) w (List.mem_range.2 h)
  simpa only [beq_iff_eq] using this
theorem monT_len {m : Nat} (h0 : 1 ≤ m) (h : m ≤ 12) : (monT m).length = 3 := by
  have := List.all_eq_true.1 (show (List.range 13).all (fun n => n == 0 || (monT n).length == 3) = true by kernel_rfl) m (List.mem_range.2 (by omega))
  simp only [Bool.or_eq_true, beq_iff_eq] at this
  omega
theorem twoT_len {n : Nat} : (twoT n).length = 2 := rfl

theorem shift_bound {z : Int} (h : shiftOK z = true) : -86340 ≤ z ∧ z ≤ 86340 ∧ z.tmod 60 = 0 := by
  simp only [shiftOK, Bool.and_eq_true, decide_eq_true_eq] at h
  exact ⟨h.1.1, h.1.2, h.2⟩
theorem neg_i {z : Int} (h1 : -9223372036854775808 < z) (h2 : z < 9223372036854775808) : unPV .neg (.int .i64 z) = some (.int .i64 (-z)) := by
  simp only [unPV, Option.some.injEq]
  rw [wrap64 (by omega) (by omega)]; congr 1; omega

theorem Print_bad {t z : Int} (h : ¬ okP t z) : call prog (.fn 256 []) [.int .i64 t, .int .i64 z] st = some (.tup [.str [], .int .i64 110], st) := by
  refine call_of_W prog_256 ?_
  unfold F_date_Print; dsimp only
  have hR := fun (t : Int) (S : St) => Right_w (st := S) (t := t)
  have hS := fun S : St => isShift_spec (st := S) (n := z)
  by_cases h1 : 0 ≤ t ∧ t ≤ 253402300799
  · cases h2 : shiftOK z with
    | true =>
      have h3 : ¬ (0 ≤ t + z ∧ t + z ≤ 253402300799) := fun q => h ⟨h1, h2, q⟩
      have hb := shift_bound h2
      rw [h2] at hS
      simp (maxSteps := 1000000) (disch := omega) only [hR, hS, decide_eq_true h1, decide_eq_false h3, add_i, W_seq, W_region, W_cond, W_block, W_skip, W_label, W_exit, W_goto, W_ret, WO_cons, WO_consG, WO_nil, wantedA_eq, wantB, evOp, ev_tmp, ev_const, ev_fn, WN_some, WN_none, updO_some, updO_none, upd_eq,
 ↓reduceIte, Nat.reduceEqDiff, List.nil_append, List.cons_append, List.append_nil, List.map_cons, List.map_nil, env0_zero, env0_succ, env0_nil, Option.map_some, Option.map_none, seqQ_normal, seqQ_ret, seqQ_exit, seqQ_goto, blockQ_normal, blockQ_ret, blockQ_exit, blockQ_goto, condW_bool, loopQ_ret, loopQ_exit, loopQ_goto, endQ_ret, endQ_normal, keep_mk, keep_st,
 lss_i, leq_i, gtr_i, geq_i, eql_i, neq_i, eql_8, neq_8, lss_8, leq_8, gtr_8, geq_8, eql_s, neq_s, eql_b, neq_b, not_b, by_bys, by_nils, load_cp1, beq_true, beq_false, Bool.not_eq_true', decide_eq_true_eq, decide_eq_false_iff_not, decide_true, decide_false,
 Int.toNat_natCast, Int.ofNat_lt, Int.ofNat_le, Int.natCast_inj, Bool.false_eq_true, Bool.true_eq_false, extPV, List.getElem?_cons_zero, List.getElem?_cons_succ, nilckPV, Int.reduceToNat, Int.reduceLE, true_and, and_true, reduceCtorEq, or_false, false_or, or_true, Option.some.injEq, exists_eq_left', Bool.not_true, Bool.not_false, ne_eq, Int.reduceEq, not_true_eq_false, not_false_eq_true, Int.reduceLT, UInt8.reduceLT, UInt8.reduceLE, UInt8.reduceToNat]
      exact retTI rfl rfl Kept.start rfl rfl
    | false =>
      rw [h2] at hS
      simp (maxSteps := 1000000) (disch := omega) only [hR, hS, decide_eq_true h1, W_seq, W_region, W_cond, W_block, W_skip, W_label, W_exit, W_goto, W_ret, WO_cons, WO_consG, WO_nil, wantedA_eq, wantB, evOp, ev_tmp, ev_const, ev_fn, WN_some, WN_none, updO_some, updO_none, upd_eq,
 ↓reduceIte, Nat.reduceEqDiff, List.nil_append, List.cons_append, List.append_nil, List.map_cons, List.map_nil, env0_zero, env0_succ, env0_nil, Option.map_some, Option.map_none, seqQ_normal, seqQ_ret, seqQ_exit, seqQ_goto, blockQ_normal, blockQ_ret, blockQ_exit, blockQ_goto, condW_bool, loopQ_ret, loopQ_exit, loopQ_goto, endQ_ret, endQ_normal, keep_mk, keep_st,
 lss_i, leq_i, gtr_i, geq_i, eql_i, neq_i, eql_8, neq_8, lss_8, leq_8, gtr_8, geq_8, eql_s, neq_s, eql_b, neq_b, not_b, by_bys, by_nils, load_cp1, beq_true, beq_false, Bool.not_eq_true', decide_eq_true_eq, decide_eq_false_iff_not, decide_true, decide_false,
 Int.toNat_natCast, Int.ofNat_lt, Int.ofNat_le, Int.natCast_inj, Bool.false_eq_true, Bool.true_eq_false, extPV, List.getElem?_cons_zero, List.getElem?_cons_succ, nilckPV, Int.reduceToNat, Int.reduceLE, true_and, and_true, reduceCtorEq, or_false, false_or, or_true, Option.some.injEq, exists_eq_left', Bool.not_true, Bool.not_false, ne_eq, Int.reduceEq, not_true_eq_false, not_false_eq_true, Int.reduceLT, UInt8.reduceLT, UInt8.reduceLE, UInt8.reduceToNat]
      exact retTI rfl rfl Kept.start rfl rfl
  · simp (maxSteps := 1000000) (disch := omega) only [hR, decide_eq_false h1, W_seq, W_region, W_cond, W_block, W_skip, W_label, W_exit, W_goto, W_ret, WO_cons, WO_consG, WO_nil, wantedA_eq, wantB, evOp, ev_tmp, ev_const, ev_fn, WN_some, WN_none, updO_some, updO_none, upd_eq,
 ↓reduceIte, Nat.reduceEqDiff, List.nil_append, List.cons_append, List.append_nil, List.map_cons, List.map_nil, env0_zero, env0_succ, env0_nil, Option.map_some, Option.map_none, seqQ_normal, seqQ_ret, seqQ_exit, seqQ_goto, blockQ_normal, blockQ_ret, blockQ_exit, blockQ_goto, condW_bool, loopQ_ret, loopQ_exit, loopQ_goto, endQ_ret, endQ_normal, keep_mk, keep_st,
 lss_i, leq_i, gtr_i, geq_i, eql_i, neq_i, eql_8, neq_8, lss_8, leq_8, gtr_8, geq_8, eql_s, neq_s, eql_b, neq_b, not_b, by_bys, by_nils, load_cp1, beq_true, beq_false, Bool.not_eq_true', decide_eq_true_eq, decide_eq_false_iff_not, decide_true, decide_false,
 Int.toNat_natCast, Int.ofNat_lt, Int.ofNat_le, Int.natCast_inj, Bool.false_eq_true, Bool.true_eq_false, extPV, List.getElem?_cons_zero, List.getElem?_cons_succ, nilckPV, Int.reduceToNat, Int.reduceLE, true_and, and_true, reduceCtorEq, or_false, false_or, or_true, Option.some.injEq, exists_eq_left', Bool.not_true, Bool.not_false, ne_eq, Int.reduceEq, not_true_eq_false, not_false_eq_true, Int.reduceLT, UInt8.reduceLT, UInt8.reduceLE, UInt8.reduceToNat]
    exact retTI rfl rfl Kept.start rfl rfl
theorem wk_nat {n : Nat} (h : n ≤ 2932896) : wkOf (n : Int) = ((((n + 3) % 7 : Nat) : Int), 0) := by
  unfold wkOf; rw [if_neg (by omega)]
  congr 1

set_option maxHeartbeats 4000000 in
theorem Print_good {t z : Int} {L y m d : Nat} (h : okP t z) (hL : t + z = (L : Int)) (hci : Ci (L / 86400) y m d) :
    call prog (.fn 256 []) [.int .i64 t, .int .i64 z] st = some (.tup [.str (dateT y m d ((L / 86400 + 3) % 7) (L % 86400) z), .int .i64 0], st) := by
  refine call_of_W prog_256 ?_
  unfold F_date_Print; dsimp only
  obtain ⟨h1, h2, h3⟩ := h
  have hb := shift_bound h2
  have hn := ci_le hci
  have hR := fun (t : Int) (S : St) => Right_w (st := S) (t := t)
  have hS := fun S : St => isShift_spec (st := S) (n := z)
  rw [h2] at hS
  have ha : binPV .add .no (.int .i64 t) (.int .i64 z) = some (.int .i64 (L : Int)) := by rw [add_i (by omega) (by omega), hL]
  have hRL : decide (0 ≤ (L : Int) ∧ (L : Int) ≤ 253402300799) = true := decide_eq_true (by omega)
  have q1 : ∀ a : Nat, a < 9223372036854775808 → binPV .quo .no (.int .i64 (a : Int)) (.int .i64 86400) = some (.int .i64 ((a / 86400 : Nat) : Int)) := fun a ha => quo_n (c := 86400) (by omega) ha
  have q2 : ∀ a : Nat, a < 9223372036854775808 → binPV .quo .no (.int .i64 (a : Int)) (.int .i64 3600) = some (.int .i64 ((a / 3600 : Nat) : Int)) := fun a ha => quo_n (c := 3600) (by omega) ha
  have q3 : ∀ a : Nat, a < 9223372036854775808 → binPV .quo .no (.int .i64 (a : Int)) (.int .i64 60) = some (.int .i64 ((a / 60 : Nat) : Int)) := fun a ha => quo_n (c := 60) (by omega) ha
  have q4 : ∀ a : Nat, a < 9223372036854775808 → binPV .quo .no (.int .i64 (a : Int)) (.int .i64 100) = some (.int .i64 ((a / 100 : Nat) : Int)) := fun a ha => quo_n (c := 100) (by omega) ha
  have r1 : ∀ a : Nat, binPV .rem .no (.int .i64 (a : Int)) (.int .i64 86400) = some (.int .i64 ((a % 86400 : Nat) : Int)) := fun a => rem_n (c := 86400) (by omega)
  have r3 : ∀ a : Nat, binPV .rem .no (.int .i64 (a : Int)) (.int .i64 60) = some (.int .i64 ((a % 60 : Nat) : Int)) := fun a => rem_n (c := 60) (by omega)
  have hC := fun S : St => Civil_spec (st := S) hci
  have hW := fun S : St => Weekday_spec (st := S) (d := ((L / 86400 : Nat) : Int))
  rw [wk_nat hn] at hW
  simp only at hW
  obtain ⟨w, hw⟩ : ∃ w, w = (L / 86400 + 3) % 7 := ⟨_, rfl⟩
  have hw7 : w < 7 := by rw [hw]; exact Nat.mod_lt _ (by omega)
  rw [← hw] at hW ⊢
  obtain ⟨c, hc⟩ : ∃ c, c = L % 86400 := ⟨_, rfl⟩
  have hc8 : c < 86400 := by rw [hc]; exact Nat.mod_lt _ (by omega)
  have hD := fun S : St => dayName_spec (st := S) hw7
  have hM := fun S : St => monthName_spec (st := S) (n := m) (by have := hci.m2; omega)
  have ld := dayT_len hw7
  have lm := monT_len hci.m1 hci.m2
  have hy := hci.y2
  have hd := hci.d2
  have hmd := md_bound y m
  have lt : ∀ n, (twoT n).length = 2 := fun _ => rfl
  have l1 : ∀ c : UInt8, ([c] : Bs).length = 1 := fun _ => rfl
  have l2 : ∀ c d : UInt8, ([c, d] : Bs).length = 2 := fun _ _ => rfl
  by_cases hz : z < 0
  · obtain ⟨za, rfl⟩ : ∃ za : Nat, z = -(za : Int) := ⟨z.natAbs, by omega⟩
    have hneg : unPV .neg (.int .i64 (-(za : Int))) = some (.int .i64 (za : Int)) := by rw [neg_i (by omega) (by omega)]; simp
    simp (maxSteps := 1000000) (disch := first | omega | (simp only [List.length_append, ld, lm, lt, l1, l2]; omega)) only [hR, hS, ha, decide_eq_true h1, hRL, q1, q2, q3, q4, r1, r3, hC, hW, hz, hneg, two_spec, hD, hM, adds, ← hc, W_seq, W_region, W_cond, W_block, W_skip, W_label, W_exit, W_goto, W_ret, WO_cons, WO_consG, WO_nil, wantedA_eq, wantB, evOp, ev_tmp, ev_const, ev_fn, WN_some, WN_none, updO_some, updO_none, upd_eq,
 ↓reduceIte, Nat.reduceEqDiff, List.nil_append, List.cons_append, List.append_nil, List.map_cons, List.map_nil, env0_zero, env0_succ, env0_nil, Option.map_some, Option.map_none, seqQ_normal, seqQ_ret, seqQ_exit, seqQ_goto, blockQ_normal, blockQ_ret, blockQ_exit, blockQ_goto, condW_bool, loopQ_ret, loopQ_exit, loopQ_goto, endQ_ret, endQ_normal, keep_mk, keep_st,
 lss_i, leq_i, gtr_i, geq_i, eql_i, neq_i, eql_8, neq_8, lss_8, leq_8, gtr_8, geq_8, eql_s, neq_s, eql_b, neq_b, not_b, by_bys, by_nils, load_cp1, beq_true, beq_false, Bool.not_eq_true', decide_eq_true_eq, decide_eq_false_iff_not, decide_true, decide_false,
 Int.toNat_natCast, Int.ofNat_lt, Int.ofNat_le, Int.natCast_inj, Bool.false_eq_true, Bool.true_eq_false, extPV, List.getElem?_cons_zero, List.getElem?_cons_succ, nilckPV, Int.reduceToNat, Int.reduceLE, true_and, and_true, reduceCtorEq, or_false, false_or, or_true, Option.some.injEq, exists_eq_left', Bool.not_true, Bool.not_false, ne_eq, Int.reduceEq, not_true_eq_false, not_false_eq_true, Int.reduceLT, UInt8.reduceLT, UInt8.reduceLE, UInt8.reduceToNat]
    refine retTI rfl rfl Kept.start ?_ rfl
    have e1 : (-(za : Int)).natAbs = za := by omega
    have e2 : 0 < za := by omega
    simp [dateT, frontT, zoneT, clkT, hz, e1, e2]
  · obtain ⟨za, rfl⟩ : ∃ za : Nat, z = (za : Int) := ⟨z.natAbs, by omega⟩
    simp (maxSteps := 1000000) (disch := first | omega | (simp only [List.length_append, ld, lm, lt, l1, l2]; omega)) only [hR, hS, ha, decide_eq_true h1, hRL, q1, q2, q3, q4, r1, r3, hC, hW, hz, two_spec, hD, hM, adds, ← hc, W_seq, W_region, W_cond, W_block, W_skip, W_label, W_exit, W_goto, W_ret, WO_cons, WO_consG, WO_nil, wantedA_eq, wantB, evOp, ev_tmp, ev_const, ev_fn, WN_some, WN_none, updO_some, updO_none, upd_eq,
 ↓reduceIte, Nat.reduceEqDiff, List.nil_append, List.cons_append, List.append_nil, List.map_cons, List.map_nil, env0_zero, env0_succ, env0_nil, Option.map_some, Option.map_none, seqQ_normal, seqQ_ret, seqQ_exit, seqQ_goto, blockQ_normal, blockQ_ret, blockQ_exit, blockQ_goto, condW_bool, loopQ_ret, loopQ_exit, loopQ_goto, endQ_ret, endQ_normal, keep_mk, keep_st,
 lss_i, leq_i, gtr_i, geq_i, eql_i, neq_i, eql_8, neq_8, lss_8, leq_8, gtr_8, geq_8, eql_s, neq_s, eql_b, neq_b, not_b, by_bys, by_nils, load_cp1, beq_true, beq_false, Bool.not_eq_true', decide_eq_true_eq, decide_eq_false_iff_not, decide_true, decide_false,
 Int.toNat_natCast, Int.ofNat_lt, Int.ofNat_le, Int.natCast_inj, Bool.false_eq_true, Bool.true_eq_false, extPV, List.getElem?_cons_zero, List.getElem?_cons_succ, nilckPV, Int.reduceToNat, Int.reduceLE, true_and, and_true, reduceCtorEq, or_false, false_or, or_true, Option.some.injEq, exists_eq_left', Bool.not_true, Bool.not_false, ne_eq, Int.reduceEq, not_true_eq_false, not_false_eq_true, Int.reduceLT, UInt8.reduceLT, UInt8.reduceLE, UInt8.reduceToNat]
    refine retTI rfl rfl Kept.start ?_ rfl
    have e1 : ((za : Int)).natAbs = za := by omega
    simp [dateT, frontT, zoneT, clkT, hz, e1]
end Go.Ab

/-
  Dates are read: small letters, digits.
-/
namespace Go.Ab
set_option linter.unusedVariables false
set_option linter.unusedSimpArgs false
set_option maxRecDepth 20000
variable {st s : St} {e : Env}

theorem dlower_spec {s : List UInt8} (h : s.length ≤ 1000000) : call prog (.fn 311 []) [.str s] st = some (.str (lowOf s), st) := by
  rw [← lower_spec (st := st) h, call_fn prog_311, call_fn prog_167]
  rfl

def isDg (c : UInt8) : Bool := !decide (c < 48) && !decide (57 < c)
def valD (s : Bs) : Nat := s.foldl (fun n c => 10 * n + (c - 48).toNat) 0
/-- A number of so many digits. -/
def digD (s : Bs) (least most : Nat) : Int := if s.all isDg = true ∧ least ≤ s.length ∧ s.length ≤ most then (valD s : Int) else -1

theorem valD_snoc (a : Bs) (c : UInt8) : valD (a ++ [c]) = 10 * valD a + (c - 48).toNat := by simp [valD]
theorem dg_lt {c : UInt8} (h : isDg c = true) : (c - 48).toNat ≤ 9 := by
  have := all8 (p := fun c => !isDg c || decide ((c - 48).toNat ≤ 9)) (by kernel_rfl) c
  rw [h] at this
  simpa only [Bool.not_true, Bool.false_or, decide_eq_true_eq] using this
theorem valD_lt (n : Nat) : ∀ a : Bs, a.length = n → a.all isDg = true → valD a < 10 ^ n := by
  induction n with
  | zero => intro a h _; rw [List.length_eq_zero_iff.1 h]; decide
  | succ n ih =>
    intro a h hd
    have hne : a ≠ [] := fun q => by rw [q] at h; simp at h
    have e1 := List.dropLast_concat_getLast hne
    have hl : a.dropLast.length = n := by simp [h]
    rw [← e1, List.all_append] at hd
    simp only [Bool.and_eq_true, List.all_cons, List.all_nil, Bool.and_true] at hd
    have h1 := ih _ hl hd.1
    have h2 := dg_lt hd.2
    rw [← e1, valD_snoc, Nat.pow_succ]; omega

theorem cI8 {c : UInt8} : cIntPV .i64 (.b8 c) = some (.int .i64 ((c.toNat : Nat) : Int)) := rfl
theorem sub_8 {ek : EK} {a c : UInt8} : binPV .sub ek (.b8 a) (.b8 c) = some (.b8 (a - c)) := rfl

set_option maxHeartbeats 1000000 in
theorem digits_spec {l : Bs} {least most : Nat} (hl : l.length ≤ 100000000) (hm : most ≤ 16) (hle : least ≤ 16) : call prog (.fn 287 []) [.str l, .int .i64 (least : Int), .int .i64 (most : Int)] st = some (.int .i64 (digD l least most), st) := by
  refine call_of_W prog_287 ?_
  unfold F_date_digits; dsimp only
  simp (maxSteps := 1000000) (disch := omega) only [len_s, W_seq, W_region, W_cond, W_block, W_skip, W_label, W_exit, W_goto, W_ret, WO_cons, WO_consG, WO_nil, wantedA_eq, wantB, evOp, ev_tmp, ev_const, ev_fn, WN_some, WN_none, updO_some, updO_none, upd_eq,
 ↓reduceIte, Nat.reduceEqDiff, List.nil_append, List.cons_append, List.append_nil, List.map_cons, List.map_nil, env0_zero, env0_succ, env0_nil, Option.map_some, Option.map_none, seqQ_normal, seqQ_ret, seqQ_exit, seqQ_goto, blockQ_normal, blockQ_ret, blockQ_exit, blockQ_goto, condW_bool, loopQ_ret, loopQ_exit, loopQ_goto, endQ_ret, endQ_normal, keep_mk, keep_st,
 lss_i, leq_i, gtr_i, geq_i, eql_i, neq_i, eql_8, neq_8, lss_8, leq_8, gtr_8, geq_8, eql_s, neq_s, eql_b, neq_b, not_b, by_bys, by_nils, load_cp1, beq_true, beq_false, Bool.not_eq_true', decide_eq_true_eq, decide_eq_false_iff_not, decide_true, decide_false,
 Int.toNat_natCast, Int.ofNat_lt, Int.ofNat_le, Int.natCast_inj, Bool.false_eq_true, Bool.true_eq_false, extPV, List.getElem?_cons_zero, List.getElem?_cons_succ, nilckPV, Int.reduceToNat, Int.reduceLE, true_and, and_true, reduceCtorEq, or_false, false_or, or_true, Option.some.injEq, exists_eq_left', Bool.not_true, Bool.not_false, ne_eq, Int.reduceEq, not_true_eq_false, not_false_eq_true, Int.reduceLT, UInt8.reduceLT, UInt8.reduceLE, UInt8.reduceToNat]
  obtain ⟨Q0, hQ0⟩ : ∃ Q0 : Ex → Env → St → Prop, Q0 = endQ st [.tmp 6] (.int .i64 (digD l least most), st) := ⟨_, rfl⟩
  rw [← hQ0]
  obtain ⟨I, hI⟩ : ∃ I : Nat → Env → St → Prop, I = fun k E S => ∃ (i : Nat), k = l.length - i ∧ i ≤ l.length ∧ i ≤ most ∧ Kept st S ∧ (l.take i).all isDg = true ∧ E 0 = .str l ∧ E 1 = .int .i64 (least : Int) ∧ E 2 = .int .i64 (most : Int) ∧ E 7 = .int .i64 ((valD (l.take i) : Nat) : Int) ∧ E 10 = .int .i64 (l.length : Int) ∧ E 11 = .int .i64 (i : Int) := ⟨_, rfl⟩
  refine W_loop I ?_ (n := l.length) (by
    rw [hI]
    exact ⟨0, rfl, by omega, by omega, Kept.start, rfl, rfl, rfl, rfl, rfl, rfl, rfl⟩)
  intro k E S hh
  rw [hI] at hh
  obtain ⟨i, rfl, hi, him, hk, hall, h0, h1, h2, h7, h10, h11⟩ := hh
  have bad : digD l least most = -1 → ∀ E : Env, E 6 = .int .i64 (-1) → Q0 .ret E S := fun h E k6 => by
    rw [hQ0, endQ_ret, h]
    exact retI k6 hk rfl
  by_cases hlt : i < l.length
  · obtain ⟨c, hc⟩ : ∃ c, c = l.getD i 0 := ⟨_, rfl⟩
    have htk : l.take (i + 1) = l.take i ++ [c] := by rw [List.take_add_one, hc]; simp [List.getD, hlt]
    have hbad1 : isDg c = false → digD l least most = -1 := fun h => by
      unfold digD
      rw [if_neg]
      rintro ⟨q, _⟩
      rw [List.all_eq_true] at q
      have : c ∈ l := by rw [hc]; simp [List.getD, hlt]
      rw [q c this] at h; cases h
    by_cases c1 : c < 48
    · simp (maxSteps := 1000000) (disch := omega) only [h0, h1, h2, h7, h10, h11, hlt, idx_s, ← hc, c1, W_seq, W_region, W_cond, W_block, W_skip, W_label, W_exit, W_goto, W_ret, WO_cons, WO_consG, WO_nil, wantedA_eq, wantB, evOp, ev_tmp, ev_const, ev_fn, WN_some, WN_none, updO_some, updO_none, upd_eq,
 ↓reduceIte, Nat.reduceEqDiff, List.nil_append, List.cons_append, List.append_nil, List.map_cons, List.map_nil, env0_zero, env0_succ, env0_nil, Option.map_some, Option.map_none, seqQ_normal, seqQ_ret, seqQ_exit, seqQ_goto, blockQ_normal, blockQ_ret, blockQ_exit, blockQ_goto, condW_bool, loopQ_ret, loopQ_exit, loopQ_goto, endQ_ret, endQ_normal, keep_mk, keep_st,
 lss_i, leq_i, gtr_i, geq_i, eql_i, neq_i, eql_8, neq_8, lss_8, leq_8, gtr_8, geq_8, eql_s, neq_s, eql_b, neq_b, not_b, by_bys, by_nils, load_cp1, beq_true, beq_false, Bool.not_eq_true', decide_eq_true_eq, decide_eq_false_iff_not, decide_true, decide_false,
 Int.toNat_natCast, Int.ofNat_lt, Int.ofNat_le, Int.natCast_inj, Bool.false_eq_true, Bool.true_eq_false, extPV, List.getElem?_cons_zero, List.getElem?_cons_succ, nilckPV, Int.reduceToNat, Int.reduceLE, true_and, and_true, reduceCtorEq, or_false, false_or, or_true, Option.some.injEq, exists_eq_left', Bool.not_true, Bool.not_false, ne_eq, Int.reduceEq, not_true_eq_false, not_false_eq_true, Int.reduceLT, UInt8.reduceLT, UInt8.reduceLE, UInt8.reduceToNat]
      exact bad (hbad1 (by simp only [isDg, c1, decide_true, decide_false, Bool.and_true, Bool.true_and, Bool.and_false, Bool.false_and, Bool.or_true, Bool.true_or, Bool.or_false, Bool.false_or, Bool.not_true, Bool.not_false, not_true_eq_false, not_false_eq_true])) _ rfl
    · by_cases c2 : 57 < c
      · simp (maxSteps := 1000000) (disch := omega) only [h0, h1, h2, h7, h10, h11, hlt, idx_s, ← hc, c1, c2, W_seq, W_region, W_cond, W_block, W_skip, W_label, W_exit, W_goto, W_ret, WO_cons, WO_consG, WO_nil, wantedA_eq, wantB, evOp, ev_tmp, ev_const, ev_fn, WN_some, WN_none, updO_some, updO_none, upd_eq,
 ↓reduceIte, Nat.reduceEqDiff, List.nil_append, List.cons_append, List.append_nil, List.map_cons, List.map_nil, env0_zero, env0_succ, env0_nil, Option.map_some, Option.map_none, seqQ_normal, seqQ_ret, seqQ_exit, seqQ_goto, blockQ_normal, blockQ_ret, blockQ_exit, blockQ_goto, condW_bool, loopQ_ret, loopQ_exit, loopQ_goto, endQ_ret, endQ_normal, keep_mk, keep_st,
 lss_i, leq_i, gtr_i, geq_i, eql_i, neq_i, eql_8, neq_8, lss_8, leq_8, gtr_8, geq_8, eql_s, neq_s, eql_b, neq_b, not_b, by_bys, by_nils, load_cp1, beq_true, beq_false, Bool.not_eq_true', decide_eq_true_eq, decide_eq_false_iff_not, decide_true, decide_false,
 Int.toNat_natCast, Int.ofNat_lt, Int.ofNat_le, Int.natCast_inj, Bool.false_eq_true, Bool.true_eq_false, extPV, List.getElem?_cons_zero, List.getElem?_cons_succ, nilckPV, Int.reduceToNat, Int.reduceLE, true_and, and_true, reduceCtorEq, or_false, false_or, or_true, Option.some.injEq, exists_eq_left', Bool.not_true, Bool.not_false, ne_eq, Int.reduceEq, not_true_eq_false, not_false_eq_true, Int.reduceLT, UInt8.reduceLT, UInt8.reduceLE, UInt8.reduceToNat]
        exact bad (hbad1 (by simp only [isDg, c1, c2, decide_true, decide_false, Bool.and_true, Bool.true_and, Bool.and_false, Bool.false_and, Bool.or_true, Bool.true_or, Bool.or_false, Bool.false_or, Bool.not_true, Bool.not_false, not_true_eq_false, not_false_eq_true])) _ rfl
      · have hdg : isDg c = true := by simp only [isDg, c1, c2, decide_true, decide_false, Bool.and_true, Bool.true_and, Bool.and_false, Bool.false_and, Bool.or_true, Bool.true_or, Bool.or_false, Bool.false_or, Bool.not_true, Bool.not_false, not_true_eq_false, not_false_eq_true]
        have hv := valD_lt i (l.take i) (by simp; omega) hall
        have hp : (10 : Nat) ^ i ≤ 10 ^ 16 := Nat.pow_le_pow_right (by decide) (by omega)
        have hp2 : (10 : Nat) ^ 16 = 10000000000000000 := by decide
        have h9 := dg_lt hdg
        have m10 : binPV .mul .no (.int .i64 10) (.int .i64 ((valD (l.take i) : Nat) : Int)) = some (.int .i64 ((10 * valD (l.take i) : Nat) : Int)) := mul_n (c := 10) (by omega)
        by_cases c3 : most ≤ i
        · simp (maxSteps := 1000000) (disch := omega) only [h0, h1, h2, h7, h10, h11, hlt, idx_s, ← hc, c1, c2, m10, sub_8, cI8, add_n, c3, W_seq, W_region, W_cond, W_block, W_skip, W_label, W_exit, W_goto, W_ret, WO_cons, WO_consG, WO_nil, wantedA_eq, wantB, evOp, ev_tmp, ev_const, ev_fn, WN_some, WN_none, updO_some, updO_none, upd_eq,
 ↓reduceIte, Nat.reduceEqDiff, List.nil_append, List.cons_append, List.append_nil, List.map_cons, List.map_nil, env0_zero, env0_succ, env0_nil, Option.map_some, Option.map_none, seqQ_normal, seqQ_ret, seqQ_exit, seqQ_goto, blockQ_normal, blockQ_ret, blockQ_exit, blockQ_goto, condW_bool, loopQ_ret, loopQ_exit, loopQ_goto, endQ_ret, endQ_normal, keep_mk, keep_st,
 lss_i, leq_i, gtr_i, geq_i, eql_i, neq_i, eql_8, neq_8, lss_8, leq_8, gtr_8, geq_8, eql_s, neq_s, eql_b, neq_b, not_b, by_bys, by_nils, load_cp1, beq_true, beq_false, Bool.not_eq_true', decide_eq_true_eq, decide_eq_false_iff_not, decide_true, decide_false,
 Int.toNat_natCast, Int.ofNat_lt, Int.ofNat_le, Int.natCast_inj, Bool.false_eq_true, Bool.true_eq_false, extPV, List.getElem?_cons_zero, List.getElem?_cons_succ, nilckPV, Int.reduceToNat, Int.reduceLE, true_and, and_true, reduceCtorEq, or_false, false_or, or_true, Option.some.injEq, exists_eq_left', Bool.not_true, Bool.not_false, ne_eq, Int.reduceEq, not_true_eq_false, not_false_eq_true, Int.reduceLT, UInt8.reduceLT, UInt8.reduceLE, UInt8.reduceToNat]
          refine bad ?_ _ rfl
          unfold digD
          rw [if_neg]
          rintro ⟨_, _, q⟩
          omega
        · simp (maxSteps := 1000000) (disch := omega) only [h0, h1, h2, h7, h10, h11, hlt, idx_s, ← hc, c1, c2, m10, sub_8, cI8, add_n, c3, loopQ_normal, W_seq, W_region, W_cond, W_block, W_skip, W_label, W_exit, W_goto, W_ret, WO_cons, WO_consG, WO_nil, wantedA_eq, wantB, evOp, ev_tmp, ev_const, ev_fn, WN_some, WN_none, updO_some, updO_none, upd_eq,
 ↓reduceIte, Nat.reduceEqDiff, List.nil_append, List.cons_append, List.append_nil, List.map_cons, List.map_nil, env0_zero, env0_succ, env0_nil, Option.map_some, Option.map_none, seqQ_normal, seqQ_ret, seqQ_exit, seqQ_goto, blockQ_normal, blockQ_ret, blockQ_exit, blockQ_goto, condW_bool, loopQ_ret, loopQ_exit, loopQ_goto, endQ_ret, endQ_normal, keep_mk, keep_st,
 lss_i, leq_i, gtr_i, geq_i, eql_i, neq_i, eql_8, neq_8, lss_8, leq_8, gtr_8, geq_8, eql_s, neq_s, eql_b, neq_b, not_b, by_bys, by_nils, load_cp1, beq_true, beq_false, Bool.not_eq_true', decide_eq_true_eq, decide_eq_false_iff_not, decide_true, decide_false,
 Int.toNat_natCast, Int.ofNat_lt, Int.ofNat_le, Int.natCast_inj, Bool.false_eq_true, Bool.true_eq_false, extPV, List.getElem?_cons_zero, List.getElem?_cons_succ, nilckPV, Int.reduceToNat, Int.reduceLE, true_and, and_true, reduceCtorEq, or_false, false_or, or_true, Option.some.injEq, exists_eq_left', Bool.not_true, Bool.not_false, ne_eq, Int.reduceEq, not_true_eq_false, not_false_eq_true, Int.reduceLT, UInt8.reduceLT, UInt8.reduceLE, UInt8.reduceToNat]
          refine ⟨l.length - (i + 1), by omega, ?_⟩
          rw [hI]
          exact ⟨i + 1, rfl, by omega, by omega, hk, by rw [htk, List.all_append, hall]; simp [hdg], h0, h1, h2, by rw [htk, valD_snoc]; rfl, h10, rfl⟩
  · obtain rfl : i = l.length := by omega
    rw [List.take_length] at hall h7
    by_cases c4 : l.length < least
    · simp (maxSteps := 1000000) (disch := omega) only [h0, h1, h2, h7, h10, h11, hlt, len_s, c4, W_seq, W_region, W_cond, W_block, W_skip, W_label, W_exit, W_goto, W_ret, WO_cons, WO_consG, WO_nil, wantedA_eq, wantB, evOp, ev_tmp, ev_const, ev_fn, WN_some, WN_none, updO_some, updO_none, upd_eq,
 ↓reduceIte, Nat.reduceEqDiff, List.nil_append, List.cons_append, List.append_nil, List.map_cons, List.map_nil, env0_zero, env0_succ, env0_nil, Option.map_some, Option.map_none, seqQ_normal, seqQ_ret, seqQ_exit, seqQ_goto, blockQ_normal, blockQ_ret, blockQ_exit, blockQ_goto, condW_bool, loopQ_ret, loopQ_exit, loopQ_goto, endQ_ret, endQ_normal, keep_mk, keep_st,
 lss_i, leq_i, gtr_i, geq_i, eql_i, neq_i, eql_8, neq_8, lss_8, leq_8, gtr_8, geq_8, eql_s, neq_s, eql_b, neq_b, not_b, by_bys, by_nils, load_cp1, beq_true, beq_false, Bool.not_eq_true', decide_eq_true_eq, decide_eq_false_iff_not, decide_true, decide_false,
 Int.toNat_natCast, Int.ofNat_lt, Int.ofNat_le, Int.natCast_inj, Bool.false_eq_true, Bool.true_eq_false, extPV, List.getElem?_cons_zero, List.getElem?_cons_succ, nilckPV, Int.reduceToNat, Int.reduceLE, true_and, and_true, reduceCtorEq, or_false, false_or, or_true, Option.some.injEq, exists_eq_left', Bool.not_true, Bool.not_false, ne_eq, Int.reduceEq, not_true_eq_false, not_false_eq_true, Int.reduceLT, UInt8.reduceLT, UInt8.reduceLE, UInt8.reduceToNat]
      refine bad ?_ _ rfl
      unfold digD
      rw [if_neg]
      rintro ⟨_, q, _⟩
      omega
    · simp (maxSteps := 1000000) (disch := omega) only [h0, h1, h2, h7, h10, h11, hlt, len_s, c4, W_seq, W_region, W_cond, W_block, W_skip, W_label, W_exit, W_goto, W_ret, WO_cons, WO_consG, WO_nil, wantedA_eq, wantB, evOp, ev_tmp, ev_const, ev_fn, WN_some, WN_none, updO_some, updO_none, upd_eq,
 ↓reduceIte, Nat.reduceEqDiff, List.nil_append, List.cons_append, List.append_nil, List.map_cons, List.map_nil, env0_zero, env0_succ, env0_nil, Option.map_some, Option.map_none, seqQ_normal, seqQ_ret, seqQ_exit, seqQ_goto, blockQ_normal, blockQ_ret, blockQ_exit, blockQ_goto, condW_bool, loopQ_ret, loopQ_exit, loopQ_goto, endQ_ret, endQ_normal, keep_mk, keep_st,
 lss_i, leq_i, gtr_i, geq_i, eql_i, neq_i, eql_8, neq_8, lss_8, leq_8, gtr_8, geq_8, eql_s, neq_s, eql_b, neq_b, not_b, by_bys, by_nils, load_cp1, beq_true, beq_false, Bool.not_eq_true', decide_eq_true_eq, decide_eq_false_iff_not, decide_true, decide_false,
 Int.toNat_natCast, Int.ofNat_lt, Int.ofNat_le, Int.natCast_inj, Bool.false_eq_true, Bool.true_eq_false, extPV, List.getElem?_cons_zero, List.getElem?_cons_succ, nilckPV, Int.reduceToNat, Int.reduceLE, true_and, and_true, reduceCtorEq, or_false, false_or, or_true, Option.some.injEq, exists_eq_left', Bool.not_true, Bool.not_false, ne_eq, Int.reduceEq, not_true_eq_false, not_false_eq_true, Int.reduceLT, UInt8.reduceLT, UInt8.reduceLE, UInt8.reduceToNat]
      rw [hQ0, endQ_ret]
      refine retI rfl hk ?_
      unfold digD
      rw [if_pos ⟨hall, by omega, him⟩]
end Go.Ab

/-
  Dates are read: names, years.
-/
namespace Go.Ab
set_option linter.unusedVariables false
set_option linter.unusedSimpArgs false
set_option maxRecDepth 20000
variable {st s : St} {e : Env}

theorem find_at {n i : Nat} {m : Nat → Bool} (hi : i < n) (h : ∀ j, j < i → m j = false) (hm : m i = true) : (List.range n).find? m = some i := by
  induction n with
  | zero => omega
  | succ n ih =>
    rw [List.range_succ, List.find?_append]
    by_cases hn : i < n
    · rw [ih hn]; rfl
    · obtain rfl : i = n := by omega
      have : (List.range i).find? m = none := List.find?_eq_none.2 fun x hx => by rw [h x (List.mem_range.1 hx)]; simp
      rw [this]; simp [hm]
theorem find_no {n : Nat} {m : Nat → Bool} (h : ∀ j, j < n → m j = false) : (List.range n).find? m = none :=
  List.find?_eq_none.2 fun x hx => by rw [h x (List.mem_range.1 hx)]; simp

def nmM (s : Bs) (tab : Nat → Bs) (i : Nat) : Bool := decide (lowOf (tab i) = lowOf s) && !decide (s = [])
/-- A name's number among names. -/
def nmD (s : Bs) (n : Nat) (tab : Nat → Bs) : Int := match (List.range n).find? (nmM s tab) with
  | some i => i
  | none => -1

set_option maxHeartbeats 1000000 in
theorem name_spec {l : Bs} {n f : Nat} {tab : Nat → Bs} (hl : l.length ≤ 1000000) (hn : n ≤ 100) (hf : ∀ (S : St) (i : Nat), i < n → call prog (.fn f []) [.int .i64 (i : Int)] S = some (.str (tab i), S)) (ht : ∀ i, i < n → (tab i).length ≤ 1000000) :
    call prog (.fn 288 []) [.str l, .int .i64 (n : Int), .fn f []] st = some (.int .i64 (nmD l n tab), st) := by
  refine call_of_W prog_288 ?_
  unfold F_date_name; dsimp only
  simp (maxSteps := 1000000) (disch := omega) only [W_seq, W_region, W_cond, W_block, W_skip, W_label, W_exit, W_goto, W_ret, WO_cons, WO_consG, WO_nil, wantedA_eq, wantB, evOp, ev_tmp, ev_const, ev_fn, WN_some, WN_none, updO_some, updO_none, upd_eq,
 ↓reduceIte, Nat.reduceEqDiff, List.nil_append, List.cons_append, List.append_nil, List.map_cons, List.map_nil, env0_zero, env0_succ, env0_nil, Option.map_some, Option.map_none, seqQ_normal, seqQ_ret, seqQ_exit, seqQ_goto, blockQ_normal, blockQ_ret, blockQ_exit, blockQ_goto, condW_bool, loopQ_ret, loopQ_exit, loopQ_goto, endQ_ret, endQ_normal, keep_mk, keep_st,
 lss_i, leq_i, gtr_i, geq_i, eql_i, neq_i, eql_8, neq_8, lss_8, leq_8, gtr_8, geq_8, eql_s, neq_s, eql_b, neq_b, not_b, by_bys, by_nils, load_cp1, beq_true, beq_false, Bool.not_eq_true', decide_eq_true_eq, decide_eq_false_iff_not, decide_true, decide_false,
 Int.toNat_natCast, Int.ofNat_lt, Int.ofNat_le, Int.natCast_inj, Bool.false_eq_true, Bool.true_eq_false, extPV, List.getElem?_cons_zero, List.getElem?_cons_succ, nilckPV, Int.reduceToNat, Int.reduceLE, true_and, and_true, reduceCtorEq, or_false, false_or, or_true, Option.some.injEq, exists_eq_left', Bool.not_true, Bool.not_false, ne_eq, Int.reduceEq, not_true_eq_false, not_false_eq_true, Int.reduceLT, UInt8.reduceLT, UInt8.reduceLE, UInt8.reduceToNat]
  obtain ⟨Q0, hQ0⟩ : ∃ Q0 : Ex → Env → St → Prop, Q0 = endQ st [.tmp 6] (.int .i64 (nmD l n tab), st) := ⟨_, rfl⟩
  rw [← hQ0]
  have hll := fun S : St => dlower_spec (st := S) hl
  obtain ⟨I, hI⟩ : ∃ I : Nat → Env → St → Prop, I = fun k E S => ∃ (i : Nat), k = n - i ∧ i ≤ n ∧ Kept st S ∧ (∀ j, j < i → nmM l tab j = false) ∧ E 0 = .str l ∧ E 2 = .fn f [] ∧ E 8 = .int .i64 (n : Int) ∧ E 9 = .int .i64 (i : Int) := ⟨_, rfl⟩
  refine W_loop I ?_ (n := n) (by
    rw [hI]
    exact ⟨0, rfl, by omega, Kept.start, fun j h => by omega, rfl, rfl, rfl, rfl⟩)
  intro k E S hh
  rw [hI] at hh
  obtain ⟨i, rfl, hi, hk, hall, h0, h2, h8, h9⟩ := hh
  by_cases hlt : i < n
  · have hfi := fun S : St => hf S i hlt
    have htl := fun S : St => dlower_spec (st := S) (ht i hlt)
    have next : nmM l tab i = false → ∀ E : Env, E 0 = .str l → E 2 = .fn f [] → E 8 = .int .i64 (n : Int) → E 9 = .int .i64 ((i + 1 : Nat) : Int) → ∃ m, m < n - i ∧ I m E S := fun h E k0 k2 k8 k9 =>
      ⟨n - (i + 1), by omega, by
        rw [hI]
        refine ⟨i + 1, rfl, by omega, hk, fun j hj => ?_, k0, k2, k8, k9⟩
        by_cases hji : j = i
        · subst hji; exact h
        · exact hall j (by omega)⟩
    by_cases c1 : lowOf (tab i) = lowOf l
    · by_cases c2 : l = []
      · simp (maxSteps := 1000000) (disch := omega) only [h0, h2, h8, h9, hlt, hfi, htl, hll, eq_true c1, eq_true c2, add_n, loopQ_normal, W_seq, W_region, W_cond, W_block, W_skip, W_label, W_exit, W_goto, W_ret, WO_cons, WO_consG, WO_nil, wantedA_eq, wantB, evOp, ev_tmp, ev_const, ev_fn, WN_some, WN_none, updO_some, updO_none, upd_eq,
 ↓reduceIte, Nat.reduceEqDiff, List.nil_append, List.cons_append, List.append_nil, List.map_cons, List.map_nil, env0_zero, env0_succ, env0_nil, Option.map_some, Option.map_none, seqQ_normal, seqQ_ret, seqQ_exit, seqQ_goto, blockQ_normal, blockQ_ret, blockQ_exit, blockQ_goto, condW_bool, loopQ_ret, loopQ_exit, loopQ_goto, endQ_ret, endQ_normal, keep_mk, keep_st,
 lss_i, leq_i, gtr_i, geq_i, eql_i, neq_i, eql_8, neq_8, lss_8, leq_8, gtr_8, geq_8, eql_s, neq_s, eql_b, neq_b, not_b, by_bys, by_nils, load_cp1, beq_true, beq_false, Bool.not_eq_true', decide_eq_true_eq, decide_eq_false_iff_not, decide_true, decide_false,
 Int.toNat_natCast, Int.ofNat_lt, Int.ofNat_le, Int.natCast_inj, Bool.false_eq_true, Bool.true_eq_false, extPV, List.getElem?_cons_zero, List.getElem?_cons_succ, nilckPV, Int.reduceToNat, Int.reduceLE, true_and, and_true, reduceCtorEq, or_false, false_or, or_true, Option.some.injEq, exists_eq_left', Bool.not_true, Bool.not_false, ne_eq, Int.reduceEq, not_true_eq_false, not_false_eq_true, Int.reduceLT, UInt8.reduceLT, UInt8.reduceLE, UInt8.reduceToNat]
        exact next (by simp [nmM, c2]) _ h0 h2 h8 rfl
      · simp (maxSteps := 1000000) (disch := omega) only [h0, h2, h8, h9, hlt, hfi, htl, hll, eq_true c1, c2, W_seq, W_region, W_cond, W_block, W_skip, W_label, W_exit, W_goto, W_ret, WO_cons, WO_consG, WO_nil, wantedA_eq, wantB, evOp, ev_tmp, ev_const, ev_fn, WN_some, WN_none, updO_some, updO_none, upd_eq,
 ↓reduceIte, Nat.reduceEqDiff, List.nil_append, List.cons_append, List.append_nil, List.map_cons, List.map_nil, env0_zero, env0_succ, env0_nil, Option.map_some, Option.map_none, seqQ_normal, seqQ_ret, seqQ_exit, seqQ_goto, blockQ_normal, blockQ_ret, blockQ_exit, blockQ_goto, condW_bool, loopQ_ret, loopQ_exit, loopQ_goto, endQ_ret, endQ_normal, keep_mk, keep_st,
 lss_i, leq_i, gtr_i, geq_i, eql_i, neq_i, eql_8, neq_8, lss_8, leq_8, gtr_8, geq_8, eql_s, neq_s, eql_b, neq_b, not_b, by_bys, by_nils, load_cp1, beq_true, beq_false, Bool.not_eq_true', decide_eq_true_eq, decide_eq_false_iff_not, decide_true, decide_false,
 Int.toNat_natCast, Int.ofNat_lt, Int.ofNat_le, Int.natCast_inj, Bool.false_eq_true, Bool.true_eq_false, extPV, List.getElem?_cons_zero, List.getElem?_cons_succ, nilckPV, Int.reduceToNat, Int.reduceLE, true_and, and_true, reduceCtorEq, or_false, false_or, or_true, Option.some.injEq, exists_eq_left', Bool.not_true, Bool.not_false, ne_eq, Int.reduceEq, not_true_eq_false, not_false_eq_true, Int.reduceLT, UInt8.reduceLT, UInt8.reduceLE, UInt8.reduceToNat]
        rw [hQ0, endQ_ret]
        refine retI rfl hk ?_
        unfold nmD
        rw [find_at hlt hall (by simp [nmM, c1, c2])]
    · simp (maxSteps := 1000000) (disch := omega) only [h0, h2, h8, h9, hlt, hfi, htl, hll, c1, add_n, loopQ_normal, W_seq, W_region, W_cond, W_block, W_skip, W_label, W_exit, W_goto, W_ret, WO_cons, WO_consG, WO_nil, wantedA_eq, wantB, evOp, ev_tmp, ev_const, ev_fn, WN_some, WN_none, updO_some, updO_none, upd_eq,
 ↓reduceIte, Nat.reduceEqDiff, List.nil_append, List.cons_append, List.append_nil, List.map_cons, List.map_nil, env0_zero, env0_succ, env0_nil, Option.map_some, Option.map_none, seqQ_normal, seqQ_ret, seqQ_exit, seqQ_goto, blockQ_normal, blockQ_ret, blockQ_exit, blockQ_goto, condW_bool, loopQ_ret, loopQ_exit, loopQ_goto, endQ_ret, endQ_normal, keep_mk, keep_st,
 lss_i, leq_i, gtr_i, geq_i, eql_i, neq_i, eql_8, neq_8, lss_8, leq_8, gtr_8, geq_8, eql_s, neq_s, eql_b, neq_b, not_b, by_bys, by_nils, load_cp1, beq_true, beq_false, Bool.not_eq_true', decide_eq_true_eq, decide_eq_false_iff_not, decide_true, decide_false,
 Int.toNat_natCast, Int.ofNat_lt, Int.ofNat_le, Int.natCast_inj, Bool.false_eq_true, Bool.true_eq_false, extPV, List.getElem?_cons_zero, List.getElem?_cons_succ, nilckPV, Int.reduceToNat, Int.reduceLE, true_and, and_true, reduceCtorEq, or_false, false_or, or_true, Option.some.injEq, exists_eq_left', Bool.not_true, Bool.not_false, ne_eq, Int.reduceEq, not_true_eq_false, not_false_eq_true, Int.reduceLT, UInt8.reduceLT, UInt8.reduceLE, UInt8.reduceToNat]
      exact next (by simp [nmM, c1]) _ h0 h2 h8 rfl
  · obtain rfl : i = n := by omega
    simp (maxSteps := 1000000) (disch := omega) only [h0, h2, h8, h9, hlt, W_seq, W_region, W_cond, W_block, W_skip, W_label, W_exit, W_goto, W_ret, WO_cons, WO_consG, WO_nil, wantedA_eq, wantB, evOp, ev_tmp, ev_const, ev_fn, WN_some, WN_none, updO_some, updO_none, upd_eq,
 ↓reduceIte, Nat.reduceEqDiff, List.nil_append, List.cons_append, List.append_nil, List.map_cons, List.map_nil, env0_zero, env0_succ, env0_nil, Option.map_some, Option.map_none, seqQ_normal, seqQ_ret, seqQ_exit, seqQ_goto, blockQ_normal, blockQ_ret, blockQ_exit, blockQ_goto, condW_bool, loopQ_ret, loopQ_exit, loopQ_goto, endQ_ret, endQ_normal, keep_mk, keep_st,
 lss_i, leq_i, gtr_i, geq_i, eql_i, neq_i, eql_8, neq_8, lss_8, leq_8, gtr_8, geq_8, eql_s, neq_s, eql_b, neq_b, not_b, by_bys, by_nils, load_cp1, beq_true, beq_false, Bool.not_eq_true', decide_eq_true_eq, decide_eq_false_iff_not, decide_true, decide_false,
 Int.toNat_natCast, Int.ofNat_lt, Int.ofNat_le, Int.natCast_inj, Bool.false_eq_true, Bool.true_eq_false, extPV, List.getElem?_cons_zero, List.getElem?_cons_succ, nilckPV, Int.reduceToNat, Int.reduceLE, true_and, and_true, reduceCtorEq, or_false, false_or, or_true, Option.some.injEq, exists_eq_left', Bool.not_true, Bool.not_false, ne_eq, Int.reduceEq, not_true_eq_false, not_false_eq_true, Int.reduceLT, UInt8.reduceLT, UInt8.reduceLE, UInt8.reduceToNat]
    rw [hQ0, endQ_ret]
    refine retI rfl hk ?_
    unfold nmD
    rw [find_no hall]

theorem day_spec {l : Bs} (hl : l.length ≤ 1000000) : call prog (.fn 288 []) [.str l, .int .i64 7, .fn 277 []] st = some (.int .i64 (nmD l 7 dayT), st) :=
  name_spec (n := 7) hl (by omega) (fun S i hi => dayName_spec hi) (fun i hi => by rw [dayT_len hi]; omega)
theorem mon_len {i : Nat} (h : i < 13) : (monT i).length ≤ 3 := by
  by_cases h0 : i = 0
  · subst h0; decide
  · rw [monT_len (by omega) (by omega)]; omega
theorem mon_spec {l : Bs} (hl : l.length ≤ 1000000) : call prog (.fn 288 []) [.str l, .int .i64 13, .fn 278 []] st = some (.int .i64 (nmD l 13 monT), st) :=
  name_spec (n := 13) hl (by omega) (fun S i hi => monthName_spec hi) (fun i hi => by have := mon_len hi; omega)

def yrD (s : Bs) : Int := if s.length = 4 then digD s 4 4 else if digD s 2 2 < 0 then -1 else if digD s 2 2 < 50 then 2000 + digD s 2 2 else 1900 + digD s 2 2
theorem digD_bound {s : Bs} {a b : Nat} (hb : b ≤ 4) : -1 ≤ digD s a b ∧ digD s a b < 10000 := by
  unfold digD
  split
  · rename_i h
    have h1 := valD_lt s.length s rfl h.1
    have h2 : (10 : Nat) ^ s.length ≤ 10 ^ 4 := Nat.pow_le_pow_right (by decide) (by omega)
    have h3 : (10 : Nat) ^ 4 = 10000 := by decide
    omega
  · omega
theorem year_spec {l : Bs} (hl : l.length ≤ 1000000) : call prog (.fn 289 []) [.str l] st = some (.int .i64 (yrD l), st) := by
  refine call_of_W prog_289 ?_
  unfold F_date_year; dsimp only
  have d4 := fun S : St => digits_spec (st := S) (l := l) (least := 4) (most := 4) (by omega) (by omega) (by omega)
  have d2 := fun S : St => digits_spec (st := S) (l := l) (least := 2) (most := 2) (by omega) (by omega) (by omega)
  rw [show (((4 : Nat) : Int)) = 4 from rfl] at d4
  rw [show (((2 : Nat) : Int)) = 2 from rfl] at d2
  have hb := digD_bound (s := l) (a := 2) (b := 2) (by omega)
  by_cases h4 : l.length = 4
  · have e4 : ((l.length : Int) = 4) := by omega
    simp (maxSteps := 1000000) (disch := omega) only [len_s, eq_true e4, d4, W_seq, W_region, W_cond, W_block, W_skip, W_label, W_exit, W_goto, W_ret, WO_cons, WO_consG, WO_nil, wantedA_eq, wantB, evOp, ev_tmp, ev_const, ev_fn, WN_some, WN_none, updO_some, updO_none, upd_eq,
 ↓reduceIte, Nat.reduceEqDiff, List.nil_append, List.cons_append, List.append_nil, List.map_cons, List.map_nil, env0_zero, env0_succ, env0_nil, Option.map_some, Option.map_none, seqQ_normal, seqQ_ret, seqQ_exit, seqQ_goto, blockQ_normal, blockQ_ret, blockQ_exit, blockQ_goto, condW_bool, loopQ_ret, loopQ_exit, loopQ_goto, endQ_ret, endQ_normal, keep_mk, keep_st,
 lss_i, leq_i, gtr_i, geq_i, eql_i, neq_i, eql_8, neq_8, lss_8, leq_8, gtr_8, geq_8, eql_s, neq_s, eql_b, neq_b, not_b, by_bys, by_nils, load_cp1, beq_true, beq_false, Bool.not_eq_true', decide_eq_true_eq, decide_eq_false_iff_not, decide_true, decide_false,
 Int.toNat_natCast, Int.ofNat_lt, Int.ofNat_le, Int.natCast_inj, Bool.false_eq_true, Bool.true_eq_false, extPV, List.getElem?_cons_zero, List.getElem?_cons_succ, nilckPV, Int.reduceToNat, Int.reduceLE, true_and, and_true, reduceCtorEq, or_false, false_or, or_true, Option.some.injEq, exists_eq_left', Bool.not_true, Bool.not_false, ne_eq, Int.reduceEq, not_true_eq_false, not_false_eq_true, Int.reduceLT, UInt8.reduceLT, UInt8.reduceLE, UInt8.reduceToNat]
    exact retI rfl Kept.start (by simp [yrD, h4])
  · have e4 : ¬ ((l.length : Int) = 4) := by omega
    obtain ⟨n, hn⟩ : ∃ n, n = digD l 2 2 := ⟨_, rfl⟩
    rw [← hn] at d2 hb
    by_cases c1 : n < 0
    · simp (maxSteps := 1000000) (disch := omega) only [len_s, e4, d2, c1, W_seq, W_region, W_cond, W_block, W_skip, W_label, W_exit, W_goto, W_ret, WO_cons, WO_consG, WO_nil, wantedA_eq, wantB, evOp, ev_tmp, ev_const, ev_fn, WN_some, WN_none, updO_some, updO_none, upd_eq,
 ↓reduceIte, Nat.reduceEqDiff, List.nil_append, List.cons_append, List.append_nil, List.map_cons, List.map_nil, env0_zero, env0_succ, env0_nil, Option.map_some, Option.map_none, seqQ_normal, seqQ_ret, seqQ_exit, seqQ_goto, blockQ_normal, blockQ_ret, blockQ_exit, blockQ_goto, condW_bool, loopQ_ret, loopQ_exit, loopQ_goto, endQ_ret, endQ_normal, keep_mk, keep_st,
 lss_i, leq_i, gtr_i, geq_i, eql_i, neq_i, eql_8, neq_8, lss_8, leq_8, gtr_8, geq_8, eql_s, neq_s, eql_b, neq_b, not_b, by_bys, by_nils, load_cp1, beq_true, beq_false, Bool.not_eq_true', decide_eq_true_eq, decide_eq_false_iff_not, decide_true, decide_false,
 Int.toNat_natCast, Int.ofNat_lt, Int.ofNat_le, Int.natCast_inj, Bool.false_eq_true, Bool.true_eq_false, extPV, List.getElem?_cons_zero, List.getElem?_cons_succ, nilckPV, Int.reduceToNat, Int.reduceLE, true_and, and_true, reduceCtorEq, or_false, false_or, or_true, Option.some.injEq, exists_eq_left', Bool.not_true, Bool.not_false, ne_eq, Int.reduceEq, not_true_eq_false, not_false_eq_true, Int.reduceLT, UInt8.reduceLT, UInt8.reduceLE, UInt8.reduceToNat]
      exact retI rfl Kept.start (by simp [yrD, h4, ← hn, c1])
    · by_cases c2 : n < 50
      · simp (maxSteps := 1000000) (disch := omega) only [len_s, e4, d2, c1, c2, add_i, W_seq, W_region, W_cond, W_block, W_skip, W_label, W_exit, W_goto, W_ret, WO_cons, WO_consG, WO_nil, wantedA_eq, wantB, evOp, ev_tmp, ev_const, ev_fn, WN_some, WN_none, updO_some, updO_none, upd_eq,
 ↓reduceIte, Nat.reduceEqDiff, List.nil_append, List.cons_append, List.append_nil, List.map_cons, List.map_nil, env0_zero, env0_succ, env0_nil, Option.map_some, Option.map_none, seqQ_normal, seqQ_ret, seqQ_exit, seqQ_goto, blockQ_normal, blockQ_ret, blockQ_exit, blockQ_goto, condW_bool, loopQ_ret, loopQ_exit, loopQ_goto, endQ_ret, endQ_normal, keep_mk, keep_st,
 lss_i, leq_i, gtr_i, geq_i, eql_i, neq_i, eql_8, neq_8, lss_8, leq_8, gtr_8, geq_8, eql_s, neq_s, eql_b, neq_b, not_b, by_bys, by_nils, load_cp1, beq_true, beq_false, Bool.not_eq_true', decide_eq_true_eq, decide_eq_false_iff_not, decide_true, decide_false,
 Int.toNat_natCast, Int.ofNat_lt, Int.ofNat_le, Int.natCast_inj, Bool.false_eq_true, Bool.true_eq_false, extPV, List.getElem?_cons_zero, List.getElem?_cons_succ, nilckPV, Int.reduceToNat, Int.reduceLE, true_and, and_true, reduceCtorEq, or_false, false_or, or_true, Option.some.injEq, exists_eq_left', Bool.not_true, Bool.not_false, ne_eq, Int.reduceEq, not_true_eq_false, not_false_eq_true, Int.reduceLT, UInt8.reduceLT, UInt8.reduceLE, UInt8.reduceToNat]
        exact retI rfl Kept.start (by simp [yrD, h4, ← hn, c1, c2])
      · simp (maxSteps := 1000000) (disch := omega) only [len_s, e4, d2, c1, c2, add_i, W_seq, W_region, W_cond, W_block, W_skip, W_label, W_exit, W_goto, W_ret, WO_cons, WO_consG, WO_nil, wantedA_eq, wantB, evOp, ev_tmp, ev_const, ev_fn, WN_some, WN_none, updO_some, updO_none, upd_eq,
 ↓reduceIte, Nat.reduceEqDiff, List.nil_append, List.cons_append, List.append_nil, List.map_cons, List.map_nil, env0_zero, env0_succ, env0_nil, Option.map_some, Option.map_none, seqQ_normal, seqQ_ret, seqQ_exit, seqQ_goto, blockQ_normal, blockQ_ret, blockQ_exit, blockQ_goto, condW_bool, loopQ_ret, loopQ_exit, loopQ_goto, endQ_ret, endQ_normal, keep_mk, keep_st,
 lss_i, leq_i, gtr_i, geq_i, eql_i, neq_i, eql_8, neq_8, lss_8, leq_8, gtr_8, geq_8, eql_s, neq_s, eql_b, neq_b, not_b, by_bys, by_nils, load_cp1, beq_true, beq_false, Bool.not_eq_true', decide_eq_true_eq, decide_eq_false_iff_not, decide_true, decide_false,
 Int.toNat_natCast, Int.ofNat_lt, Int.ofNat_le, Int.natCast_inj, Bool.false_eq_true, Bool.true_eq_false, extPV, List.getElem?_cons_zero, List.getElem?_cons_succ, nilckPV, Int.reduceToNat, Int.reduceLE, true_and, and_true, reduceCtorEq, or_false, false_or, or_true, Option.some.injEq, exists_eq_left', Bool.not_true, Bool.not_false, ne_eq, Int.reduceEq, not_true_eq_false, not_false_eq_true, Int.reduceLT, UInt8.reduceLT, UInt8.reduceLE, UInt8.reduceToNat]
        exact retI rfl Kept.start (by simp [yrD, h4, ← hn, c1, c2])
end Go.Ab

/-
  Dates are read: days, clocks, zones.
-/
namespace Go.Ab
set_option linter.unusedVariables false
set_option linter.unusedSimpArgs false
set_option maxRecDepth 20000
variable {st s : St} {e : Env}

def daysD (y m d : Int) : Int × Int := if 1970 ≤ y ∧ y ≤ 9999 ∧ 1 ≤ m ∧ m ≤ 12 ∧ 1 ≤ d ∧ d ≤ (mdY y.toNat m.toNat : Int) then ((befY y.toNat + cumY y.toNat m.toNat : Nat) + d - 1, 0) else (0, 110)

set_option maxHeartbeats 1000000 in
theorem Days_spec {y m d : Int} : call prog (.fn 292 []) [.int .i64 y, .int .i64 m, .int .i64 d] st = some (.tup [.int .i64 (daysD y m d).1, .int .i64 (daysD y m d).2], st) := by
  refine call_of_W prog_292 ?_
  unfold F_when_Days; dsimp only
  have bad : (¬ (1970 ≤ y ∧ y ≤ 9999 ∧ 1 ≤ m ∧ m ≤ 12 ∧ 1 ≤ d ∧ d ≤ (mdY y.toNat m.toNat : Int))) → ∀ E : Env, E 6 = .int .i64 0 → E 7 = .int .i64 110 → ∃ rv, resOf E { boxes := st.boxes, toks := st.toks, loops := st.loops, low := st.boxes.length } [.tmp 6, .tmp 7] = some rv ∧ leave st { boxes := st.boxes, toks := st.toks, loops := st.loops, low := st.boxes.length } rv = (.tup [.int .i64 (daysD y m d).1, .int .i64 (daysD y m d).2], st) := fun h E k6 k7 => by
    unfold daysD
    rw [if_neg h]
    exact retII k6 k7 Kept.start rfl rfl
  by_cases a1 : y < 1970
  · simp (maxSteps := 1000000) (disch := omega) only [a1, W_seq, W_region, W_cond, W_block, W_skip, W_label, W_exit, W_goto, W_ret, WO_cons, WO_consG, WO_nil, wantedA_eq, wantB, evOp, ev_tmp, ev_const, ev_fn, WN_some, WN_none, updO_some, updO_none, upd_eq,
 ↓reduceIte, Nat.reduceEqDiff, List.nil_append, List.cons_append, List.append_nil, List.map_cons, List.map_nil, env0_zero, env0_succ, env0_nil, Option.map_some, Option.map_none, seqQ_normal, seqQ_ret, seqQ_exit, seqQ_goto, blockQ_normal, blockQ_ret, blockQ_exit, blockQ_goto, condW_bool, loopQ_ret, loopQ_exit, loopQ_goto, endQ_ret, endQ_normal, keep_mk, keep_st,
 lss_i, leq_i, gtr_i, geq_i, eql_i, neq_i, eql_8, neq_8, lss_8, leq_8, gtr_8, geq_8, eql_s, neq_s, eql_b, neq_b, not_b, by_bys, by_nils, load_cp1, beq_true, beq_false, Bool.not_eq_true', decide_eq_true_eq, decide_eq_false_iff_not, decide_true, decide_false,
 Int.toNat_natCast, Int.ofNat_lt, Int.ofNat_le, Int.natCast_inj, Bool.false_eq_true, Bool.true_eq_false, extPV, List.getElem?_cons_zero, List.getElem?_cons_succ, nilckPV, Int.reduceToNat, Int.reduceLE, true_and, and_true, reduceCtorEq, or_false, false_or, or_true, Option.some.injEq, exists_eq_left', Bool.not_true, Bool.not_false, ne_eq, Int.reduceEq, not_true_eq_false, not_false_eq_true, Int.reduceLT, UInt8.reduceLT, UInt8.reduceLE, UInt8.reduceToNat]
    exact bad (by omega) _ rfl rfl
  by_cases a2 : 9999 < y
  · simp (maxSteps := 1000000) (disch := omega) only [a1, a2, W_seq, W_region, W_cond, W_block, W_skip, W_label, W_exit, W_goto, W_ret, WO_cons, WO_consG, WO_nil, wantedA_eq, wantB, evOp, ev_tmp, ev_const, ev_fn, WN_some, WN_none, updO_some, updO_none, upd_eq,
 ↓reduceIte, Nat.reduceEqDiff, List.nil_append, List.cons_append, List.append_nil, List.map_cons, List.map_nil, env0_zero, env0_succ, env0_nil, Option.map_some, Option.map_none, seqQ_normal, seqQ_ret, seqQ_exit, seqQ_goto, blockQ_normal, blockQ_ret, blockQ_exit, blockQ_goto, condW_bool, loopQ_ret, loopQ_exit, loopQ_goto, endQ_ret, endQ_normal, keep_mk, keep_st,
 lss_i, leq_i, gtr_i, geq_i, eql_i, neq_i, eql_8, neq_8, lss_8, leq_8, gtr_8, geq_8, eql_s, neq_s, eql_b, neq_b, not_b, by_bys, by_nils, load_cp1, beq_true, beq_false, Bool.not_eq_true', decide_eq_true_eq, decide_eq_false_iff_not, decide_true, decide_false,
 Int.toNat_natCast, Int.ofNat_lt, Int.ofNat_le, Int.natCast_inj, Bool.false_eq_true, Bool.true_eq_false, extPV, List.getElem?_cons_zero, List.getElem?_cons_succ, nilckPV, Int.reduceToNat, Int.reduceLE, true_and, and_true, reduceCtorEq, or_false, false_or, or_true, Option.some.injEq, exists_eq_left', Bool.not_true, Bool.not_false, ne_eq, Int.reduceEq, not_true_eq_false, not_false_eq_true, Int.reduceLT, UInt8.reduceLT, UInt8.reduceLE, UInt8.reduceToNat]
    exact bad (by omega) _ rfl rfl
  by_cases a3 : m < 1
  · simp (maxSteps := 1000000) (disch := omega) only [a1, a2, a3, W_seq, W_region, W_cond, W_block, W_skip, W_label, W_exit, W_goto, W_ret, WO_cons, WO_consG, WO_nil, wantedA_eq, wantB, evOp, ev_tmp, ev_const, ev_fn, WN_some, WN_none, updO_some, updO_none, upd_eq,
 ↓reduceIte, Nat.reduceEqDiff, List.nil_append, List.cons_append, List.append_nil, List.map_cons, List.map_nil, env0_zero, env0_succ, env0_nil, Option.map_some, Option.map_none, seqQ_normal, seqQ_ret, seqQ_exit, seqQ_goto, blockQ_normal, blockQ_ret, blockQ_exit, blockQ_goto, condW_bool, loopQ_ret, loopQ_exit, loopQ_goto, endQ_ret, endQ_normal, keep_mk, keep_st,
 lss_i, leq_i, gtr_i, geq_i, eql_i, neq_i, eql_8, neq_8, lss_8, leq_8, gtr_8, geq_8, eql_s, neq_s, eql_b, neq_b, not_b, by_bys, by_nils, load_cp1, beq_true, beq_false, Bool.not_eq_true', decide_eq_true_eq, decide_eq_false_iff_not, decide_true, decide_false,
 Int.toNat_natCast, Int.ofNat_lt, Int.ofNat_le, Int.natCast_inj, Bool.false_eq_true, Bool.true_eq_false, extPV, List.getElem?_cons_zero, List.getElem?_cons_succ, nilckPV, Int.reduceToNat, Int.reduceLE, true_and, and_true, reduceCtorEq, or_false, false_or, or_true, Option.some.injEq, exists_eq_left', Bool.not_true, Bool.not_false, ne_eq, Int.reduceEq, not_true_eq_false, not_false_eq_true, Int.reduceLT, UInt8.reduceLT, UInt8.reduceLE, UInt8.reduceToNat]
    exact bad (by omega) _ rfl rfl
  by_cases a4 : 12 < m
  · simp (maxSteps := 1000000) (disch := omega) only [a1, a2, a3, a4, W_seq, W_region, W_cond, W_block, W_skip, W_label, W_exit, W_goto, W_ret, WO_cons, WO_consG, WO_nil, wantedA_eq, wantB, evOp, ev_tmp, ev_const, ev_fn, WN_some, WN_none, updO_some, updO_none, upd_eq,
 ↓reduceIte, Nat.reduceEqDiff, List.nil_append, List.cons_append, List.append_nil, List.map_cons, List.map_nil, env0_zero, env0_succ, env0_nil, Option.map_some, Option.map_none, seqQ_normal, seqQ_ret, seqQ_exit, seqQ_goto, blockQ_normal, blockQ_ret, blockQ_exit, blockQ_goto, condW_bool, loopQ_ret, loopQ_exit, loopQ_goto, endQ_ret, endQ_normal, keep_mk, keep_st,
 lss_i, leq_i, gtr_i, geq_i, eql_i, neq_i, eql_8, neq_8, lss_8, leq_8, gtr_8, geq_8, eql_s, neq_s, eql_b, neq_b, not_b, by_bys, by_nils, load_cp1, beq_true, beq_false, Bool.not_eq_true', decide_eq_true_eq, decide_eq_false_iff_not, decide_true, decide_false,
 Int.toNat_natCast, Int.ofNat_lt, Int.ofNat_le, Int.natCast_inj, Bool.false_eq_true, Bool.true_eq_false, extPV, List.getElem?_cons_zero, List.getElem?_cons_succ, nilckPV, Int.reduceToNat, Int.reduceLE, true_and, and_true, reduceCtorEq, or_false, false_or, or_true, Option.some.injEq, exists_eq_left', Bool.not_true, Bool.not_false, ne_eq, Int.reduceEq, not_true_eq_false, not_false_eq_true, Int.reduceLT, UInt8.reduceLT, UInt8.reduceLE, UInt8.reduceToNat]
    exact bad (by omega) _ rfl rfl
  by_cases a5 : d < 1
  · simp (maxSteps := 1000000) (disch := omega) only [a1, a2, a3, a4, a5, W_seq, W_region, W_cond, W_block, W_skip, W_label, W_exit, W_goto, W_ret, WO_cons, WO_consG, WO_nil, wantedA_eq, wantB, evOp, ev_tmp, ev_const, ev_fn, WN_some, WN_none, updO_some, updO_none, upd_eq,
 ↓reduceIte, Nat.reduceEqDiff, List.nil_append, List.cons_append, List.append_nil, List.map_cons, List.map_nil, env0_zero, env0_succ, env0_nil, Option.map_some, Option.map_none, seqQ_normal, seqQ_ret, seqQ_exit, seqQ_goto, blockQ_normal, blockQ_ret, blockQ_exit, blockQ_goto, condW_bool, loopQ_ret, loopQ_exit, loopQ_goto, endQ_ret, endQ_normal, keep_mk, keep_st,
 lss_i, leq_i, gtr_i, geq_i, eql_i, neq_i, eql_8, neq_8, lss_8, leq_8, gtr_8, geq_8, eql_s, neq_s, eql_b, neq_b, not_b, by_bys, by_nils, load_cp1, beq_true, beq_false, Bool.not_eq_true', decide_eq_true_eq, decide_eq_false_iff_not, decide_true, decide_false,
 Int.toNat_natCast, Int.ofNat_lt, Int.ofNat_le, Int.natCast_inj, Bool.false_eq_true, Bool.true_eq_false, extPV, List.getElem?_cons_zero, List.getElem?_cons_succ, nilckPV, Int.reduceToNat, Int.reduceLE, true_and, and_true, reduceCtorEq, or_false, false_or, or_true, Option.some.injEq, exists_eq_left', Bool.not_true, Bool.not_false, ne_eq, Int.reduceEq, not_true_eq_false, not_false_eq_true, Int.reduceLT, UInt8.reduceLT, UInt8.reduceLE, UInt8.reduceToNat]
    exact bad (by omega) _ rfl rfl
  obtain ⟨Y, rfl⟩ : ∃ n : Nat, y = (n : Int) := ⟨y.toNat, by omega⟩
  obtain ⟨M, rfl⟩ : ∃ n : Nat, m = (n : Int) := ⟨m.toNat, by omega⟩
  have hm := fun S : St => month_spec (st := S) (y := Y) (m := M) (by omega) (by omega)
  by_cases a6 : (mdY Y M : Int) < d
  · simp (maxSteps := 1000000) (disch := omega) only [a1, a2, a3, a4, a5, hm, a6, W_seq, W_region, W_cond, W_block, W_skip, W_label, W_exit, W_goto, W_ret, WO_cons, WO_consG, WO_nil, wantedA_eq, wantB, evOp, ev_tmp, ev_const, ev_fn, WN_some, WN_none, updO_some, updO_none, upd_eq,
 ↓reduceIte, Nat.reduceEqDiff, List.nil_append, List.cons_append, List.append_nil, List.map_cons, List.map_nil, env0_zero, env0_succ, env0_nil, Option.map_some, Option.map_none, seqQ_normal, seqQ_ret, seqQ_exit, seqQ_goto, blockQ_normal, blockQ_ret, blockQ_exit, blockQ_goto, condW_bool, loopQ_ret, loopQ_exit, loopQ_goto, endQ_ret, endQ_normal, keep_mk, keep_st,
 lss_i, leq_i, gtr_i, geq_i, eql_i, neq_i, eql_8, neq_8, lss_8, leq_8, gtr_8, geq_8, eql_s, neq_s, eql_b, neq_b, not_b, by_bys, by_nils, load_cp1, beq_true, beq_false, Bool.not_eq_true', decide_eq_true_eq, decide_eq_false_iff_not, decide_true, decide_false,
 Int.toNat_natCast, Int.ofNat_lt, Int.ofNat_le, Int.natCast_inj, Bool.false_eq_true, Bool.true_eq_false, extPV, List.getElem?_cons_zero, List.getElem?_cons_succ, nilckPV, Int.reduceToNat, Int.reduceLE, true_and, and_true, reduceCtorEq, or_false, false_or, or_true, Option.some.injEq, exists_eq_left', Bool.not_true, Bool.not_false, ne_eq, Int.reduceEq, not_true_eq_false, not_false_eq_true, Int.reduceLT, UInt8.reduceLT, UInt8.reduceLE, UInt8.reduceToNat]
    exact bad (by simp only [Int.toNat_natCast]; omega) _ rfl rfl
  obtain ⟨D, rfl⟩ : ∃ n : Nat, d = (n : Int) := ⟨d.toNat, by omega⟩
  have a6' : ¬ mdY Y M < D := by omega
  have hb := fun S : St => before_spec (st := S) (y := Y) (by omega) (by omega)
  have hbl : befY Y ≤ 2932897 := by
    have := bef_mono (a := Y) (b := 10000) (by omega) (by omega)
    have := bef_10000; omega
  have hmd := md_bound Y M
  have hcum : ∀ i, i ≤ 13 → cumY Y i ≤ 400 := fun i hi => by
    have := cum_mono Y (a := i) (b := 13) hi
    have := cum_13 Y; have := yd_bound Y; omega
  simp (maxSteps := 1000000) (disch := omega) only [a1, a2, a3, a4, a5, hm, a6', hb, add_n, sub_n, W_seq, W_region, W_cond, W_block, W_skip, W_label, W_exit, W_goto, W_ret, WO_cons, WO_consG, WO_nil, wantedA_eq, wantB, evOp, ev_tmp, ev_const, ev_fn, WN_some, WN_none, updO_some, updO_none, upd_eq,
 ↓reduceIte, Nat.reduceEqDiff, List.nil_append, List.cons_append, List.append_nil, List.map_cons, List.map_nil, env0_zero, env0_succ, env0_nil, Option.map_some, Option.map_none, seqQ_normal, seqQ_ret, seqQ_exit, seqQ_goto, blockQ_normal, blockQ_ret, blockQ_exit, blockQ_goto, condW_bool, loopQ_ret, loopQ_exit, loopQ_goto, endQ_ret, endQ_normal, keep_mk, keep_st,
 lss_i, leq_i, gtr_i, geq_i, eql_i, neq_i, eql_8, neq_8, lss_8, leq_8, gtr_8, geq_8, eql_s, neq_s, eql_b, neq_b, not_b, by_bys, by_nils, load_cp1, beq_true, beq_false, Bool.not_eq_true', decide_eq_true_eq, decide_eq_false_iff_not, decide_true, decide_false,
 Int.toNat_natCast, Int.ofNat_lt, Int.ofNat_le, Int.natCast_inj, Bool.false_eq_true, Bool.true_eq_false, extPV, List.getElem?_cons_zero, List.getElem?_cons_succ, nilckPV, Int.reduceToNat, Int.reduceLE, true_and, and_true, reduceCtorEq, or_false, false_or, or_true, Option.some.injEq, exists_eq_left', Bool.not_true, Bool.not_false, ne_eq, Int.reduceEq, not_true_eq_false, not_false_eq_true, Int.reduceLT, UInt8.reduceLT, UInt8.reduceLE, UInt8.reduceToNat]
  obtain ⟨Q0, hQ0⟩ : ∃ Q0 : Ex → Env → St → Prop, Q0 = endQ st [.tmp 6, .tmp 7] (.tup [.int .i64 (daysD (Y : Int) (M : Int) (D : Int)).1, .int .i64 (daysD (Y : Int) (M : Int) (D : Int)).2], st) := ⟨_, rfl⟩
  rw [← hQ0]
  obtain ⟨I, hI⟩ : ∃ I : Nat → Env → St → Prop, I = fun k E S => ∃ (i : Nat), k = M - i ∧ i ≤ M ∧ Kept st S ∧ E 0 = .int .i64 (Y : Int) ∧ E 8 = .int .i64 ((befY Y + D - 1 + cumY Y i : Nat) : Int) ∧ E 40 = .int .i64 (M : Int) ∧ E 41 = .int .i64 (i : Int) := ⟨_, rfl⟩
  refine W_loop I ?_ (n := M) (by
    rw [hI]
    exact ⟨0, rfl, by omega, Kept.start, rfl, by rw [show cumY Y 0 = 0 from rfl, Nat.add_zero]; rfl, rfl, rfl⟩)
  intro k E S hh
  rw [hI] at hh
  obtain ⟨i, rfl, hi, hk, h0, h8, h40, h41⟩ := hh
  by_cases hlt : i < M
  · have hc1 := hcum i (by omega)
    by_cases hz : 0 < i
    · have hmi := fun S : St => month_spec (st := S) (y := Y) (m := i) (by omega) (by omega)
      have hmdi := md_bound Y i
      have e0 : (0 : Int) < (i : Int) := by omega
      simp (maxSteps := 1000000) (disch := omega) only [h0, h8, h40, h41, hlt, eq_true e0, hmi, add_n, loopQ_normal, W_seq, W_region, W_cond, W_block, W_skip, W_label, W_exit, W_goto, W_ret, WO_cons, WO_consG, WO_nil, wantedA_eq, wantB, evOp, ev_tmp, ev_const, ev_fn, WN_some, WN_none, updO_some, updO_none, upd_eq,
 ↓reduceIte, Nat.reduceEqDiff, List.nil_append, List.cons_append, List.append_nil, List.map_cons, List.map_nil, env0_zero, env0_succ, env0_nil, Option.map_some, Option.map_none, seqQ_normal, seqQ_ret, seqQ_exit, seqQ_goto, blockQ_normal, blockQ_ret, blockQ_exit, blockQ_goto, condW_bool, loopQ_ret, loopQ_exit, loopQ_goto, endQ_ret, endQ_normal, keep_mk, keep_st,
 lss_i, leq_i, gtr_i, geq_i, eql_i, neq_i, eql_8, neq_8, lss_8, leq_8, gtr_8, geq_8, eql_s, neq_s, eql_b, neq_b, not_b, by_bys, by_nils, load_cp1, beq_true, beq_false, Bool.not_eq_true', decide_eq_true_eq, decide_eq_false_iff_not, decide_true, decide_false,
 Int.toNat_natCast, Int.ofNat_lt, Int.ofNat_le, Int.natCast_inj, Bool.false_eq_true, Bool.true_eq_false, extPV, List.getElem?_cons_zero, List.getElem?_cons_succ, nilckPV, Int.reduceToNat, Int.reduceLE, true_and, and_true, reduceCtorEq, or_false, false_or, or_true, Option.some.injEq, exists_eq_left', Bool.not_true, Bool.not_false, ne_eq, Int.reduceEq, not_true_eq_false, not_false_eq_true, Int.reduceLT, UInt8.reduceLT, UInt8.reduceLE, UInt8.reduceToNat]
      refine ⟨M - (i + 1), by omega, ?_⟩
      rw [hI]
      refine ⟨i + 1, rfl, by omega, hk, h0, ?_, h40, rfl⟩
      rw [cum_succ Y (by omega)]
      rw [← Nat.add_assoc]; rfl
    · have e0 : ¬ (0 : Int) < (i : Int) := by omega
      have i0 : i = 0 := by omega
      simp (maxSteps := 1000000) (disch := omega) only [h0, h8, h40, h41, hlt, e0, add_n, loopQ_normal, W_seq, W_region, W_cond, W_block, W_skip, W_label, W_exit, W_goto, W_ret, WO_cons, WO_consG, WO_nil, wantedA_eq, wantB, evOp, ev_tmp, ev_const, ev_fn, WN_some, WN_none, updO_some, updO_none, upd_eq,
 ↓reduceIte, Nat.reduceEqDiff, List.nil_append, List.cons_append, List.append_nil, List.map_cons, List.map_nil, env0_zero, env0_succ, env0_nil, Option.map_some, Option.map_none, seqQ_normal, seqQ_ret, seqQ_exit, seqQ_goto, blockQ_normal, blockQ_ret, blockQ_exit, blockQ_goto, condW_bool, loopQ_ret, loopQ_exit, loopQ_goto, endQ_ret, endQ_normal, keep_mk, keep_st,
 lss_i, leq_i, gtr_i, geq_i, eql_i, neq_i, eql_8, neq_8, lss_8, leq_8, gtr_8, geq_8, eql_s, neq_s, eql_b, neq_b, not_b, by_bys, by_nils, load_cp1, beq_true, beq_false, Bool.not_eq_true', decide_eq_true_eq, decide_eq_false_iff_not, decide_true, decide_false,
 Int.toNat_natCast, Int.ofNat_lt, Int.ofNat_le, Int.natCast_inj, Bool.false_eq_true, Bool.true_eq_false, extPV, List.getElem?_cons_zero, List.getElem?_cons_succ, nilckPV, Int.reduceToNat, Int.reduceLE, true_and, and_true, reduceCtorEq, or_false, false_or, or_true, Option.some.injEq, exists_eq_left', Bool.not_true, Bool.not_false, ne_eq, Int.reduceEq, not_true_eq_false, not_false_eq_true, Int.reduceLT, UInt8.reduceLT, UInt8.reduceLE, UInt8.reduceToNat]
      refine ⟨M - (i + 1), by omega, ?_⟩
      rw [hI]
      refine ⟨i + 1, rfl, by omega, hk, h0, ?_, h40, rfl⟩
      subst i0
      exact h8
  · obtain rfl : i = M := by omega
    simp (maxSteps := 1000000) (disch := omega) only [h0, h8, h40, h41, hlt, W_seq, W_region, W_cond, W_block, W_skip, W_label, W_exit, W_goto, W_ret, WO_cons, WO_consG, WO_nil, wantedA_eq, wantB, evOp, ev_tmp, ev_const, ev_fn, WN_some, WN_none, updO_some, updO_none, upd_eq,
 ↓reduceIte, Nat.reduceEqDiff, List.nil_append, List.cons_append, List.append_nil, List.map_cons, List.map_nil, env0_zero, env0_succ, env0_nil, Option.map_some, Option.map_none, seqQ_normal, seqQ_ret, seqQ_exit, seqQ_goto, blockQ_normal, blockQ_ret, blockQ_exit, blockQ_goto, condW_bool, loopQ_ret, loopQ_exit, loopQ_goto, endQ_ret, endQ_normal, keep_mk, keep_st,
 lss_i, leq_i, gtr_i, geq_i, eql_i, neq_i, eql_8, neq_8, lss_8, leq_8, gtr_8, geq_8, eql_s, neq_s, eql_b, neq_b, not_b, by_bys, by_nils, load_cp1, beq_true, beq_false, Bool.not_eq_true', decide_eq_true_eq, decide_eq_false_iff_not, decide_true, decide_false,
 Int.toNat_natCast, Int.ofNat_lt, Int.ofNat_le, Int.natCast_inj, Bool.false_eq_true, Bool.true_eq_false, extPV, List.getElem?_cons_zero, List.getElem?_cons_succ, nilckPV, Int.reduceToNat, Int.reduceLE, true_and, and_true, reduceCtorEq, or_false, false_or, or_true, Option.some.injEq, exists_eq_left', Bool.not_true, Bool.not_false, ne_eq, Int.reduceEq, not_true_eq_false, not_false_eq_true, Int.reduceLT, UInt8.reduceLT, UInt8.reduceLE, UInt8.reduceToNat]
    rw [hQ0, endQ_ret]
    unfold daysD
    rw [if_pos (by simp only [Int.toNat_natCast]; omega)]
    exact retII rfl rfl hk (by simp only [Int.toNat_natCast]; omega) rfl
end Go.Ab

/-
  Dates are read: clocks.
-/
namespace Go.Ab
set_option linter.unusedVariables false
set_option linter.unusedSimpArgs false
set_option maxRecDepth 20000
variable {st s : St} {e : Env}

/-- Hours, minutes, seconds as a clock; -1: none. -/
def hmsD (h m c : Int) : Int := if h < 0 ∨ 23 < h ∨ m < 0 ∨ 59 < m ∨ c < 0 ∨ 60 < c then -1 else h * 3600 + m * 60 + min c 59
def clkD (s : Bs) : Int :=
  if (splitOn 58 [] s).length < 2 ∨ 3 < (splitOn 58 [] s).length then -1
  else hmsD (digD ((splitOn 58 [] s).getD 0 []) 2 2) (digD ((splitOn 58 [] s).getD 1 []) 2 2) (if (splitOn 58 [] s).length = 3 then digD ((splitOn 58 [] s).getD 2 []) 2 2 else 0)

theorem mn_i {a b : Int} : mnmxPV false [.int .i64 a, .int .i64 b] = some (.int .i64 (min a b)) := by simp [mnmxPV]

set_option maxHeartbeats 2000000 in
theorem clock_spec {l : Bs} (hl : l.length ≤ 1000000) : call prog (.fn 290 []) [.str l] st = some (.int .i64 (clkD l), st) := by
  refine call_of_W prog_290 ?_
  unfold F_date_clock; dsimp only
  obtain ⟨xs, hxs⟩ : ∃ xs, xs = splitOn 58 [] l := ⟨_, rfl⟩
  have hsp : ∀ S : St, call prog (.fn 133 []) [.str l, .str [58]] S = some (.sl 1 .no (xs.map .str), S) := fun S => by rw [hxs]; exact Split_spec (by omega)
  have hlen : lenPV false (.sl 1 .no (xs.map .str)) = some (.int .i64 (xs.length : Int)) := by simp [lenPV]
  have hvs : (PV.sl 1 .no (xs.map .str)).vs 1 = some (xs.map .str) := by simp [PV.vs]
  have hxl : ∀ j, (xs.getD j []).length ≤ 1000000 := fun j => by
    by_cases hj : j < xs.length
    · have hm : xs.getD j [] ∈ splitOn 58 [] l := by rw [← hxs]; simp [List.getD, hj]
      have := split_len l [] _ hm
      simp at this ⊢; omega
    · have : xs[j]? = none := List.getElem?_eq_none (by omega)
      simp [List.getD, this]
  have hclk : clkD l = if xs.length < 2 ∨ 3 < xs.length then -1 else hmsD (digD (xs.getD 0 []) 2 2) (digD (xs.getD 1 []) 2 2) (if xs.length = 3 then digD (xs.getD 2 []) 2 2 else 0) := by rw [hxs]; rfl
  rw [hclk]
  by_cases n2 : xs.length < 2
  · have e2 : (xs.length : Int) < 2 := by omega
    simp (maxSteps := 1000000) (disch := omega) only [hsp, hlen, e2, W_seq, W_region, W_cond, W_block, W_skip, W_label, W_exit, W_goto, W_ret, WO_cons, WO_consG, WO_nil, wantedA_eq, wantB, evOp, ev_tmp, ev_const, ev_fn, WN_some, WN_none, updO_some, updO_none, upd_eq,
 ↓reduceIte, Nat.reduceEqDiff, List.nil_append, List.cons_append, List.append_nil, List.map_cons, List.map_nil, env0_zero, env0_succ, env0_nil, Option.map_some, Option.map_none, seqQ_normal, seqQ_ret, seqQ_exit, seqQ_goto, blockQ_normal, blockQ_ret, blockQ_exit, blockQ_goto, condW_bool, loopQ_ret, loopQ_exit, loopQ_goto, endQ_ret, endQ_normal, keep_mk, keep_st,
 lss_i, leq_i, gtr_i, geq_i, eql_i, neq_i, eql_8, neq_8, lss_8, leq_8, gtr_8, geq_8, eql_s, neq_s, eql_b, neq_b, not_b, by_bys, by_nils, load_cp1, beq_true, beq_false, Bool.not_eq_true', decide_eq_true_eq, decide_eq_false_iff_not, decide_true, decide_false,
 Int.toNat_natCast, Int.ofNat_lt, Int.ofNat_le, Int.natCast_inj, Bool.false_eq_true, Bool.true_eq_false, extPV, List.getElem?_cons_zero, List.getElem?_cons_succ, nilckPV, Int.reduceToNat, Int.reduceLE, true_and, and_true, reduceCtorEq, or_false, false_or, or_true, Option.some.injEq, exists_eq_left', Bool.not_true, Bool.not_false, ne_eq, Int.reduceEq, not_true_eq_false, not_false_eq_true, Int.reduceLT, UInt8.reduceLT, UInt8.reduceLE, UInt8.reduceToNat]
    exact retI rfl Kept.start (by simp [n2])
  have e2 : ¬ (xs.length : Int) < 2 := by omega
  by_cases n3 : 3 < xs.length
  · have e3 : (3 : Int) < (xs.length : Int) := by omega
    simp (maxSteps := 1000000) (disch := omega) only [hsp, hlen, e2, e3, W_seq, W_region, W_cond, W_block, W_skip, W_label, W_exit, W_goto, W_ret, WO_cons, WO_consG, WO_nil, wantedA_eq, wantB, evOp, ev_tmp, ev_const, ev_fn, WN_some, WN_none, updO_some, updO_none, upd_eq,
 ↓reduceIte, Nat.reduceEqDiff, List.nil_append, List.cons_append, List.append_nil, List.map_cons, List.map_nil, env0_zero, env0_succ, env0_nil, Option.map_some, Option.map_none, seqQ_normal, seqQ_ret, seqQ_exit, seqQ_goto, blockQ_normal, blockQ_ret, blockQ_exit, blockQ_goto, condW_bool, loopQ_ret, loopQ_exit, loopQ_goto, endQ_ret, endQ_normal, keep_mk, keep_st,
 lss_i, leq_i, gtr_i, geq_i, eql_i, neq_i, eql_8, neq_8, lss_8, leq_8, gtr_8, geq_8, eql_s, neq_s, eql_b, neq_b, not_b, by_bys, by_nils, load_cp1, beq_true, beq_false, Bool.not_eq_true', decide_eq_true_eq, decide_eq_false_iff_not, decide_true, decide_false,
 Int.toNat_natCast, Int.ofNat_lt, Int.ofNat_le, Int.natCast_inj, Bool.false_eq_true, Bool.true_eq_false, extPV, List.getElem?_cons_zero, List.getElem?_cons_succ, nilckPV, Int.reduceToNat, Int.reduceLE, true_and, and_true, reduceCtorEq, or_false, false_or, or_true, Option.some.injEq, exists_eq_left', Bool.not_true, Bool.not_false, ne_eq, Int.reduceEq, not_true_eq_false, not_false_eq_true, Int.reduceLT, UInt8.reduceLT, UInt8.reduceLE, UInt8.reduceToNat]
    exact retI rfl Kept.start (by simp [n3])
  have e3 : ¬ (3 : Int) < (xs.length : Int) := by omega
  rw [if_neg (by omega)]
  have z0 : iaddrPV 1 (.sl 1 .no (xs.map .str)) (.int .i64 0) = some (.cp [.str (xs.getD 0 [])]) := by rw [iaddr_t hvs (by decide) (by simp; omega)]; rfl
  have z1 : iaddrPV 1 (.sl 1 .no (xs.map .str)) (.int .i64 1) = some (.cp [.str (xs.getD 1 [])]) := by rw [iaddr_t hvs (by decide) (by simp; omega)]; rfl
  have c0 : ∀ v : PV, loadcPV false 1 (.cp [v]) = some v := fun _ => rfl
  have d2 := fun (j : Nat) (S : St) => digits_spec (st := S) (l := xs.getD j []) (least := 2) (most := 2) (by have := hxl j; omega) (by omega) (by omega)
  rw [show (((2 : Nat) : Int)) = 2 from rfl] at d2
  have hb := fun j => digD_bound (s := xs.getD j []) (a := 2) (b := 2) (by omega)
  have hb0 := hb 0; have hb1 := hb 1; have hb2 := hb 2
  obtain ⟨h, hh⟩ : ∃ h, h = digD (xs.getD 0 []) 2 2 := ⟨_, rfl⟩
  obtain ⟨m, hm⟩ : ∃ m, m = digD (xs.getD 1 []) 2 2 := ⟨_, rfl⟩
  have d20 := d2 0; have d21 := d2 1; have d22 := d2 2
  rw [← hh] at d20 hb0 ⊢
  rw [← hm] at d21 hb1 ⊢
  -- what is reckoned in the end
  have key : ∀ (c : Int) (E : Env) (R : (Ex → Env → St → Prop)), True := fun _ _ _ => trivial
  have m1 : ∀ a : Int, 0 ≤ a → a < 100000 → binPV .mul .no (.int .i64 a) (.int .i64 3600) = some (.int .i64 (a * 3600)) := fun a h1 h2 => by
    obtain ⟨n, rfl⟩ : ∃ n : Nat, a = (n : Int) := ⟨a.toNat, by omega⟩
    exact mul_n (c := n) (a := 3600) (by omega)
  have m2 : ∀ a : Int, 0 ≤ a → a < 100000 → binPV .mul .no (.int .i64 a) (.int .i64 60) = some (.int .i64 (a * 60)) := fun a h1 h2 => by
    obtain ⟨n, rfl⟩ : ∃ n : Nat, a = (n : Int) := ⟨a.toNat, by omega⟩
    exact mul_n (c := n) (a := 60) (by omega)
  by_cases n4 : xs.length = 3
  · have e4 : (xs.length : Int) = 3 := by omega
    have z2 : iaddrPV 1 (.sl 1 .no (xs.map .str)) (.int .i64 2) = some (.cp [.str (xs.getD 2 [])]) := by rw [iaddr_t hvs (by decide) (by simp; omega)]; rfl
    obtain ⟨c, hc⟩ : ∃ c, c = digD (xs.getD 2 []) 2 2 := ⟨_, rfl⟩
    rw [← hc] at d22 hb2 ⊢
    rw [if_pos n4]
    by_cases a1 : h < 0
    · simp (maxSteps := 1000000) (disch := omega) only [hsp, hlen, e2, e3, eq_true e4, z0, z1, z2, c0, d20, d21, d22, a1, W_seq, W_region, W_cond, W_block, W_skip, W_label, W_exit, W_goto, W_ret, WO_cons, WO_consG, WO_nil, wantedA_eq, wantB, evOp, ev_tmp, ev_const, ev_fn, WN_some, WN_none, updO_some, updO_none, upd_eq,
 ↓reduceIte, Nat.reduceEqDiff, List.nil_append, List.cons_append, List.append_nil, List.map_cons, List.map_nil, env0_zero, env0_succ, env0_nil, Option.map_some, Option.map_none, seqQ_normal, seqQ_ret, seqQ_exit, seqQ_goto, blockQ_normal, blockQ_ret, blockQ_exit, blockQ_goto, condW_bool, loopQ_ret, loopQ_exit, loopQ_goto, endQ_ret, endQ_normal, keep_mk, keep_st,
 lss_i, leq_i, gtr_i, geq_i, eql_i, neq_i, eql_8, neq_8, lss_8, leq_8, gtr_8, geq_8, eql_s, neq_s, eql_b, neq_b, not_b, by_bys, by_nils, load_cp1, beq_true, beq_false, Bool.not_eq_true', decide_eq_true_eq, decide_eq_false_iff_not, decide_true, decide_false,
 Int.toNat_natCast, Int.ofNat_lt, Int.ofNat_le, Int.natCast_inj, Bool.false_eq_true, Bool.true_eq_false, extPV, List.getElem?_cons_zero, List.getElem?_cons_succ, nilckPV, Int.reduceToNat, Int.reduceLE, true_and, and_true, reduceCtorEq, or_false, false_or, or_true, Option.some.injEq, exists_eq_left', Bool.not_true, Bool.not_false, ne_eq, Int.reduceEq, not_true_eq_false, not_false_eq_true, Int.reduceLT, UInt8.reduceLT, UInt8.reduceLE, UInt8.reduceToNat]
      exact retI rfl Kept.start (by simp [hmsD, a1])
    by_cases a2 : 23 < h
    · simp (maxSteps := 1000000) (disch := omega) only [hsp, hlen, e2, e3, eq_true e4, z0, z1, z2, c0, d20, d21, d22, a1, a2, W_seq, W_region, W_cond, W_block, W_skip, W_label, W_exit, W_goto, W_ret, WO_cons, WO_consG, WO_nil, wantedA_eq, wantB, evOp, ev_tmp, ev_const, ev_fn, WN_some, WN_none, updO_some, updO_none, upd_eq,
 ↓reduceIte, Nat.reduceEqDiff, List.nil_append, List.cons_append, List.append_nil, List.map_cons, List.map_nil, env0_zero, env0_succ, env0_nil, Option.map_some, Option.map_none, seqQ_normal, seqQ_ret, seqQ_exit, seqQ_goto, blockQ_normal, blockQ_ret, blockQ_exit, blockQ_goto, condW_bool, loopQ_ret, loopQ_exit, loopQ_goto, endQ_ret, endQ_normal, keep_mk, keep_st,
 lss_i, leq_i, gtr_i, geq_i, eql_i, neq_i, eql_8, neq_8, lss_8, leq_8, gtr_8, geq_8, eql_s, neq_s, eql_b, neq_b, not_b, by_bys, by_nils, load_cp1, beq_true, beq_false, Bool.not_eq_true', decide_eq_true_eq, decide_eq_false_iff_not, decide_true, decide_false,
 Int.toNat_natCast, Int.ofNat_lt, Int.ofNat_le, Int.natCast_inj, Bool.false_eq_true, Bool.true_eq_false, extPV, List.getElem?_cons_zero, List.getElem?_cons_succ, nilckPV, Int.reduceToNat, Int.reduceLE, true_and, and_true, reduceCtorEq, or_false, false_or, or_true, Option.some.injEq, exists_eq_left', Bool.not_true, Bool.not_false, ne_eq, Int.reduceEq, not_true_eq_false, not_false_eq_true, Int.reduceLT, UInt8.reduceLT, UInt8.reduceLE, UInt8.reduceToNat]
      exact retI rfl Kept.start (by simp [hmsD, a2])
    by_cases a3 : m < 0
    · simp (maxSteps := 1000000) (disch := omega) only [hsp, hlen, e2, e3, eq_true e4, z0, z1, z2, c0, d20, d21, d22, a1, a2, a3, W_seq, W_region, W_cond, W_block, W_skip, W_label, W_exit, W_goto, W_ret, WO_cons, WO_consG, WO_nil, wantedA_eq, wantB, evOp, ev_tmp, ev_const, ev_fn, WN_some, WN_none, updO_some, updO_none, upd_eq,
 ↓reduceIte, Nat.reduceEqDiff, List.nil_append, List.cons_append, List.append_nil, List.map_cons, List.map_nil, env0_zero, env0_succ, env0_nil, Option.map_some, Option.map_none, seqQ_normal, seqQ_ret, seqQ_exit, seqQ_goto, blockQ_normal, blockQ_ret, blockQ_exit, blockQ_goto, condW_bool, loopQ_ret, loopQ_exit, loopQ_goto, endQ_ret, endQ_normal, keep_mk, keep_st,
 lss_i, leq_i, gtr_i, geq_i, eql_i, neq_i, eql_8, neq_8, lss_8, leq_8, gtr_8, geq_8, eql_s, neq_s, eql_b, neq_b, not_b, by_bys, by_nils, load_cp1, beq_true, beq_false, Bool.not_eq_true', decide_eq_true_eq, decide_eq_false_iff_not, decide_true, decide_false,
 Int.toNat_natCast, Int.ofNat_lt, Int.ofNat_le, Int.natCast_inj, Bool.false_eq_true, Bool.true_eq_false, extPV, List.getElem?_cons_zero, List.getElem?_cons_succ, nilckPV, Int.reduceToNat, Int.reduceLE, true_and, and_true, reduceCtorEq, or_false, false_or, or_true, Option.some.injEq, exists_eq_left', Bool.not_true, Bool.not_false, ne_eq, Int.reduceEq, not_true_eq_false, not_false_eq_true, Int.reduceLT, UInt8.reduceLT, UInt8.reduceLE, UInt8.reduceToNat]
      exact retI rfl Kept.start (by simp [hmsD, a3])
    by_cases a4 : 59 < m
    · simp (maxSteps := 1000000) (disch := omega) only [hsp, hlen, e2, e3, eq_true e4, z0, z1, z2, c0, d20, d21, d22, a1, a2, a3, a4, W_seq, W_region, W_cond, W_block, W_skip, W_label, W_exit, W_goto, W_ret, WO_cons, WO_consG, WO_nil, wantedA_eq, wantB, evOp, ev_tmp, ev_const, ev_fn, WN_some, WN_none, updO_some, updO_none, upd_eq,
 ↓reduceIte, Nat.reduceEqDiff, List.nil_append, List.cons_append, List.append_nil, List.map_cons, List.map_nil, env0_zero, env0_succ, env0_nil, Option.map_some, Option.map_none, seqQ_normal, seqQ_ret, seqQ_exit, seqQ_goto, blockQ_normal, blockQ_ret, blockQ_exit, blockQ_goto, condW_bool, loopQ_ret, loopQ_exit, loopQ_goto, endQ_ret, endQ_normal, keep_mk, keep_st,
 lss_i, leq_i, gtr_i, geq_i, eql_i, neq_i, eql_8, neq_8, lss_8, leq_8, gtr_8, geq_8, eql_s, neq_s, eql_b, neq_b, not_b, by_bys, by_nils, load_cp1, beq_true, beq_false, Bool.not_eq_true', decide_eq_true_eq, decide_eq_false_iff_not, decide_true, decide_false,
 Int.toNat_natCast, Int.ofNat_lt, Int.ofNat_le, Int.natCast_inj, Bool.false_eq_true, Bool.true_eq_false, extPV, List.getElem?_cons_zero, List.getElem?_cons_succ, nilckPV, Int.reduceToNat, Int.reduceLE, true_and, and_true, reduceCtorEq, or_false, false_or, or_true, Option.some.injEq, exists_eq_left', Bool.not_true, Bool.not_false, ne_eq, Int.reduceEq, not_true_eq_false, not_false_eq_true, Int.reduceLT, UInt8.reduceLT, UInt8.reduceLE, UInt8.reduceToNat]
      exact retI rfl Kept.start (by simp [hmsD, a4])
    by_cases a5 : c < 0
    · simp (maxSteps := 1000000) (disch := omega) only [hsp, hlen, e2, e3, eq_true e4, z0, z1, z2, c0, d20, d21, d22, a1, a2, a3, a4, a5, W_seq, W_region, W_cond, W_block, W_skip, W_label, W_exit, W_goto, W_ret, WO_cons, WO_consG, WO_nil, wantedA_eq, wantB, evOp, ev_tmp, ev_const, ev_fn, WN_some, WN_none, updO_some, updO_none, upd_eq,
 ↓reduceIte, Nat.reduceEqDiff, List.nil_append, List.cons_append, List.append_nil, List.map_cons, List.map_nil, env0_zero, env0_succ, env0_nil, Option.map_some, Option.map_none, seqQ_normal, seqQ_ret, seqQ_exit, seqQ_goto, blockQ_normal, blockQ_ret, blockQ_exit, blockQ_goto, condW_bool, loopQ_ret, loopQ_exit, loopQ_goto, endQ_ret, endQ_normal, keep_mk, keep_st,
 lss_i, leq_i, gtr_i, geq_i, eql_i, neq_i, eql_8, neq_8, lss_8, leq_8, gtr_8, geq_8, eql_s, neq_s, eql_b, neq_b, not_b, by_bys, by_nils, load_cp1, beq_true, beq_false, Bool.not_eq_true', decide_eq_true_eq, decide_eq_false_iff_not, decide_true, decide_false,
 Int.toNat_natCast, Int.ofNat_lt, Int.ofNat_le, Int.natCast_inj, Bool.false_eq_true, Bool.true_eq_false, extPV, List.getElem?_cons_zero, List.getElem?_cons_succ, nilckPV, Int.reduceToNat, Int.reduceLE, true_and, and_true, reduceCtorEq, or_false, false_or, or_true, Option.some.injEq, exists_eq_left', Bool.not_true, Bool.not_false, ne_eq, Int.reduceEq, not_true_eq_false, not_false_eq_true, Int.reduceLT, UInt8.reduceLT, UInt8.reduceLE, UInt8.reduceToNat]
      exact retI rfl Kept.start (by simp [hmsD, a5])
    by_cases a6 : 60 < c
    · simp (maxSteps := 1000000) (disch := omega) only [hsp, hlen, e2, e3, eq_true e4, z0, z1, z2, c0, d20, d21, d22, a1, a2, a3, a4, a5, a6, W_seq, W_region, W_cond, W_block, W_skip, W_label, W_exit, W_goto, W_ret, WO_cons, WO_consG, WO_nil, wantedA_eq, wantB, evOp, ev_tmp, ev_const, ev_fn, WN_some, WN_none, updO_some, updO_none, upd_eq,
 ↓reduceIte, Nat.reduceEqDiff, List.nil_append, List.cons_append, List.append_nil, List.map_cons, List.map_nil, env0_zero, env0_succ, env0_nil, Option.map_some, Option.map_none, seqQ_normal, seqQ_ret, seqQ_exit, seqQ_goto, blockQ_normal, blockQ_ret, blockQ_exit, blockQ_goto, condW_bool, loopQ_ret, loopQ_exit, loopQ_goto, endQ_ret, endQ_normal, keep_mk, keep_st,
 lss_i, leq_i, gtr_i, geq_i, eql_i, neq_i, eql_8, neq_8, lss_8, leq_8, gtr_8, geq_8, eql_s, neq_s, eql_b, neq_b, not_b, by_bys, by_nils, load_cp1, beq_true, beq_false, Bool.not_eq_true', decide_eq_true_eq, decide_eq_false_iff_not, decide_true, decide_false,
 Int.toNat_natCast, Int.ofNat_lt, Int.ofNat_le, Int.natCast_inj, Bool.false_eq_true, Bool.true_eq_false, extPV, List.getElem?_cons_zero, List.getElem?_cons_succ, nilckPV, Int.reduceToNat, Int.reduceLE, true_and, and_true, reduceCtorEq, or_false, false_or, or_true, Option.some.injEq, exists_eq_left', Bool.not_true, Bool.not_false, ne_eq, Int.reduceEq, not_true_eq_false, not_false_eq_true, Int.reduceLT, UInt8.reduceLT, UInt8.reduceLE, UInt8.reduceToNat]
      exact retI rfl Kept.start (by simp [hmsD, a6])
    simp (maxSteps := 1000000) (disch := omega) only [hsp, hlen, e2, e3, eq_true e4, z0, z1, z2, c0, d20, d21, d22, a1, a2, a3, a4, a5, a6, m1, m2, mn_i, add_i, W_seq, W_region, W_cond, W_block, W_skip, W_label, W_exit, W_goto, W_ret, WO_cons, WO_consG, WO_nil, wantedA_eq, wantB, evOp, ev_tmp, ev_const, ev_fn, WN_some, WN_none, updO_some, updO_none, upd_eq,
 ↓reduceIte, Nat.reduceEqDiff, List.nil_append, List.cons_append, List.append_nil, List.map_cons, List.map_nil, env0_zero, env0_succ, env0_nil, Option.map_some, Option.map_none, seqQ_normal, seqQ_ret, seqQ_exit, seqQ_goto, blockQ_normal, blockQ_ret, blockQ_exit, blockQ_goto, condW_bool, loopQ_ret, loopQ_exit, loopQ_goto, endQ_ret, endQ_normal, keep_mk, keep_st,
 lss_i, leq_i, gtr_i, geq_i, eql_i, neq_i, eql_8, neq_8, lss_8, leq_8, gtr_8, geq_8, eql_s, neq_s, eql_b, neq_b, not_b, by_bys, by_nils, load_cp1, beq_true, beq_false, Bool.not_eq_true', decide_eq_true_eq, decide_eq_false_iff_not, decide_true, decide_false,
 Int.toNat_natCast, Int.ofNat_lt, Int.ofNat_le, Int.natCast_inj, Bool.false_eq_true, Bool.true_eq_false, extPV, List.getElem?_cons_zero, List.getElem?_cons_succ, nilckPV, Int.reduceToNat, Int.reduceLE, true_and, and_true, reduceCtorEq, or_false, false_or, or_true, Option.some.injEq, exists_eq_left', Bool.not_true, Bool.not_false, ne_eq, Int.reduceEq, not_true_eq_false, not_false_eq_true, Int.reduceLT, UInt8.reduceLT, UInt8.reduceLE, UInt8.reduceToNat]
    exact retI rfl Kept.start (by simp [hmsD, a1, a2, a3, a4, a5, a6])
  · have e4 : ¬ (xs.length : Int) = 3 := by omega
    rw [if_neg n4]
    have p0 : ¬ (0 : Int) < 0 := by omega
    have p60 : ¬ (60 : Int) < 0 := by omega
    by_cases a1 : h < 0
    · simp (maxSteps := 1000000) (disch := omega) only [hsp, hlen, e2, e3, e4, z0, z1, c0, d20, d21, a1, W_seq, W_region, W_cond, W_block, W_skip, W_label, W_exit, W_goto, W_ret, WO_cons, WO_consG, WO_nil, wantedA_eq, wantB, evOp, ev_tmp, ev_const, ev_fn, WN_some, WN_none, updO_some, updO_none, upd_eq,
 ↓reduceIte, Nat.reduceEqDiff, List.nil_append, List.cons_append, List.append_nil, List.map_cons, List.map_nil, env0_zero, env0_succ, env0_nil, Option.map_some, Option.map_none, seqQ_normal, seqQ_ret, seqQ_exit, seqQ_goto, blockQ_normal, blockQ_ret, blockQ_exit, blockQ_goto, condW_bool, loopQ_ret, loopQ_exit, loopQ_goto, endQ_ret, endQ_normal, keep_mk, keep_st,
 lss_i, leq_i, gtr_i, geq_i, eql_i, neq_i, eql_8, neq_8, lss_8, leq_8, gtr_8, geq_8, eql_s, neq_s, eql_b, neq_b, not_b, by_bys, by_nils, load_cp1, beq_true, beq_false, Bool.not_eq_true', decide_eq_true_eq, decide_eq_false_iff_not, decide_true, decide_false,
 Int.toNat_natCast, Int.ofNat_lt, Int.ofNat_le, Int.natCast_inj, Bool.false_eq_true, Bool.true_eq_false, extPV, List.getElem?_cons_zero, List.getElem?_cons_succ, nilckPV, Int.reduceToNat, Int.reduceLE, true_and, and_true, reduceCtorEq, or_false, false_or, or_true, Option.some.injEq, exists_eq_left', Bool.not_true, Bool.not_false, ne_eq, Int.reduceEq, not_true_eq_false, not_false_eq_true, Int.reduceLT, UInt8.reduceLT, UInt8.reduceLE, UInt8.reduceToNat]
      exact retI rfl Kept.start (by simp [hmsD, a1])
    by_cases a2 : 23 < h
    · simp (maxSteps := 1000000) (disch := omega) only [hsp, hlen, e2, e3, e4, z0, z1, c0, d20, d21, a1, a2, W_seq, W_region, W_cond, W_block, W_skip, W_label, W_exit, W_goto, W_ret, WO_cons, WO_consG, WO_nil, wantedA_eq, wantB, evOp, ev_tmp, ev_const, ev_fn, WN_some, WN_none, updO_some, updO_none, upd_eq,
 ↓reduceIte, Nat.reduceEqDiff, List.nil_append, List.cons_append, List.append_nil, List.map_cons, List.map_nil, env0_zero, env0_succ, env0_nil, Option.map_some, Option.map_none, seqQ_normal, seqQ_ret, seqQ_exit, seqQ_goto, blockQ_normal, blockQ_ret, blockQ_exit, blockQ_goto, condW_bool, loopQ_ret, loopQ_exit, loopQ_goto, endQ_ret, endQ_normal, keep_mk, keep_st,
 lss_i, leq_i, gtr_i, geq_i, eql_i, neq_i, eql_8, neq_8, lss_8, leq_8, gtr_8, geq_8, eql_s, neq_s, eql_b, neq_b, not_b, by_bys, by_nils, load_cp1, beq_true, beq_false, Bool.not_eq_true', decide_eq_true_eq, decide_eq_false_iff_not, decide_true, decide_false,
 Int.toNat_natCast, Int.ofNat_lt, Int.ofNat_le, Int.natCast_inj, Bool.false_eq_true, Bool.true_eq_false, extPV, List.getElem?_cons_zero, List.getElem?_cons_succ, nilckPV, Int.reduceToNat, Int.reduceLE, true_and, and_true, reduceCtorEq, or_false, false_or, or_true, Option.some.injEq, exists_eq_left', Bool.not_true, Bool.not_false, ne_eq, Int.reduceEq, not_true_eq_false, not_false_eq_true, Int.reduceLT, UInt8.reduceLT, UInt8.reduceLE, UInt8.reduceToNat]
      exact retI rfl Kept.start (by simp [hmsD, a2])
    by_cases a3 : m < 0
    · simp (maxSteps := 1000000) (disch := omega) only [hsp, hlen, e2, e3, e4, z0, z1, c0, d20, d21, a1, a2, a3, W_seq, W_region, W_cond, W_block, W_skip, W_label, W_exit, W_goto, W_ret, WO_cons, WO_consG, WO_nil, wantedA_eq, wantB, evOp, ev_tmp, ev_const, ev_fn, WN_some, WN_none, updO_some, updO_none, upd_eq,
 ↓reduceIte, Nat.reduceEqDiff, List.nil_append, List.cons_append, List.append_nil, List.map_cons, List.map_nil, env0_zero, env0_succ, env0_nil, Option.map_some, Option.map_none, seqQ_normal, seqQ_ret, seqQ_exit, seqQ_goto, blockQ_normal, blockQ_ret, blockQ_exit, blockQ_goto, condW_bool, loopQ_ret, loopQ_exit, loopQ_goto, endQ_ret, endQ_normal, keep_mk, keep_st,
 lss_i, leq_i, gtr_i, geq_i, eql_i, neq_i, eql_8, neq_8, lss_8, leq_8, gtr_8, geq_8, eql_s, neq_s, eql_b, neq_b, not_b, by_bys, by_nils, load_cp1, beq_true, beq_false, Bool.not_eq_true', decide_eq_true_eq, decide_eq_false_iff_not, decide_true, decide_false,
 Int.toNat_natCast, Int.ofNat_lt, Int.ofNat_le, Int.natCast_inj, Bool.false_eq_true, Bool.true_eq_false, extPV, List.getElem?_cons_zero, List.getElem?_cons_succ, nilckPV, Int.reduceToNat, Int.reduceLE, true_and, and_true, reduceCtorEq, or_false, false_or, or_true, Option.some.injEq, exists_eq_left', Bool.not_true, Bool.not_false, ne_eq, Int.reduceEq, not_true_eq_false, not_false_eq_true, Int.reduceLT, UInt8.reduceLT, UInt8.reduceLE, UInt8.reduceToNat]
      exact retI rfl Kept.start (by simp [hmsD, a3])
    by_cases a4 : 59 < m
    · simp (maxSteps := 1000000) (disch := omega) only [hsp, hlen, e2, e3, e4, z0, z1, c0, d20, d21, a1, a2, a3, a4, W_seq, W_region, W_cond, W_block, W_skip, W_label, W_exit, W_goto, W_ret, WO_cons, WO_consG, WO_nil, wantedA_eq, wantB, evOp, ev_tmp, ev_const, ev_fn, WN_some, WN_none, updO_some, updO_none, upd_eq,
 ↓reduceIte, Nat.reduceEqDiff, List.nil_append, List.cons_append, List.append_nil, List.map_cons, List.map_nil, env0_zero, env0_succ, env0_nil, Option.map_some, Option.map_none, seqQ_normal, seqQ_ret, seqQ_exit, seqQ_goto, blockQ_normal, blockQ_ret, blockQ_exit, blockQ_goto, condW_bool, loopQ_ret, loopQ_exit, loopQ_goto, endQ_ret, endQ_normal, keep_mk, keep_st,
 lss_i, leq_i, gtr_i, geq_i, eql_i, neq_i, eql_8, neq_8, lss_8, leq_8, gtr_8, geq_8, eql_s, neq_s, eql_b, neq_b, not_b, by_bys, by_nils, load_cp1, beq_true, beq_false, Bool.not_eq_true', decide_eq_true_eq, decide_eq_false_iff_not, decide_true, decide_false,
 Int.toNat_natCast, Int.ofNat_lt, Int.ofNat_le, Int.natCast_inj, Bool.false_eq_true, Bool.true_eq_false, extPV, List.getElem?_cons_zero, List.getElem?_cons_succ, nilckPV, Int.reduceToNat, Int.reduceLE, true_and, and_true, reduceCtorEq, or_false, false_or, or_true, Option.some.injEq, exists_eq_left', Bool.not_true, Bool.not_false, ne_eq, Int.reduceEq, not_true_eq_false, not_false_eq_true, Int.reduceLT, UInt8.reduceLT, UInt8.reduceLE, UInt8.reduceToNat]
      exact retI rfl Kept.start (by simp [hmsD, a4])
    simp (maxSteps := 1000000) (disch := omega) only [hsp, hlen, e2, e3, e4, z0, z1, c0, d20, d21, a1, a2, a3, a4, m1, m2, mn_i, add_i, W_seq, W_region, W_cond, W_block, W_skip, W_label, W_exit, W_goto, W_ret, WO_cons, WO_consG, WO_nil, wantedA_eq, wantB, evOp, ev_tmp, ev_const, ev_fn, WN_some, WN_none, updO_some, updO_none, upd_eq,
 ↓reduceIte, Nat.reduceEqDiff, List.nil_append, List.cons_append, List.append_nil, List.map_cons, List.map_nil, env0_zero, env0_succ, env0_nil, Option.map_some, Option.map_none, seqQ_normal, seqQ_ret, seqQ_exit, seqQ_goto, blockQ_normal, blockQ_ret, blockQ_exit, blockQ_goto, condW_bool, loopQ_ret, loopQ_exit, loopQ_goto, endQ_ret, endQ_normal, keep_mk, keep_st,
 lss_i, leq_i, gtr_i, geq_i, eql_i, neq_i, eql_8, neq_8, lss_8, leq_8, gtr_8, geq_8, eql_s, neq_s, eql_b, neq_b, not_b, by_bys, by_nils, load_cp1, beq_true, beq_false, Bool.not_eq_true', decide_eq_true_eq, decide_eq_false_iff_not, decide_true, decide_false,
 Int.toNat_natCast, Int.ofNat_lt, Int.ofNat_le, Int.natCast_inj, Bool.false_eq_true, Bool.true_eq_false, extPV, List.getElem?_cons_zero, List.getElem?_cons_succ, nilckPV, Int.reduceToNat, Int.reduceLE, true_and, and_true, reduceCtorEq, or_false, false_or, or_true, Option.some.injEq, exists_eq_left', Bool.not_true, Bool.not_false, ne_eq, Int.reduceEq, not_true_eq_false, not_false_eq_true, Int.reduceLT, UInt8.reduceLT, UInt8.reduceLE, UInt8.reduceToNat]
    exact retI rfl Kept.start (by simp [hmsD, a1, a2, a3, a4])
end Go.Ab

/-
  Dates are read: zones.
-/
namespace Go.Ab
set_option linter.unusedVariables false
set_option linter.unusedSimpArgs false
set_option maxRecDepth 20000
variable {st s : St} {e : Env}

def zoneTab : List (Bs × Int) := [([117, 116], 0), ([103, 109, 116], 0), ([122], 0), ([], 0), ([101, 100, 116], (-14400)), ([101, 115, 116], (-18000)), ([99, 100, 116], (-18000)), ([99, 115, 116], (-21600)), ([109, 100, 116], (-21600)), ([109, 115, 116], (-25200)), ([112, 100, 116], (-25200)), ([112, 115, 116], (-28800))]
/-- A shift in digits. -/
def zoneN (s : Bs) : Int × Bool :=
  if (s.getD 0 0 ≠ 43 ∧ s.getD 0 0 ≠ 45) ∨ digD (s.drop 1) 4 4 < 0 then (0, false)
  else ((if s.getD 0 0 = 45 then -(digD ((s.take 3).drop 1) 2 2 * 3600 + digD (s.drop 3) 2 2 * 60) else digD ((s.take 3).drop 1) 2 2 * 3600 + digD (s.drop 3) 2 2 * 60), decide (digD ((s.take 3).drop 1) 2 2 < 24) && decide (digD (s.drop 3) 2 2 < 60))
def zoneD (s : Bs) : Int × Bool := match zoneTab.find? (fun q => decide (lowOf s = q.1)) with
  | some q => (q.2, true)
  | none => zoneN s

theorem retIB {a b : Nat} {t u : Int} {p q : Bool} (ha : e a = .int .i64 t) (hb : e b = .bool p) (hk : Kept st s) (h1 : t = u) (h2 : p = q) : ∃ rv, resOf e s [.tmp a, .tmp b] = some rv ∧ leave st s rv = (.tup [.int .i64 u, .bool q], st) := by
  subst h1 h2; exact retV2 ha hb rfl rfl hk ⟨fun _ => rfl, fun _ _ => rfl⟩

set_option maxHeartbeats 4000000 in
theorem zone_spec {l : Bs} (hl : l.length ≤ 1000000) : call prog (.fn 291 []) [.str l] st = some (.tup [.int .i64 (zoneD l).1, .bool (zoneD l).2], st) := by
  refine call_of_W prog_291 ?_
  unfold F_date_zone; dsimp only
  have hlo := fun S : St => dlower_spec (st := S) hl
  obtain ⟨x, hx⟩ : ∃ x, x = lowOf l := ⟨_, rfl⟩
  rw [← hx] at hlo
  by_cases k0 : x = [117, 116]
  · simp (maxSteps := 1000000) (disch := omega) only [hlo, eq_true k0, W_seq, W_region, W_cond, W_block, W_skip, W_label, W_exit, W_goto, W_ret, WO_cons, WO_consG, WO_nil, wantedA_eq, wantB, evOp, ev_tmp, ev_const, ev_fn, WN_some, WN_none, updO_some, updO_none, upd_eq,
 ↓reduceIte, Nat.reduceEqDiff, List.nil_append, List.cons_append, List.append_nil, List.map_cons, List.map_nil, env0_zero, env0_succ, env0_nil, Option.map_some, Option.map_none, seqQ_normal, seqQ_ret, seqQ_exit, seqQ_goto, blockQ_normal, blockQ_ret, blockQ_exit, blockQ_goto, condW_bool, loopQ_ret, loopQ_exit, loopQ_goto, endQ_ret, endQ_normal, keep_mk, keep_st,
 lss_i, leq_i, gtr_i, geq_i, eql_i, neq_i, eql_8, neq_8, lss_8, leq_8, gtr_8, geq_8, eql_s, neq_s, eql_b, neq_b, not_b, by_bys, by_nils, load_cp1, beq_true, beq_false, Bool.not_eq_true', decide_eq_true_eq, decide_eq_false_iff_not, decide_true, decide_false,
 Int.toNat_natCast, Int.ofNat_lt, Int.ofNat_le, Int.natCast_inj, Bool.false_eq_true, Bool.true_eq_false, extPV, List.getElem?_cons_zero, List.getElem?_cons_succ, nilckPV, Int.reduceToNat, Int.reduceLE, true_and, and_true, reduceCtorEq, or_false, false_or, or_true, Option.some.injEq, exists_eq_left', Bool.not_true, Bool.not_false, ne_eq, Int.reduceEq, not_true_eq_false, not_false_eq_true, Int.reduceLT, UInt8.reduceLT, UInt8.reduceLE, UInt8.reduceToNat]
    exact retIB rfl rfl Kept.start (by simp [zoneD, zoneTab, ← hx, k0]) (by simp [zoneD, zoneTab, ← hx, k0])
  by_cases k1 : x = [103, 109, 116]
  · simp (maxSteps := 1000000) (disch := omega) only [hlo, k0, eq_true k1, W_seq, W_region, W_cond, W_block, W_skip, W_label, W_exit, W_goto, W_ret, WO_cons, WO_consG, WO_nil, wantedA_eq, wantB, evOp, ev_tmp, ev_const, ev_fn, WN_some, WN_none, updO_some, updO_none, upd_eq,
 ↓reduceIte, Nat.reduceEqDiff, List.nil_append, List.cons_append, List.append_nil, List.map_cons, List.map_nil, env0_zero, env0_succ, env0_nil, Option.map_some, Option.map_none, seqQ_normal, seqQ_ret, seqQ_exit, seqQ_goto, blockQ_normal, blockQ_ret, blockQ_exit, blockQ_goto, condW_bool, loopQ_ret, loopQ_exit, loopQ_goto, endQ_ret, endQ_normal, keep_mk, keep_st,
 lss_i, leq_i, gtr_i, geq_i, eql_i, neq_i, eql_8, neq_8, lss_8, leq_8, gtr_8, geq_8, eql_s, neq_s, eql_b, neq_b, not_b, by_bys, by_nils, load_cp1, beq_true, beq_false, Bool.not_eq_true', decide_eq_true_eq, decide_eq_false_iff_not, decide_true, decide_false,
 Int.toNat_natCast, Int.ofNat_lt, Int.ofNat_le, Int.natCast_inj, Bool.false_eq_true, Bool.true_eq_false, extPV, List.getElem?_cons_zero, List.getElem?_cons_succ, nilckPV, Int.reduceToNat, Int.reduceLE, true_and, and_true, reduceCtorEq, or_false, false_or, or_true, Option.some.injEq, exists_eq_left', Bool.not_true, Bool.not_false, ne_eq, Int.reduceEq, not_true_eq_false, not_false_eq_true, Int.reduceLT, UInt8.reduceLT, UInt8.reduceLE, UInt8.reduceToNat]
    exact retIB rfl rfl Kept.start (by simp [zoneD, zoneTab, ← hx, k0, k1]) (by simp [zoneD, zoneTab, ← hx, k0, k1])
  by_cases k2 : x = [122]
  · simp (maxSteps := 1000000) (disch := omega) only [hlo, k0, k1, eq_true k2, W_seq, W_region, W_cond, W_block, W_skip, W_label, W_exit, W_goto, W_ret, WO_cons, WO_consG, WO_nil, wantedA_eq, wantB, evOp, ev_tmp, ev_const, ev_fn, WN_some, WN_none, updO_some, updO_none, upd_eq,
 ↓reduceIte, Nat.reduceEqDiff, List.nil_append, List.cons_append, List.append_nil, List.map_cons, List.map_nil, env0_zero, env0_succ, env0_nil, Option.map_some, Option.map_none, seqQ_normal, seqQ_ret, seqQ_exit, seqQ_goto, blockQ_normal, blockQ_ret, blockQ_exit, blockQ_goto, condW_bool, loopQ_ret, loopQ_exit, loopQ_goto, endQ_ret, endQ_normal, keep_mk, keep_st,
 lss_i, leq_i, gtr_i, geq_i, eql_i, neq_i, eql_8, neq_8, lss_8, leq_8, gtr_8, geq_8, eql_s, neq_s, eql_b, neq_b, not_b, by_bys, by_nils, load_cp1, beq_true, beq_false, Bool.not_eq_true', decide_eq_true_eq, decide_eq_false_iff_not, decide_true, decide_false,
 Int.toNat_natCast, Int.ofNat_lt, Int.ofNat_le, Int.natCast_inj, Bool.false_eq_true, Bool.true_eq_false, extPV, List.getElem?_cons_zero, List.getElem?_cons_succ, nilckPV, Int.reduceToNat, Int.reduceLE, true_and, and_true, reduceCtorEq, or_false, false_or, or_true, Option.some.injEq, exists_eq_left', Bool.not_true, Bool.not_false, ne_eq, Int.reduceEq, not_true_eq_false, not_false_eq_true, Int.reduceLT, UInt8.reduceLT, UInt8.reduceLE, UInt8.reduceToNat]
    exact retIB rfl rfl Kept.start (by simp [zoneD, zoneTab, ← hx, k0, k1, k2]) (by simp [zoneD, zoneTab, ← hx, k0, k1, k2])
  by_cases k3 : x = []
  · simp (maxSteps := 1000000) (disch := omega) only [hlo, k0, k1, k2, eq_true k3, W_seq, W_region, W_cond, W_block, W_skip, W_label, W_exit, W_goto, W_ret, WO_cons, WO_consG, WO_nil, wantedA_eq, wantB, evOp, ev_tmp, ev_const, ev_fn, WN_some, WN_none, updO_some, updO_none, upd_eq,
 ↓reduceIte, Nat.reduceEqDiff, List.nil_append, List.cons_append, List.append_nil, List.map_cons, List.map_nil, env0_zero, env0_succ, env0_nil, Option.map_some, Option.map_none, seqQ_normal, seqQ_ret, seqQ_exit, seqQ_goto, blockQ_normal, blockQ_ret, blockQ_exit, blockQ_goto, condW_bool, loopQ_ret, loopQ_exit, loopQ_goto, endQ_ret, endQ_normal, keep_mk, keep_st,
 lss_i, leq_i, gtr_i, geq_i, eql_i, neq_i, eql_8, neq_8, lss_8, leq_8, gtr_8, geq_8, eql_s, neq_s, eql_b, neq_b, not_b, by_bys, by_nils, load_cp1, beq_true, beq_false, Bool.not_eq_true', decide_eq_true_eq, decide_eq_false_iff_not, decide_true, decide_false,
 Int.toNat_natCast, Int.ofNat_lt, Int.ofNat_le, Int.natCast_inj, Bool.false_eq_true, Bool.true_eq_false, extPV, List.getElem?_cons_zero, List.getElem?_cons_succ, nilckPV, Int.reduceToNat, Int.reduceLE, true_and, and_true, reduceCtorEq, or_false, false_or, or_true, Option.some.injEq, exists_eq_left', Bool.not_true, Bool.not_false, ne_eq, Int.reduceEq, not_true_eq_false, not_false_eq_true, Int.reduceLT, UInt8.reduceLT, UInt8.reduceLE, UInt8.reduceToNat]
    exact retIB rfl rfl Kept.start (by simp [zoneD, zoneTab, ← hx, k0, k1, k2, k3]) (by simp [zoneD, zoneTab, ← hx, k0, k1, k2, k3])
  by_cases k4 : x = [101, 100, 116]
  · simp (maxSteps := 1000000) (disch := omega) only [hlo, k0, k1, k2, k3, eq_true k4, W_seq, W_region, W_cond, W_block, W_skip, W_label, W_exit, W_goto, W_ret, WO_cons, WO_consG, WO_nil, wantedA_eq, wantB, evOp, ev_tmp, ev_const, ev_fn, WN_some, WN_none, updO_some, updO_none, upd_eq,
 ↓reduceIte, Nat.reduceEqDiff, List.nil_append, List.cons_append, List.append_nil, List.map_cons, List.map_nil, env0_zero, env0_succ, env0_nil, Option.map_some, Option.map_none, seqQ_normal, seqQ_ret, seqQ_exit, seqQ_goto, blockQ_normal, blockQ_ret, blockQ_exit, blockQ_goto, condW_bool, loopQ_ret, loopQ_exit, loopQ_goto, endQ_ret, endQ_normal, keep_mk, keep_st,
 lss_i, leq_i, gtr_i, geq_i, eql_i, neq_i, eql_8, neq_8, lss_8, leq_8, gtr_8, geq_8, eql_s, neq_s, eql_b, neq_b, not_b, by_bys, by_nils, load_cp1, beq_true, beq_false, Bool.not_eq_true', decide_eq_true_eq, decide_eq_false_iff_not, decide_true, decide_false,
 Int.toNat_natCast, Int.ofNat_lt, Int.ofNat_le, Int.natCast_inj, Bool.false_eq_true, Bool.true_eq_false, extPV, List.getElem?_cons_zero, List.getElem?_cons_succ, nilckPV, Int.reduceToNat, Int.reduceLE, true_and, and_true, reduceCtorEq, or_false, false_or, or_true, Option.some.injEq, exists_eq_left', Bool.not_true, Bool.not_false, ne_eq, Int.reduceEq, not_true_eq_false, not_false_eq_true, Int.reduceLT, UInt8.reduceLT, UInt8.reduceLE, UInt8.reduceToNat]
    exact retIB rfl rfl Kept.start (by simp [zoneD, zoneTab, ← hx, k0, k1, k2, k3, k4]) (by simp [zoneD, zoneTab, ← hx, k0, k1, k2, k3, k4])
  by_cases k5 : x = [101, 115, 116]
  · simp (maxSteps := 1000000) (disch := omega) only [hlo, k0, k1, k2, k3, k4, eq_true k5, W_seq, W_region, W_cond, W_block, W_skip, W_label, W_exit, W_goto, W_ret, WO_cons, WO_consG, WO_nil, wantedA_eq, wantB, evOp, ev_tmp, ev_const, ev_fn, WN_some, WN_none, updO_some, updO_none, upd_eq,
 ↓reduceIte, Nat.reduceEqDiff, List.nil_append, List.cons_append, List.append_nil, List.map_cons, List.map_nil, env0_zero, env0_succ, env0_nil, Option.map_some, Option.map_none, seqQ_normal, seqQ_ret, seqQ_exit, seqQ_goto, blockQ_normal, blockQ_ret, blockQ_exit, blockQ_goto, condW_bool, loopQ_ret, loopQ_exit, loopQ_goto, endQ_ret, endQ_normal, keep_mk, keep_st,
 lss_i, leq_i, gtr_i, geq_i, eql_i, neq_i, eql_8, neq_8, lss_8, leq_8, gtr_8, geq_8, eql_s, neq_s, eql_b, neq_b, not_b, by_bys, by_nils, load_cp1, beq_true, beq_false, Bool.not_eq_true', decide_eq_true_eq, decide_eq_false_iff_not, decide_true, decide_false,
 Int.toNat_natCast, Int.ofNat_lt, Int.ofNat_le, Int.natCast_inj, Bool.false_eq_true, Bool.true_eq_false, extPV, List.getElem?_cons_zero, List.getElem?_cons_succ, nilckPV, Int.reduceToNat, Int.reduceLE, true_and, and_true, reduceCtorEq, or_false, false_or, or_true, Option.some.injEq, exists_eq_left', Bool.not_true, Bool.not_false, ne_eq, Int.reduceEq, not_true_eq_false, not_false_eq_true, Int.reduceLT, UInt8.reduceLT, UInt8.reduceLE, UInt8.reduceToNat]
    exact retIB rfl rfl Kept.start (by simp [zoneD, zoneTab, ← hx, k0, k1, k2, k3, k4, k5]) (by simp [zoneD, zoneTab, ← hx, k0, k1, k2, k3, k4, k5])
  by_cases k6 : x = [99, 100, 116]
  · simp (maxSteps := 1000000) (disch := omega) only [hlo, k0, k1, k2, k3, k4, k5, eq_true k6, W_seq, W_region, W_cond, W_block, W_skip, W_label, W_exit, W_goto, W_ret, WO_cons, WO_consG, WO_nil, wantedA_eq, wantB, evOp, ev_tmp, ev_const, ev_fn, WN_some, WN_none, updO_some, updO_none, upd_eq,
 ↓reduceIte, Nat.reduceEqDiff, List.nil_append, List.cons_append, List.append_nil, List.map_cons, List.map_nil, env0_zero, env0_succ, env0_nil, Option.map_some, Option.map_none, seqQ_normal, seqQ_ret, seqQ_exit, seqQ_goto, blockQ_normal, blockQ_ret, blockQ_exit, blockQ_goto, condW_bool, loopQ_ret, loopQ_exit, loopQ_goto, endQ_ret, endQ_normal, keep_mk, keep_st,
 lss_i, leq_i, gtr_i, geq_i, eql_i, neq_i, eql_8, neq_8, lss_8, leq_8, gtr_8, geq_8, eql_s, neq_s, eql_b, neq_b, not_b, by_bys, by_nils, load_cp1, beq_true, beq_false, Bool.not_eq_true', decide_eq_true_eq, decide_eq_false_iff_not, decide_true, decide_false,
 Int.toNat_natCast, Int.ofNat_lt, Int.ofNat_le, Int.natCast_inj, Bool.false_eq_true, Bool.true_eq_false, extPV, List.getElem?_cons_zero, List.getElem?_cons_succ, nilckPV, Int.reduceToNat, Int.reduceLE, true_and, and_true, reduceCtorEq, or_false, false_or, or_true, Option.some.injEq, exists_eq_left', Bool.not_true, Bool.not_false, ne_eq, Int.reduceEq, not_true_eq_false, not_false_eq_true, Int.reduceLT, UInt8.reduceLT, UInt8.reduceLE, UInt8.reduceToNat]
    exact retIB rfl rfl Kept.start (by simp [zoneD, zoneTab, ← hx, k0, k1, k2, k3, k4, k5, k6]) (by simp [zoneD, zoneTab, ← hx, k0, k1, k2, k3, k4, k5, k6])
  by_cases k7 : x = [99, 115, 116]
  · simp (maxSteps := 1000000) (disch := omega) only [hlo, k0, k1, k2, k3, k4, k5, k6, eq_true k7, W_seq, W_region, W_cond, W_block, W_skip, W_label, W_exit, W_goto, W_ret, WO_cons, WO_consG, WO_nil, wantedA_eq, wantB, evOp, ev_tmp, ev_const, ev_fn, WN_some, WN_none, updO_some, updO_none, upd_eq,
 ↓reduceIte, Nat.reduceEqDiff, List.nil_append, List.cons_append, List.append_nil, List.map_cons, List.map_nil, env0_zero, env0_succ, env0_nil, Option.map_some, Option.map_none, seqQ_normal, seqQ_ret, seqQ_exit, seqQ_goto, blockQ_normal, blockQ_ret, blockQ_exit, blockQ_goto, condW_bool, loopQ_ret, loopQ_exit, loopQ_goto, endQ_ret, endQ_normal, keep_mk, keep_st,
 lss_i, leq_i, gtr_i, geq_i, eql_i, neq_i, eql_8, neq_8, lss_8, leq_8, gtr_8, geq_8, eql_s, neq_s, eql_b, neq_b, not_b, by_bys, by_nils, load_cp1, beq_true, beq_false, Bool.not_eq_true', decide_eq_true_eq, decide_eq_false_iff_not, decide_true, decide_false,
 Int.toNat_natCast, Int.ofNat_lt, Int.ofNat_le, Int.natCast_inj, Bool.false_eq_true, Bool.true_eq_false, extPV, List.getElem?_cons_zero, List.getElem?_cons_succ, nilckPV, Int.reduceToNat, Int.reduceLE, true_and, and_true, reduceCtorEq, or_false, false_or, or_true, Option.some.injEq, exists_eq_left', Bool.not_true, Bool.not_false, ne_eq, Int.reduceEq, not_true_eq_false, not_false_eq_true, Int.reduceLT, UInt8.reduceLT, UInt8.reduceLE, UInt8.reduceToNat]
    exact retIB rfl rfl Kept.start (by simp [zoneD, zoneTab, ← hx, k0, k1, k2, k3, k4, k5, k6, k7]) (by simp [zoneD, zoneTab, ← hx, k0, k1, k2, k3, k4, k5, k6, k7])
  by_cases k8 : x = [109, 100, 116]
  · simp (maxSteps := 1000000) (disch := omega) only [hlo, k0, k1, k2, k3, k4, k5, k6, k7, eq_true k8, W_seq, W_region, W_cond, W_block, W_skip, W_label, W_exit, W_goto, W_ret, WO_cons, WO_consG, WO_nil, wantedA_eq, wantB, evOp, ev_tmp, ev_const, ev_fn, WN_some, WN_none, updO_some, updO_none, upd_eq,
 ↓reduceIte, Nat.reduceEqDiff, List.nil_append, List.cons_append, List.append_nil, List.map_cons, List.map_nil, env0_zero, env0_succ, env0_nil, Option.map_some, Option.map_none, seqQ_normal, seqQ_ret, seqQ_exit, seqQ_goto, blockQ_normal, blockQ_ret, blockQ_exit, blockQ_goto, condW_bool, loopQ_ret, loopQ_exit, loopQ_goto, endQ_ret, endQ_normal, keep_mk, keep_st,
 lss_i, leq_i, gtr_i, geq_i, eql_i, neq_i, eql_8, neq_8, lss_8, leq_8, gtr_8, geq_8, eql_s, neq_s, eql_b, neq_b, not_b, by_bys, by_nils, load_cp1, beq_true, beq_false, Bool.not_eq_true', decide_eq_true_eq, decide_eq_false_iff_not, decide_true, decide_false,
 Int.toNat_natCast, Int.ofNat_lt, Int.ofNat_le, Int.natCast_inj, Bool.false_eq_true, Bool.true_eq_false, extPV, List.getElem?_cons_zero, List.getElem?_cons_succ, nilckPV, Int.reduceToNat, Int.reduceLE, true_and, and_true, reduceCtorEq, or_false, false_or, or_true, Option.some.injEq, exists_eq_left', Bool.not_true, Bool.not_false, ne_eq, Int.reduceEq, not_true_eq_false, not_false_eq_true, Int.reduceLT, UInt8.reduceLT, UInt8.reduceLE, UInt8.reduceToNat]
    exact retIB rfl rfl Kept.start (by simp [zoneD, zoneTab, ← hx, k0, k1, k2, k3, k4, k5, k6, k7, k8]) (by simp [zoneD, zoneTab, ← hx, k0, k1, k2, k3, k4, k5, k6, k7, k8])
  by_cases k9 : x = [109, 115, 116]
  · simp (maxSteps := 1000000) (disch := omega) only [hlo, k0, k1, k2, k3, k4, k5, k6, k7, k8, eq_true k9, W_seq, W_region, W_cond, W_block, W_skip, W_label, W_exit, W_goto, W_ret, WO_cons, WO_consG, WO_nil, wantedA_eq, wantB, evOp, ev_tmp, ev_const, ev_fn, WN_some, WN_none, updO_some, updO_none, upd_eq,
 ↓reduceIte, Nat.reduceEqDiff, List.nil_append, List.cons_append, List.append_nil, List.map_cons, List.map_nil, env0_zero, env0_succ, env0_nil, Option.map_some, Option.map_none, seqQ_normal, seqQ_ret, seqQ_exit, seqQ_goto, blockQ_normal, blockQ_ret, blockQ_exit, blockQ_goto, condW_bool, loopQ_ret, loopQ_exit, loopQ_goto, endQ_ret, endQ_normal, keep_mk, keep_st,
 lss_i, leq_i, gtr_i, geq_i, eql_i, neq_i, eql_8, neq_8, lss_8, leq_8, gtr_8, geq_8, eql_s, neq_s, eql_b, neq_b, not_b, by_bys, by_nils, load_cp1, beq_true, beq_false, Bool.not_eq_true', decide_eq_true_eq, decide_eq_false_iff_not, decide_true, decide_false,
 Int.toNat_natCast, Int.ofNat_lt, Int.ofNat_le, Int.natCast_inj, Bool.false_eq_true, Bool.true_eq_false, extPV, List.getElem?_cons_zero, List.getElem?_cons_succ, nilckPV, Int.reduceToNat, Int.reduceLE, true_and, and_true, reduceCtorEq, or_false, false_or, or_true, Option.some.injEq, exists_eq_left', Bool.not_true, Bool.not_false, ne_eq, Int.reduceEq, not_true_eq_false, not_false_eq_true, Int.reduceLT, UInt8.reduceLT, UInt8.reduceLE, UInt8.reduceToNat]
    exact retIB rfl rfl Kept.start (by simp [zoneD, zoneTab, ← hx, k0, k1, k2, k3, k4, k5, k6, k7, k8, k9]) (by simp [zoneD, zoneTab, ← hx, k0, k1, k2, k3, k4, k5, k6, k7, k8, k9])
  by_cases k10 : x = [112, 100, 116]
  · simp (maxSteps := 1000000) (disch := omega) only [hlo, k0, k1, k2, k3, k4, k5, k6, k7, k8, k9, eq_true k10, W_seq, W_region, W_cond, W_block, W_skip, W_label, W_exit, W_goto, W_ret, WO_cons, WO_consG, WO_nil, wantedA_eq, wantB, evOp, ev_tmp, ev_const, ev_fn, WN_some, WN_none, updO_some, updO_none, upd_eq,
 ↓reduceIte, Nat.reduceEqDiff, List.nil_append, List.cons_append, List.append_nil, List.map_cons, List.map_nil, env0_zero, env0_succ, env0_nil, Option.map_some, Option.map_none, seqQ_normal, seqQ_ret, seqQ_exit, seqQ_goto, blockQ_normal, blockQ_ret, blockQ_exit, blockQ_goto, condW_bool, loopQ_ret, loopQ_exit, loopQ_goto, endQ_ret, endQ_normal, keep_mk, keep_st,
 lss_i, leq_i, gtr_i, geq_i, eql_i, neq_i, eql_8, neq_8, lss_8, leq_8, gtr_8, geq_8, eql_s, neq_s, eql_b, neq_b, not_b, by_bys, by_nils, load_cp1, beq_true, beq_false, Bool.not_eq_true', decide_eq_true_eq, decide_eq_false_iff_not, decide_true, decide_false,
 Int.toNat_natCast, Int.ofNat_lt, Int.ofNat_le, Int.natCast_inj, Bool.false_eq_true, Bool.true_eq_false, extPV, List.getElem?_cons_zero, List.getElem?_cons_succ, nilckPV, Int.reduceToNat, Int.reduceLE, true_and, and_true, reduceCtorEq, or_false, false_or, or_true, Option.some.injEq, exists_eq_left', Bool.not_true, Bool.not_false, ne_eq, Int.reduceEq, not_true_eq_false, not_false_eq_true, Int.reduceLT, UInt8.reduceLT, UInt8.reduceLE, UInt8.reduceToNat]
    exact retIB rfl rfl Kept.start (by simp [zoneD, zoneTab, ← hx, k0, k1, k2, k3, k4, k5, k6, k7, k8, k9, k10]) (by simp [zoneD, zoneTab, ← hx, k0, k1, k2, k3, k4, k5, k6, k7, k8, k9, k10])
  by_cases k11 : x = [112, 115, 116]
  · simp (maxSteps := 1000000) (disch := omega) only [hlo, k0, k1, k2, k3, k4, k5, k6, k7, k8, k9, k10, eq_true k11, W_seq, W_region, W_cond, W_block, W_skip, W_label, W_exit, W_goto, W_ret, WO_cons, WO_consG, WO_nil, wantedA_eq, wantB, evOp, ev_tmp, ev_const, ev_fn, WN_some, WN_none, updO_some, updO_none, upd_eq,
 ↓reduceIte, Nat.reduceEqDiff, List.nil_append, List.cons_append, List.append_nil, List.map_cons, List.map_nil, env0_zero, env0_succ, env0_nil, Option.map_some, Option.map_none, seqQ_normal, seqQ_ret, seqQ_exit, seqQ_goto, blockQ_normal, blockQ_ret, blockQ_exit, blockQ_goto, condW_bool, loopQ_ret, loopQ_exit, loopQ_goto, endQ_ret, endQ_normal, keep_mk, keep_st,
 lss_i, leq_i, gtr_i, geq_i, eql_i, neq_i, eql_8, neq_8, lss_8, leq_8, gtr_8, geq_8, eql_s, neq_s, eql_b, neq_b, not_b, by_bys, by_nils, load_cp1, beq_true, beq_false, Bool.not_eq_true', decide_eq_true_eq, decide_eq_false_iff_not, decide_true, decide_false,
 Int.toNat_natCast, Int.ofNat_lt, Int.ofNat_le, Int.natCast_inj, Bool.false_eq_true, Bool.true_eq_false, extPV, List.getElem?_cons_zero, List.getElem?_cons_succ, nilckPV, Int.reduceToNat, Int.reduceLE, true_and, and_true, reduceCtorEq, or_false, false_or, or_true, Option.some.injEq, exists_eq_left', Bool.not_true, Bool.not_false, ne_eq, Int.reduceEq, not_true_eq_false, not_false_eq_true, Int.reduceLT, UInt8.reduceLT, UInt8.reduceLE, UInt8.reduceToNat]
    exact retIB rfl rfl Kept.start (by simp [zoneD, zoneTab, ← hx, k0, k1, k2, k3, k4, k5, k6, k7, k8, k9, k10, k11]) (by simp [zoneD, zoneTab, ← hx, k0, k1, k2, k3, k4, k5, k6, k7, k8, k9, k10, k11])
  have hz : zoneD l = zoneN l := by
    have : zoneTab.find? (fun q => decide (lowOf l = q.1)) = none := by simp [zoneTab, ← hx, k0, k1, k2, k3, k4, k5, k6, k7, k8, k9, k10, k11]
    unfold zoneD; rw [this]
  rw [hz]
  have hne : l ≠ [] := fun h => k3 (by rw [hx, h]; rfl)
  have hpos := List.length_pos_iff.2 hne
  obtain ⟨a, ha⟩ : ∃ a, a = l.getD 0 0 := ⟨_, rfl⟩
  have i0 : idxSPV (.str l) (.int .i64 0) = some (.b8 a) := by rw [idx_s (by omega) (by simpa using hpos), ha]; rfl
  have s1 : slcPV 0 (.str l) (some (.int .i64 1)) none none = some (.str (l.drop 1)) := by rw [slc_s_lo (by omega) (by simp; omega)]; rfl
  have d4 := fun S : St => digits_spec (st := S) (l := l.drop 1) (least := 4) (most := 4) (by simp; omega) (by omega) (by omega)
  rw [show (((4 : Nat) : Int)) = 4 from rfl] at d4
  have d2 := fun (y : Bs) (hy : y.length ≤ 1000000) (S : St) => digits_spec (st := S) (l := y) (least := 2) (most := 2) (by omega) (by omega) (by omega)
  rw [show (((2 : Nat) : Int)) = 2 from rfl] at d2
  obtain ⟨n, hn⟩ : ∃ n, n = digD (l.drop 1) 4 4 := ⟨_, rfl⟩
  rw [← hn] at d4
  have bad : (a ≠ 43 ∧ a ≠ 45) ∨ n < 0 → ∀ E : Env, E 2 = .int .i64 0 → E 3 = .bool false → ∃ rv, resOf E { boxes := st.boxes, toks := st.toks, loops := st.loops, low := st.boxes.length } [.tmp 2, .tmp 3] = some rv ∧ leave st { boxes := st.boxes, toks := st.toks, loops := st.loops, low := st.boxes.length } rv = (.tup [.int .i64 (zoneN l).1, .bool (zoneN l).2], st) := fun h E q2 q3 => by
    have hz0 : zoneN l = (0, false) := by unfold zoneN; rw [← ha, ← hn, if_pos h]
    rw [hz0]
    exact retIB q2 q3 Kept.start rfl rfl
  have mulc : ∀ (h c : Int), -100000 < h → h < 100000 → 0 ≤ c → c ≤ 3600 → binPV .mul .no (.int .i64 h) (.int .i64 c) = some (.int .i64 (h * c)) := fun h c h1 h2 h3 h4 => by
    simp only [binPV, binI, reduceIte, Option.some.injEq]
    have e1 : h * c ≤ 100000 * 3600 := by
      rcases Int.lt_or_le h 0 with g | g
      · have := Int.mul_nonneg (show 0 ≤ -h by omega) h3
        rw [Int.neg_mul] at this; omega
      · exact Int.mul_le_mul (by omega) h4 h3 (by omega)
    have e2 : -(100000 * 3600) ≤ h * c := by
      rcases Int.lt_or_le h 0 with g | g
      · have := Int.mul_le_mul (show -h ≤ 100000 by omega) h4 h3 (by omega)
        rw [Int.neg_mul] at this; omega
      · have := Int.mul_nonneg g h3; omega
    rw [wrap64 (by omega) (by omega)]
  have fin : 0 ≤ n → l.length = 5 := fun h => by
    rw [hn] at h
    unfold digD at h
    split at h
    · rename_i q; simp at q; omega
    · omega
  by_cases c1 : a = 43
  · have c2 : ¬ a = 45 := by rw [c1]; decide
    by_cases c3 : n < 0
    · simp (maxSteps := 1000000) (disch := omega) only [hlo, k0, k1, k2, k3, k4, k5, k6, k7, k8, k9, k10, k11, i0, eq_true c1, s1, d4, c3, W_seq, W_region, W_cond, W_block, W_skip, W_label, W_exit, W_goto, W_ret, WO_cons, WO_consG, WO_nil, wantedA_eq, wantB, evOp, ev_tmp, ev_const, ev_fn, WN_some, WN_none, updO_some, updO_none, upd_eq,
 ↓reduceIte, Nat.reduceEqDiff, List.nil_append, List.cons_append, List.append_nil, List.map_cons, List.map_nil, env0_zero, env0_succ, env0_nil, Option.map_some, Option.map_none, seqQ_normal, seqQ_ret, seqQ_exit, seqQ_goto, blockQ_normal, blockQ_ret, blockQ_exit, blockQ_goto, condW_bool, loopQ_ret, loopQ_exit, loopQ_goto, endQ_ret, endQ_normal, keep_mk, keep_st,
 lss_i, leq_i, gtr_i, geq_i, eql_i, neq_i, eql_8, neq_8, lss_8, leq_8, gtr_8, geq_8, eql_s, neq_s, eql_b, neq_b, not_b, by_bys, by_nils, load_cp1, beq_true, beq_false, Bool.not_eq_true', decide_eq_true_eq, decide_eq_false_iff_not, decide_true, decide_false,
 Int.toNat_natCast, Int.ofNat_lt, Int.ofNat_le, Int.natCast_inj, Bool.false_eq_true, Bool.true_eq_false, extPV, List.getElem?_cons_zero, List.getElem?_cons_succ, nilckPV, Int.reduceToNat, Int.reduceLE, true_and, and_true, reduceCtorEq, or_false, false_or, or_true, Option.some.injEq, exists_eq_left', Bool.not_true, Bool.not_false, ne_eq, Int.reduceEq, not_true_eq_false, not_false_eq_true, Int.reduceLT, UInt8.reduceLT, UInt8.reduceLE, UInt8.reduceToNat]
      exact bad (.inr c3) _ rfl rfl
    · have h5 := fin (by omega)
      have s13 : slcPV 0 (.str l) (some (.int .i64 1)) (some (.int .i64 3)) none = some (.str ((l.take 3).drop 1)) := by rw [slc_s (by omega) (by omega) (by simp; omega)]; rfl
      have s3 : slcPV 0 (.str l) (some (.int .i64 3)) none none = some (.str (l.drop 3)) := by rw [slc_s_lo (by omega) (by simp; omega)]; rfl
      have dh := d2 ((l.take 3).drop 1) (by simp; omega)
      have dm := d2 (l.drop 3) (by simp; omega)
      have bh := digD_bound (s := (l.take 3).drop 1) (a := 2) (b := 2) (by omega)
      have bm := digD_bound (s := l.drop 3) (a := 2) (b := 2) (by omega)
      have hzz : zoneN l = (digD ((l.take 3).drop 1) 2 2 * 3600 + digD (l.drop 3) 2 2 * 60, decide (digD ((l.take 3).drop 1) 2 2 < 24) && decide (digD (l.drop 3) 2 2 < 60)) := by
        unfold zoneN; rw [← ha, ← hn, if_neg (by simp [c1, c2]; omega)]; simp [c1, c2]
      rw [hzz]
      obtain ⟨h, hh⟩ : ∃ h, h = digD ((l.take 3).drop 1) 2 2 := ⟨_, rfl⟩
      obtain ⟨m, hm⟩ : ∃ m, m = digD (l.drop 3) 2 2 := ⟨_, rfl⟩
      rw [← hh] at dh bh ⊢
      rw [← hm] at dm bm ⊢
      have mh := mulc h 3600 (by omega) (by omega) (by omega) (by omega)
      have mm := mulc m 60 (by omega) (by omega) (by omega) (by omega)
      by_cases g : h < 24
      · simp (maxSteps := 1000000) (disch := omega) only [hlo, k0, k1, k2, k3, k4, k5, k6, k7, k8, k9, k10, k11, i0, eq_true c1, c2, s1, d4, c3, s13, s3, dh, dm, mh, mm, add_i, neg_i, g, W_seq, W_region, W_cond, W_block, W_skip, W_label, W_exit, W_goto, W_ret, WO_cons, WO_consG, WO_nil, wantedA_eq, wantB, evOp, ev_tmp, ev_const, ev_fn, WN_some, WN_none, updO_some, updO_none, upd_eq,
 ↓reduceIte, Nat.reduceEqDiff, List.nil_append, List.cons_append, List.append_nil, List.map_cons, List.map_nil, env0_zero, env0_succ, env0_nil, Option.map_some, Option.map_none, seqQ_normal, seqQ_ret, seqQ_exit, seqQ_goto, blockQ_normal, blockQ_ret, blockQ_exit, blockQ_goto, condW_bool, loopQ_ret, loopQ_exit, loopQ_goto, endQ_ret, endQ_normal, keep_mk, keep_st,
 lss_i, leq_i, gtr_i, geq_i, eql_i, neq_i, eql_8, neq_8, lss_8, leq_8, gtr_8, geq_8, eql_s, neq_s, eql_b, neq_b, not_b, by_bys, by_nils, load_cp1, beq_true, beq_false, Bool.not_eq_true', decide_eq_true_eq, decide_eq_false_iff_not, decide_true, decide_false,
 Int.toNat_natCast, Int.ofNat_lt, Int.ofNat_le, Int.natCast_inj, Bool.false_eq_true, Bool.true_eq_false, extPV, List.getElem?_cons_zero, List.getElem?_cons_succ, nilckPV, Int.reduceToNat, Int.reduceLE, true_and, and_true, reduceCtorEq, or_false, false_or, or_true, Option.some.injEq, exists_eq_left', Bool.not_true, Bool.not_false, ne_eq, Int.reduceEq, not_true_eq_false, not_false_eq_true, Int.reduceLT, UInt8.reduceLT, UInt8.reduceLE, UInt8.reduceToNat]
        exact retIB rfl rfl Kept.start rfl (by simp [g])
      · simp (maxSteps := 1000000) (disch := omega) only [hlo, k0, k1, k2, k3, k4, k5, k6, k7, k8, k9, k10, k11, i0, eq_true c1, c2, s1, d4, c3, s13, s3, dh, dm, mh, mm, add_i, neg_i, g, W_seq, W_region, W_cond, W_block, W_skip, W_label, W_exit, W_goto, W_ret, WO_cons, WO_consG, WO_nil, wantedA_eq, wantB, evOp, ev_tmp, ev_const, ev_fn, WN_some, WN_none, updO_some, updO_none, upd_eq,
 ↓reduceIte, Nat.reduceEqDiff, List.nil_append, List.cons_append, List.append_nil, List.map_cons, List.map_nil, env0_zero, env0_succ, env0_nil, Option.map_some, Option.map_none, seqQ_normal, seqQ_ret, seqQ_exit, seqQ_goto, blockQ_normal, blockQ_ret, blockQ_exit, blockQ_goto, condW_bool, loopQ_ret, loopQ_exit, loopQ_goto, endQ_ret, endQ_normal, keep_mk, keep_st,
 lss_i, leq_i, gtr_i, geq_i, eql_i, neq_i, eql_8, neq_8, lss_8, leq_8, gtr_8, geq_8, eql_s, neq_s, eql_b, neq_b, not_b, by_bys, by_nils, load_cp1, beq_true, beq_false, Bool.not_eq_true', decide_eq_true_eq, decide_eq_false_iff_not, decide_true, decide_false,
 Int.toNat_natCast, Int.ofNat_lt, Int.ofNat_le, Int.natCast_inj, Bool.false_eq_true, Bool.true_eq_false, extPV, List.getElem?_cons_zero, List.getElem?_cons_succ, nilckPV, Int.reduceToNat, Int.reduceLE, true_and, and_true, reduceCtorEq, or_false, false_or, or_true, Option.some.injEq, exists_eq_left', Bool.not_true, Bool.not_false, ne_eq, Int.reduceEq, not_true_eq_false, not_false_eq_true, Int.reduceLT, UInt8.reduceLT, UInt8.reduceLE, UInt8.reduceToNat]
        exact retIB rfl rfl Kept.start rfl (by simp [g])
  · by_cases c2 : a = 45
    · by_cases c3 : n < 0
      · simp (maxSteps := 1000000) (disch := omega) only [hlo, k0, k1, k2, k3, k4, k5, k6, k7, k8, k9, k10, k11, i0, c1, eq_true c2, s1, d4, c3, W_seq, W_region, W_cond, W_block, W_skip, W_label, W_exit, W_goto, W_ret, WO_cons, WO_consG, WO_nil, wantedA_eq, wantB, evOp, ev_tmp, ev_const, ev_fn, WN_some, WN_none, updO_some, updO_none, upd_eq,
 ↓reduceIte, Nat.reduceEqDiff, List.nil_append, List.cons_append, List.append_nil, List.map_cons, List.map_nil, env0_zero, env0_succ, env0_nil, Option.map_some, Option.map_none, seqQ_normal, seqQ_ret, seqQ_exit, seqQ_goto, blockQ_normal, blockQ_ret, blockQ_exit, blockQ_goto, condW_bool, loopQ_ret, loopQ_exit, loopQ_goto, endQ_ret, endQ_normal, keep_mk, keep_st,
 lss_i, leq_i, gtr_i, geq_i, eql_i, neq_i, eql_8, neq_8, lss_8, leq_8, gtr_8, geq_8, eql_s, neq_s, eql_b, neq_b, not_b, by_bys, by_nils, load_cp1, beq_true, beq_false, Bool.not_eq_true', decide_eq_true_eq, decide_eq_false_iff_not, decide_true, decide_false,
 Int.toNat_natCast, Int.ofNat_lt, Int.ofNat_le, Int.natCast_inj, Bool.false_eq_true, Bool.true_eq_false, extPV, List.getElem?_cons_zero, List.getElem?_cons_succ, nilckPV, Int.reduceToNat, Int.reduceLE, true_and, and_true, reduceCtorEq, or_false, false_or, or_true, Option.some.injEq, exists_eq_left', Bool.not_true, Bool.not_false, ne_eq, Int.reduceEq, not_true_eq_false, not_false_eq_true, Int.reduceLT, UInt8.reduceLT, UInt8.reduceLE, UInt8.reduceToNat]
        exact bad (.inr c3) _ rfl rfl
      · have h5 := fin (by omega)
        have s13 : slcPV 0 (.str l) (some (.int .i64 1)) (some (.int .i64 3)) none = some (.str ((l.take 3).drop 1)) := by rw [slc_s (by omega) (by omega) (by simp; omega)]; rfl
        have s3 : slcPV 0 (.str l) (some (.int .i64 3)) none none = some (.str (l.drop 3)) := by rw [slc_s_lo (by omega) (by simp; omega)]; rfl
        have dh := d2 ((l.take 3).drop 1) (by simp; omega)
        have dm := d2 (l.drop 3) (by simp; omega)
        have bh := digD_bound (s := (l.take 3).drop 1) (a := 2) (b := 2) (by omega)
        have bm := digD_bound (s := l.drop 3) (a := 2) (b := 2) (by omega)
        have hzz : zoneN l = (-(digD ((l.take 3).drop 1) 2 2 * 3600 + digD (l.drop 3) 2 2 * 60), decide (digD ((l.take 3).drop 1) 2 2 < 24) && decide (digD (l.drop 3) 2 2 < 60)) := by
          unfold zoneN; rw [← ha, ← hn, if_neg (by simp [c1, c2]; omega)]; simp [c1, c2]
        rw [hzz]
        obtain ⟨h, hh⟩ : ∃ h, h = digD ((l.take 3).drop 1) 2 2 := ⟨_, rfl⟩
        obtain ⟨m, hm⟩ : ∃ m, m = digD (l.drop 3) 2 2 := ⟨_, rfl⟩
        rw [← hh] at dh bh ⊢
        rw [← hm] at dm bm ⊢
        have mh := mulc h 3600 (by omega) (by omega) (by omega) (by omega)
        have mm := mulc m 60 (by omega) (by omega) (by omega) (by omega)
        by_cases g : h < 24
        · simp (maxSteps := 1000000) (disch := omega) only [hlo, k0, k1, k2, k3, k4, k5, k6, k7, k8, k9, k10, k11, i0, c1, eq_true c2, s1, d4, c3, s13, s3, dh, dm, mh, mm, add_i, neg_i, g, W_seq, W_region, W_cond, W_block, W_skip, W_label, W_exit, W_goto, W_ret, WO_cons, WO_consG, WO_nil, wantedA_eq, wantB, evOp, ev_tmp, ev_const, ev_fn, WN_some, WN_none, updO_some, updO_none, upd_eq,
 ↓reduceIte, Nat.reduceEqDiff, List.nil_append, List.cons_append, List.append_nil, List.map_cons, List.map_nil, env0_zero, env0_succ, env0_nil, Option.map_some, Option.map_none, seqQ_normal, seqQ_ret, seqQ_exit, seqQ_goto, blockQ_normal, blockQ_ret, blockQ_exit, blockQ_goto, condW_bool, loopQ_ret, loopQ_exit, loopQ_goto, endQ_ret, endQ_normal, keep_mk, keep_st,
 lss_i, leq_i, gtr_i, geq_i, eql_i, neq_i, eql_8, neq_8, lss_8, leq_8, gtr_8, geq_8, eql_s, neq_s, eql_b, neq_b, not_b, by_bys, by_nils, load_cp1, beq_true, beq_false, Bool.not_eq_true', decide_eq_true_eq, decide_eq_false_iff_not, decide_true, decide_false,
 Int.toNat_natCast, Int.ofNat_lt, Int.ofNat_le, Int.natCast_inj, Bool.false_eq_true, Bool.true_eq_false, extPV, List.getElem?_cons_zero, List.getElem?_cons_succ, nilckPV, Int.reduceToNat, Int.reduceLE, true_and, and_true, reduceCtorEq, or_false, false_or, or_true, Option.some.injEq, exists_eq_left', Bool.not_true, Bool.not_false, ne_eq, Int.reduceEq, not_true_eq_false, not_false_eq_true, Int.reduceLT, UInt8.reduceLT, UInt8.reduceLE, UInt8.reduceToNat]
          exact retIB rfl rfl Kept.start rfl (by simp [g])
        · simp (maxSteps := 1000000) (disch := omega) only [hlo, k0, k1, k2, k3, k4, k5, k6, k7, k8, k9, k10, k11, i0, c1, eq_true c2, s1, d4, c3, s13, s3, dh, dm, mh, mm, add_i, neg_i, g, W_seq, W_region, W_cond, W_block, W_skip, W_label, W_exit, W_goto, W_ret, WO_cons, WO_consG, WO_nil, wantedA_eq, wantB, evOp, ev_tmp, ev_const, ev_fn, WN_some, WN_none, updO_some, updO_none, upd_eq,
 ↓reduceIte, Nat.reduceEqDiff, List.nil_append, List.cons_append, List.append_nil, List.map_cons, List.map_nil, env0_zero, env0_succ, env0_nil, Option.map_some, Option.map_none, seqQ_normal, seqQ_ret, seqQ_exit, seqQ_goto, blockQ_normal, blockQ_ret, blockQ_exit, blockQ_goto, condW_bool, loopQ_ret, loopQ_exit, loopQ_goto, endQ_ret, endQ_normal, keep_mk, keep_st,
 lss_i, leq_i, gtr_i, geq_i, eql_i, neq_i, eql_8, neq_8, lss_8, leq_8, gtr_8, geq_8, eql_s, neq_s, eql_b, neq_b, not_b, by_bys, by_nils, load_cp1, beq_true, beq_false, Bool.not_eq_true', decide_eq_true_eq, decide_eq_false_iff_not, decide_true, decide_false,
 Int.toNat_natCast, Int.ofNat_lt, Int.ofNat_le, Int.natCast_inj, Bool.false_eq_true, Bool.true_eq_false, extPV, List.getElem?_cons_zero, List.getElem?_cons_succ, nilckPV, Int.reduceToNat, Int.reduceLE, true_and, and_true, reduceCtorEq, or_false, false_or, or_true, Option.some.injEq, exists_eq_left', Bool.not_true, Bool.not_false, ne_eq, Int.reduceEq, not_true_eq_false, not_false_eq_true, Int.reduceLT, UInt8.reduceLT, UInt8.reduceLE, UInt8.reduceToNat]
          exact retIB rfl rfl Kept.start rfl (by simp [g])
    · simp (maxSteps := 1000000) (disch := omega) only [hlo, k0, k1, k2, k3, k4, k5, k6, k7, k8, k9, k10, k11, i0, c1, c2, W_seq, W_region, W_cond, W_block, W_skip, W_label, W_exit, W_goto, W_ret, WO_cons, WO_consG, WO_nil, wantedA_eq, wantB, evOp, ev_tmp, ev_const, ev_fn, WN_some, WN_none, updO_some, updO_none, upd_eq,
 ↓reduceIte, Nat.reduceEqDiff, List.nil_append, List.cons_append, List.append_nil, List.map_cons, List.map_nil, env0_zero, env0_succ, env0_nil, Option.map_some, Option.map_none, seqQ_normal, seqQ_ret, seqQ_exit, seqQ_goto, blockQ_normal, blockQ_ret, blockQ_exit, blockQ_goto, condW_bool, loopQ_ret, loopQ_exit, loopQ_goto, endQ_ret, endQ_normal, keep_mk, keep_st,
 lss_i, leq_i, gtr_i, geq_i, eql_i, neq_i, eql_8, neq_8, lss_8, leq_8, gtr_8, geq_8, eql_s, neq_s, eql_b, neq_b, not_b, by_bys, by_nils, load_cp1, beq_true, beq_false, Bool.not_eq_true', decide_eq_true_eq, decide_eq_false_iff_not, decide_true, decide_false,
 Int.toNat_natCast, Int.ofNat_lt, Int.ofNat_le, Int.natCast_inj, Bool.false_eq_true, Bool.true_eq_false, extPV, List.getElem?_cons_zero, List.getElem?_cons_succ, nilckPV, Int.reduceToNat, Int.reduceLE, true_and, and_true, reduceCtorEq, or_false, false_or, or_true, Option.some.injEq, exists_eq_left', Bool.not_true, Bool.not_false, ne_eq, Int.reduceEq, not_true_eq_false, not_false_eq_true, Int.reduceLT, UInt8.reduceLT, UInt8.reduceLE, UInt8.reduceToNat]
      exact bad (.inl ⟨c1, c2⟩) _ rfl rfl
end Go.Ab

/-
  Dates are read: what stands between ( and ) is left out.
-/
namespace Go.Ab
set_option linter.unusedVariables false
set_option linter.unusedSimpArgs false
set_option maxRecDepth 20000
variable {st s : St} {e : Env} {b : Nat} {x : PV} {l : List UInt8}

theorem WriteString_spec2 {m : List UInt8} (h : Bu s b x l) (hl : l.length + m.length ≤ room) : ∃ x' s', call prog (.fn 58 []) [.ptr b 0, .str m] s = some (.tup [.int .i64 (m.length : Int), .nili], s') ∧ BuStep s s' b x x' (l ++ m) ∧ (x = .nils → m = [] → x' = .nils) := by
  have hlt := h.lt
  obtain ⟨s1, c1, c2⟩ := copyCheck_spec (s := { s with low := s.boxes.length }) ⟨h.bx, h.lv.move fun _ _ => rfl⟩
  have ld : loadPV s1 false 1 (.ptr b 1) = some x := by simp [c2, loadPV, hlt, readCells]
  obtain ⟨x', s2, s3, a1, a2, a3⟩ := bu_app (s := s) (s0 := s1) (b := b) (y := .str m) (m := m) h.lv hlt (by rw [c2]) (by rw [c2]) (by rw [c2]; exact Nat.le_refl _) (fun i hi => by rw [c2]) rfl hl (by rw [c2])
  obtain ⟨s', k1, k2⟩ := a3 (.tup [.int .i64 (m.length : Int), .nili]) rfl (fun _ _ => rfl)
  refine ⟨x', s', call_of_W prog_58 ?_, k2, fun hx hm => ?_⟩
  · unfold F_P_strings_Builder_WriteString; dsimp only
    have c1' : call prog (.fn 73 []) [.ptr b 0] { boxes := s.boxes, toks := s.toks, loops := s.loops, low := s.boxes.length } = some (.tup [], s1) := by
      rw [call_primS prog_73]; exact c1
    have hlen : lenPV true (.str m) = some (.int .i64 (m.length : Int)) := rfl
    simp (maxSteps := 1000000) (disch := omega) only [c1', faddrPV, Nat.zero_add, ld, a1, a2, hlen, W_seq, W_region, W_cond, W_block, W_skip, W_label, W_exit, W_goto, W_ret, WO_cons, WO_consG, WO_nil, wantedA_eq, wantB, evOp, ev_tmp, ev_const, ev_fn, WN_some, WN_none, updO_some, updO_none, upd_eq,
 ↓reduceIte, Nat.reduceEqDiff, List.nil_append, List.cons_append, List.append_nil, List.map_cons, List.map_nil, env0_zero, env0_succ, env0_nil, Option.map_some, Option.map_none, seqQ_normal, seqQ_ret, seqQ_exit, seqQ_goto, blockQ_normal, blockQ_ret, blockQ_exit, blockQ_goto, condW_bool, loopQ_ret, loopQ_exit, loopQ_goto, endQ_ret, endQ_normal, keep_mk, keep_st,
 lss_i, leq_i, gtr_i, geq_i, eql_i, neq_i, eql_8, neq_8, lss_8, leq_8, gtr_8, geq_8, eql_s, neq_s, eql_b, neq_b, not_b, by_bys, by_nils, load_cp1, beq_true, beq_false, Bool.not_eq_true', decide_eq_true_eq, decide_eq_false_iff_not, decide_true, decide_false,
 Int.toNat_natCast, Int.ofNat_lt, Int.ofNat_le, Int.natCast_inj, Bool.false_eq_true, Bool.true_eq_false, extPV, List.getElem?_cons_zero, List.getElem?_cons_succ, nilckPV, Int.reduceToNat, Int.reduceLE, true_and, and_true, reduceCtorEq, or_false, false_or, or_true, Option.some.injEq, exists_eq_left', Bool.not_true, Bool.not_false, ne_eq, Int.reduceEq, not_true_eq_false, not_false_eq_true, Int.reduceLT, UInt8.reduceLT, UInt8.reduceLE, UInt8.reduceToNat]
    exact ⟨.tup [.int .i64 (m.length : Int), .nili], rfl, k1⟩
  · subst hx hm
    simp [app8, src8] at a1
    exact a1.1.symm

def bareD : Nat → Bs → Bs
  | 0, _ => []
  | n + 1, s =>
    if Lib.index s [40] < 0 then s
    else if Lib.index (s.drop ((Lib.index s [40]).toNat + 1)) [41] < 0 then s.take (Lib.index s [40]).toNat ++ [40]
    else s.take (Lib.index s [40]).toNat ++ 32 :: bareD n ((s.drop ((Lib.index s [40]).toNat + 1)).drop ((Lib.index (s.drop ((Lib.index s [40]).toNat + 1)) [41]).toNat + 1))
def bareT (s : Bs) : Bs := bareD (s.length + 1) s

theorem bare_no {s : Bs} {n : Nat} (h : Lib.index s [40] = -1) : bareD (n + 1) s = s := by
  rw [bareD, h, if_pos (by decide)]
theorem bare_open {a t : Bs} {n : Nat} (ha : ∀ c ∈ a, c ≠ 40) (h : Lib.index t [41] = -1) : bareD (n + 1) (a ++ 40 :: t) = a ++ [40] := by
  have h1 := index_chr (k := 40) a t ha
  have e : (a ++ 40 :: t).drop (a.length + 1) = t := by simp [List.drop_append]
  rw [bareD, h1, if_neg (by omega), Int.toNat_natCast, e, h, if_pos (by decide), List.take_left]
theorem bare_shut {a p u : Bs} {n : Nat} (ha : ∀ c ∈ a, c ≠ 40) (hp : ∀ c ∈ p, c ≠ 41) : bareD (n + 1) (a ++ 40 :: (p ++ 41 :: u)) = a ++ 32 :: bareD n u := by
  have h1 := index_chr (k := 40) a (p ++ 41 :: u) ha
  have h2 := index_chr (k := 41) p u hp
  have e : (a ++ 40 :: (p ++ 41 :: u)).drop (a.length + 1) = p ++ 41 :: u := by simp [List.drop_append]
  have e2 : (p ++ 41 :: u).drop (p.length + 1) = u := by simp [List.drop_append]
  rw [bareD, h1, if_neg (by omega), Int.toNat_natCast, e, h2, if_neg (by omega), Int.toNat_natCast, e2, List.take_left]

set_option maxHeartbeats 2000000 in
theorem bare_spec {s : Bs} (hl : s.length ≤ 1000000) : call prog (.fn 284 []) [.str s] st = some (.str (bareT s), st) := by
  refine call_of_W prog_284 ?_
  unfold F_date_bare; dsimp only
  obtain ⟨T, hT⟩ : ∃ T, T = bareT s := ⟨_, rfl⟩
  rw [← hT]
  simp (maxSteps := 1000000) (disch := omega) only [allocPV, W_seq, W_region, W_cond, W_block, W_skip, W_label, W_exit, W_goto, W_ret, WO_cons, WO_consG, WO_nil, wantedA_eq, wantB, evOp, ev_tmp, ev_const, ev_fn, WN_some, WN_none, updO_some, updO_none, upd_eq,
 ↓reduceIte, Nat.reduceEqDiff, List.nil_append, List.cons_append, List.append_nil, List.map_cons, List.map_nil, env0_zero, env0_succ, env0_nil, Option.map_some, Option.map_none, seqQ_normal, seqQ_ret, seqQ_exit, seqQ_goto, blockQ_normal, blockQ_ret, blockQ_exit, blockQ_goto, condW_bool, loopQ_ret, loopQ_exit, loopQ_goto, endQ_ret, endQ_normal, keep_mk, keep_st,
 lss_i, leq_i, gtr_i, geq_i, eql_i, neq_i, eql_8, neq_8, lss_8, leq_8, gtr_8, geq_8, eql_s, neq_s, eql_b, neq_b, not_b, by_bys, by_nils, load_cp1, beq_true, beq_false, Bool.not_eq_true', decide_eq_true_eq, decide_eq_false_iff_not, decide_true, decide_false,
 Int.toNat_natCast, Int.ofNat_lt, Int.ofNat_le, Int.natCast_inj, Bool.false_eq_true, Bool.true_eq_false, extPV, List.getElem?_cons_zero, List.getElem?_cons_succ, nilckPV, Int.reduceToNat, Int.reduceLE, true_and, and_true, reduceCtorEq, or_false, false_or, or_true, Option.some.injEq, exists_eq_left', Bool.not_true, Bool.not_false, ne_eq, Int.reduceEq, not_true_eq_false, not_false_eq_true, Int.reduceLT, UInt8.reduceLT, UInt8.reduceLE, UInt8.reduceToNat]
  obtain ⟨Q0, hQ0⟩ : ∃ Q0 : Ex → Env → St → Prop, Q0 = endQ st [.tmp 2] (.str T, st) := ⟨_, rfl⟩
  rw [← hQ0]
  obtain ⟨I, hI⟩ : ∃ I : Nat → Env → St → Prop, I = fun k E S => ∃ (r acc : Bs) (x : PV) (j : Nat), k = r.length ∧ Kept st S ∧ Bu S st.boxes.length x acc ∧ (∀ t, tokOf x = some t → st.toks.length ≤ t) ∧ (acc = [] → x = .nils) ∧ acc.length + r.length ≤ s.length ∧ T = acc ++ bareD (r.length + j + 1) r ∧ E 0 = .str r ∧ E 3 = .ptr st.boxes.length 0 := ⟨_, rfl⟩
  refine W_loop I ?_ (n := s.length) (by
    rw [hI]
    exact ⟨s, [], .nils, 0, rfl, Kept.start.alloc, ⟨.inl (by simp), .inl ⟨rfl, rfl⟩⟩, fun t h => (by cases h), fun _ => rfl, by simp, hT, rfl, rfl⟩)
  intro k E S hh
  rw [hI] at hh
  obtain ⟨r, acc, x, j, rfl, hk, hb, hm, hz, hal, hTT, h0, h3⟩ := hh
  have hcut := fun (q : Bs) (c : UInt8) (hq : q.length ≤ 1000000) (S : St) => Cut_spec (st := S) (a := q) (b := [c]) (by omega) (by simp)
  have hc1 := hcut r 40 (by omega)
  rcases chr_split 40 r with ⟨q1, q2⟩ | ⟨n, t, q1, q2⟩
  · have hcc : cutAt r [40] = .tup [.str r, .str [], .bool false] := by unfold cutAt; rw [q2, if_neg (by decide)]
    rw [hcc] at hc1
    rw [bare_no q2] at hTT
    obtain ⟨y, s2, a1, a2, a3⟩ := WriteString_spec2 (m := r) hb (by simp only [room]; omega)
    obtain ⟨k1, k2⟩ := hk.step a2 (Nat.le_refl _) hm
    have hz2 : acc ++ r = [] → y = .nils := fun h => by
      obtain ⟨h1, h2⟩ := List.append_eq_nil_iff.1 h
      exact a3 (hz h1) h2
    obtain ⟨s3, b1, k3⟩ := k1.string (BString_spec (a2.bu hb.lt) hz2 (by simp only [room, List.length_append]; omega)) k2
    simp (maxSteps := 1000000) (disch := omega) only [h0, h3, hc1, a1, b1, W_seq, W_region, W_cond, W_block, W_skip, W_label, W_exit, W_goto, W_ret, WO_cons, WO_consG, WO_nil, wantedA_eq, wantB, evOp, ev_tmp, ev_const, ev_fn, WN_some, WN_none, updO_some, updO_none, upd_eq,
 ↓reduceIte, Nat.reduceEqDiff, List.nil_append, List.cons_append, List.append_nil, List.map_cons, List.map_nil, env0_zero, env0_succ, env0_nil, Option.map_some, Option.map_none, seqQ_normal, seqQ_ret, seqQ_exit, seqQ_goto, blockQ_normal, blockQ_ret, blockQ_exit, blockQ_goto, condW_bool, loopQ_ret, loopQ_exit, loopQ_goto, endQ_ret, endQ_normal, keep_mk, keep_st,
 lss_i, leq_i, gtr_i, geq_i, eql_i, neq_i, eql_8, neq_8, lss_8, leq_8, gtr_8, geq_8, eql_s, neq_s, eql_b, neq_b, not_b, by_bys, by_nils, load_cp1, beq_true, beq_false, Bool.not_eq_true', decide_eq_true_eq, decide_eq_false_iff_not, decide_true, decide_false,
 Int.toNat_natCast, Int.ofNat_lt, Int.ofNat_le, Int.natCast_inj, Bool.false_eq_true, Bool.true_eq_false, extPV, List.getElem?_cons_zero, List.getElem?_cons_succ, nilckPV, Int.reduceToNat, Int.reduceLE, true_and, and_true, reduceCtorEq, or_false, false_or, or_true, Option.some.injEq, exists_eq_left', Bool.not_true, Bool.not_false, ne_eq, Int.reduceEq, not_true_eq_false, not_false_eq_true, Int.reduceLT, UInt8.reduceLT, UInt8.reduceLE, UInt8.reduceToNat]
    rw [hQ0, endQ_ret, hTT]
    exact retS rfl k3 rfl
  · have hix := index_chr (k := 40) n t q2
    have hcc : cutAt r [40] = .tup [.str n, .str t, .bool true] := by
      unfold cutAt
      rw [q1, hix, if_pos (by omega), Int.toNat_natCast]
      simp [List.drop_append]
    rw [hcc] at hc1
    have hrl : n.length + 1 + t.length = r.length := by rw [q1]; simp; omega
    obtain ⟨y, s2, a1, a2, a3⟩ := WriteString_spec2 (m := n) hb (by simp only [room]; omega)
    obtain ⟨k1, k2⟩ := hk.step a2 (Nat.le_refl _) hm
    have hz2 : acc ++ n = [] → y = .nils := fun h => by
      obtain ⟨h1, h2⟩ := List.append_eq_nil_iff.1 h
      exact a3 (hz h1) h2
    have hc2 := hcut t 41 (by omega)
    rcases chr_split 41 t with ⟨p1, p2⟩ | ⟨p, u, p1, p2⟩
    · have hcc2 : cutAt t [41] = .tup [.str t, .str [], .bool false] := by unfold cutAt; rw [p2, if_neg (by decide)]
      rw [hcc2] at hc2
      rw [q1, bare_open q2 p2] at hTT
      obtain ⟨s3, b1, k3⟩ := k1.string (BString_spec (a2.bu hb.lt) hz2 (by simp only [room, List.length_append]; omega)) k2
      have had : binPV .add .no (.str (acc ++ n)) (.str [40]) = some (.str (acc ++ n ++ [40])) := adds (by simp; omega)
      simp (maxSteps := 1000000) (disch := omega) only [h0, h3, hc1, a1, hc2, b1, had, W_seq, W_region, W_cond, W_block, W_skip, W_label, W_exit, W_goto, W_ret, WO_cons, WO_consG, WO_nil, wantedA_eq, wantB, evOp, ev_tmp, ev_const, ev_fn, WN_some, WN_none, updO_some, updO_none, upd_eq,
 ↓reduceIte, Nat.reduceEqDiff, List.nil_append, List.cons_append, List.append_nil, List.map_cons, List.map_nil, env0_zero, env0_succ, env0_nil, Option.map_some, Option.map_none, seqQ_normal, seqQ_ret, seqQ_exit, seqQ_goto, blockQ_normal, blockQ_ret, blockQ_exit, blockQ_goto, condW_bool, loopQ_ret, loopQ_exit, loopQ_goto, endQ_ret, endQ_normal, keep_mk, keep_st,
 lss_i, leq_i, gtr_i, geq_i, eql_i, neq_i, eql_8, neq_8, lss_8, leq_8, gtr_8, geq_8, eql_s, neq_s, eql_b, neq_b, not_b, by_bys, by_nils, load_cp1, beq_true, beq_false, Bool.not_eq_true', decide_eq_true_eq, decide_eq_false_iff_not, decide_true, decide_false,
 Int.toNat_natCast, Int.ofNat_lt, Int.ofNat_le, Int.natCast_inj, Bool.false_eq_true, Bool.true_eq_false, extPV, List.getElem?_cons_zero, List.getElem?_cons_succ, nilckPV, Int.reduceToNat, Int.reduceLE, true_and, and_true, reduceCtorEq, or_false, false_or, or_true, Option.some.injEq, exists_eq_left', Bool.not_true, Bool.not_false, ne_eq, Int.reduceEq, not_true_eq_false, not_false_eq_true, Int.reduceLT, UInt8.reduceLT, UInt8.reduceLE, UInt8.reduceToNat]
      rw [hQ0, endQ_ret, hTT]
      exact retS rfl k3 (by simp)
    · have hix2 := index_chr (k := 41) p u p2
      have hcc2 : cutAt t [41] = .tup [.str p, .str u, .bool true] := by
        unfold cutAt
        rw [p1, hix2, if_pos (by omega), Int.toNat_natCast]
        simp [List.drop_append]
      rw [hcc2] at hc2
      have htl : p.length + 1 + u.length = t.length := by rw [p1]; simp; omega
      rw [q1, p1, bare_shut q2 p2] at hTT
      obtain ⟨z, s3, b1, b2⟩ := WriteByte_spec (c := 32) (a2.bu hb.lt) (by simp only [room, List.length_append]; omega)
      obtain ⟨k3, k4⟩ := k1.step b2 (Nat.le_refl _) k2
      have hlt2 : st.boxes.length < s2.boxes.length := by rw [a2.bx]; simpa using hb.lt
      simp (maxSteps := 1000000) (disch := omega) only [h0, h3, hc1, a1, hc2, b1, loopQ_normal, W_seq, W_region, W_cond, W_block, W_skip, W_label, W_exit, W_goto, W_ret, WO_cons, WO_consG, WO_nil, wantedA_eq, wantB, evOp, ev_tmp, ev_const, ev_fn, WN_some, WN_none, updO_some, updO_none, upd_eq,
 ↓reduceIte, Nat.reduceEqDiff, List.nil_append, List.cons_append, List.append_nil, List.map_cons, List.map_nil, env0_zero, env0_succ, env0_nil, Option.map_some, Option.map_none, seqQ_normal, seqQ_ret, seqQ_exit, seqQ_goto, blockQ_normal, blockQ_ret, blockQ_exit, blockQ_goto, condW_bool, loopQ_ret, loopQ_exit, loopQ_goto, endQ_ret, endQ_normal, keep_mk, keep_st,
 lss_i, leq_i, gtr_i, geq_i, eql_i, neq_i, eql_8, neq_8, lss_8, leq_8, gtr_8, geq_8, eql_s, neq_s, eql_b, neq_b, not_b, by_bys, by_nils, load_cp1, beq_true, beq_false, Bool.not_eq_true', decide_eq_true_eq, decide_eq_false_iff_not, decide_true, decide_false,
 Int.toNat_natCast, Int.ofNat_lt, Int.ofNat_le, Int.natCast_inj, Bool.false_eq_true, Bool.true_eq_false, extPV, List.getElem?_cons_zero, List.getElem?_cons_succ, nilckPV, Int.reduceToNat, Int.reduceLE, true_and, and_true, reduceCtorEq, or_false, false_or, or_true, Option.some.injEq, exists_eq_left', Bool.not_true, Bool.not_false, ne_eq, Int.reduceEq, not_true_eq_false, not_false_eq_true, Int.reduceLT, UInt8.reduceLT, UInt8.reduceLE, UInt8.reduceToNat]
      refine ⟨u.length, by omega, ?_⟩
      rw [hI]
      refine ⟨u, acc ++ n ++ [32], z, r.length + j - u.length - 1, rfl, k3, b2.bu hlt2, k4, fun h => by simp at h, by simp; omega, ?_, rfl, h3⟩
      rw [hTT]
      have : (n ++ 40 :: (p ++ 41 :: u)).length + j = u.length + (r.length + j - u.length - 1) + 1 := by simp; omega
      rw [this]; simp
end Go.Ab

/-
  Dates are read: words, plain.
-/
namespace Go.Ab
set_option linter.unusedVariables false
set_option linter.unusedSimpArgs false
set_option maxRecDepth 20000

/-- A text's words. -/
def wordsG : Bs → Bs → List Bs
  | [], acc => if acc = [] then [] else [acc]
  | c :: r, acc => if c = 32 ∨ c = 9 then (if acc = [] then wordsG r [] else acc :: wordsG r []) else wordsG r (acc ++ [c])
def noBl (w : Bs) : Prop := ∀ c ∈ w, c ≠ 32 ∧ c ≠ 9

theorem words_pass {r : Bs} : ∀ (w acc : Bs), noBl w → wordsG (w ++ r) acc = wordsG r (acc ++ w)
  | [], acc, _ => by simp
  | c :: w, acc, h => by
    have hc := h c (by simp)
    rw [List.cons_append, wordsG, if_neg (by simp [hc.1, hc.2]), words_pass w _ fun x hx => h x (by simp [hx])]
    simp
theorem words_bl {r acc : Bs} {c : UInt8} (hc : c = 32 ∨ c = 9) (ha : acc ≠ []) : wordsG (c :: r) acc = acc :: wordsG r [] := by
  rw [wordsG, if_pos hc, if_neg ha]
theorem words_bl0 {r : Bs} {c : UInt8} (hc : c = 32 ∨ c = 9) : wordsG (c :: r) [] = wordsG r [] := by
  rw [wordsG, if_pos hc, if_pos rfl]
theorem words_end {acc : Bs} (ha : acc ≠ []) : wordsG [] acc = [acc] := by rw [wordsG, if_neg ha]
theorem words_one {w r : Bs} (h : noBl w) (hw : w ≠ []) : wordsG (w ++ 32 :: r) [] = w :: wordsG r [] := by
  rw [words_pass w [] h, List.nil_append, words_bl (.inl rfl) hw]
theorem words_last {w : Bs} (h : noBl w) (hw : w ≠ []) : wordsG w [] = [w] := by
  have := words_pass (r := []) w [] h
  rw [List.append_nil] at this
  rw [this, List.nil_append, words_end hw]
end Go.Ab
