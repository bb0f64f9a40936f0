/-
  strings.Builder: what is written, and its text.
-/
import Derived.Test.YtihjnlnmgbabjaaGreatDoorA3
import Derived.KernelRfl
set_option linter.unusedVariables false
set_option linter.unusedSimpArgs false
namespace Go.Ab
variable {P : St → Prop} {st : St} {e : Env} {s s' : St} {b : Nat} {x : PV} {l : List UInt8}

structure Bu (s : St) (b : Nat) (x : PV) (l : List UInt8) : Prop where
  bx : s.boxes[b]? = some [.bslot, x] ∨ s.boxes[b]? = some [.ptr b 0, x]
  lv : Live s x l

structure BuStep (s s' : St) (b : Nat) (x x' : PV) (l' : List UInt8) : Prop where
  bx : s'.boxes = s.boxes.set b [.ptr b 0, x']
  lv : Live s' x' l'
  lp : s'.loops = s.loops
  tl : s.toks.length ≤ s'.toks.length
  tk : ∀ i, i < s.toks.length → tokOf x ≠ some i → s'.toks[i]? = s.toks[i]?
  tn : ∀ i, tokOf x' = some i → tokOf x = some i ∨ s.toks.length ≤ i
  lw : min s.low b ≤ s'.low

theorem Bu.lt (h : Bu s b x l) : b < s.boxes.length := by
  rcases h.bx with h | h <;> exact (List.getElem?_eq_some_iff.1 h).1
theorem BuStep.bu {x' : PV} {l' : List UInt8} (h : BuStep s s' b x x' l') (hb : b < s.boxes.length) : Bu s' b x' l' :=
  ⟨.inr (by rw [h.bx, List.getElem?_set_self hb]), h.lv⟩

theorem copyCheck_spec (h : Bu s b x l) : ∃ s1, primS pCopyCheck [.ptr b 0] s = some (.tup [], s1) ∧ s1 = { s with boxes := s.boxes.set b [.ptr b 0, x] } := by
  rcases h.bx with h1 | h1
  · refine ⟨_, ?_, rfl⟩
    simp [primS, pCopyCheck, h1, updS, storePV, PV.cells, PV.inB, leafOk, hasTok, tokOf, setCells]
  · refine ⟨_, ?_, rfl⟩
    have : s.boxes.set b [.ptr b 0, x] = s.boxes := by
      obtain ⟨q, r⟩ := List.getElem?_eq_some_iff.1 h1
      rw [← r]; simp
    rw [this]
    simp [primS, pCopyCheck, h1, updS]

theorem bu_app {y : PV} {m : List UInt8} {s0 : St} (h : Live s x l) (hb : b < s.boxes.length) (hbx : s0.boxes = s.boxes.set b [.ptr b 0, x]) (hlp : s0.loops = s.loops) (htl : s.toks.length ≤ s0.toks.length) (htk : ∀ i, i < s.toks.length → s0.toks[i]? = s.toks[i]?)
    (hy : src8 s0 y = some m) (hl : l.length + m.length ≤ room) (hlow : s0.low = s.boxes.length) :
    ∃ x' s1 s2, app8 s0 x y = some (x', s1) ∧ storePV s1 1 (.ptr b 1) x' = some s2 ∧ ∀ v : PV, v.inB s.boxes.length = true → (∀ n toks, keepRes n toks v = (v, [])) → ∃ s', leave s s2 v = (v, s') ∧ BuStep s s' b x x' (l ++ m) := by
  obtain ⟨x', s1, a1, a2, a3, a4, a5, a6, a7, a8, a9⟩ := app8_live (h.move (s' := s0) fun i hi => htk i (h.lt hi).1) hy hl
  have hg : s1.boxes[b]? = some [.ptr b 0, x] := by rw [a2, hbx, List.getElem?_set_self hb]
  have hcell : x'.cells = [x'] ∧ leafOk x' = true ∧ x'.inB (b + 1) = true := by
    rcases a5 with ⟨rfl, _⟩ | ⟨i, rfl, _⟩ <;> exact ⟨rfl, rfl, rfl⟩
  have hst : storePV s1 1 (.ptr b 1) x' = some { s1 with boxes := s1.boxes.set b [.ptr b 0, x'], low := if hasTok [x'] then min s1.low b else s1.low } := by
    simp [storePV, hg, hcell.1, hcell.2.1, hcell.2.2, setCells]
  refine ⟨x', s1, _, a1, hst, fun v hv hk => ?_⟩
  have htake : (s1.boxes.set b [.ptr b 0, x']).take s.boxes.length = s.boxes.set b [.ptr b 0, x'] := by
    rw [a2, hbx, List.set_set]; apply List.take_of_length_le; simp
  have hkeep : ∀ i, i < s.toks.length → tokOf x ≠ some i → s1.toks[i]? = s.toks[i]? := fun i hi hne => by
    rw [a7 i (by omega) hne, htk i hi]
  cases ht : hasTok [x'] with
  | true =>
    have hlt : ¬ s.boxes.length ≤ min s1.low b := by omega
    refine ⟨{ boxes := s.boxes.set b [.ptr b 0, x'], toks := s1.toks, loops := s1.loops, low := min s.low (min s1.low b) }, ?_, ⟨rfl, a5, a3.trans hlp, by show s.toks.length ≤ s1.toks.length; omega, hkeep, fun i hi => ?_, ?_⟩⟩
    · simp [leave, hv, hlt, htake]
    · rcases a8 i hi with ⟨h1, _⟩ | h1
      · exact .inl h1
      · exact .inr (by omega)
    · show min s.low b ≤ min s.low (min s1.low b)
      rw [a4, hlow]; omega
  | false =>
    -- nothing that lives was stored
    have hx' : x' = .nils := by
      rcases a5 with ⟨rfl, _⟩ | ⟨i, rfl, _⟩
      · rfl
      · simp [hasTok, tokOf] at ht
    have hle : s.boxes.length ≤ s1.low := by rw [a4, hlow]; exact Nat.le_refl _
    refine ⟨{ boxes := s.boxes.set b [.ptr b 0, x'], toks := s1.toks.take s.toks.length, loops := s1.loops, low := s.low }, ?_, ⟨rfl, ?_, a3.trans hlp, ?_, fun i hi hne => ?_, fun i hi => (by rw [hx'] at hi; cases hi), ?_⟩⟩
    · simp [leave, hv, hle, htake, hk]
    · rcases a5 with ⟨h1, h2⟩ | ⟨i, h1, _⟩
      · exact .inl ⟨h1, h2⟩
      · rw [hx'] at h1; cases h1
    · simp; omega
    · show (s1.toks.take s.toks.length)[i]? = _
      rw [List.getElem?_take, if_pos hi]; exact hkeep i hi hne
    · show min s.low b ≤ s.low
      omega

theorem WriteByte_spec {c : UInt8} (h : Bu s b x l) (hl : l.length + 1 ≤ room) : ∃ x' s', call prog (.fn 57 []) [.ptr b 0, .b8 c] s = some (.nili, s') ∧ BuStep s s' b x x' (l ++ [c]) := by
  have hlt := h.lt
  obtain ⟨s1, c1, c2⟩ := copyCheck_spec (s := { s with low := s.boxes.length }) ⟨h.bx, h.lv.move fun _ _ => rfl⟩
  have hlit : lit8Fill (List.replicate 1 0) [(0, .b8 c)] = some [c] := rfl
  have ld : loadPV s1 false 1 (.ptr b 1) = some x := by simp [c2, loadPV, hlt, readCells]
  obtain ⟨x', s2, s3, a1, a2, a3⟩ := bu_app (s := s) (s0 := s1.tok1) (b := b) (y := .bys (.own s1.toks.length) [c]) (m := [c]) h.lv hlt (by rw [c2]; rfl) (by rw [c2]; rfl) (by rw [c2]; simp [St.tok1]) (fun i hi => by
    rw [c2]; show (s.toks ++ [true])[i]? = _
    rw [List.getElem?_append_left hi]) rfl (by simpa using hl) (by rw [c2]; rfl)
  obtain ⟨s', k1, k2⟩ := a3 .nili rfl (fun _ _ => rfl)
  refine ⟨x', s', call_of_W prog_57 ?_, k2⟩
  unfold F_P_strings_Builder_WriteByte; dsimp only
  have c1' : call prog (.fn 73 []) [.ptr b 0] { boxes := s.boxes, toks := s.toks, loops := s.loops, low := s.boxes.length } = some (.tup [], s1) := by
    rw [call_primS prog_73]; exact c1
  simp (maxSteps := 1000000) (disch := omega) only [c1', faddrPV, Nat.zero_add, ld, hlit, freshT_eq, a1, a2, qaaz, qabz, qaiz, qajz, qalz, evOp, qaoz, qapz, qaqz, qarz, qatz, qauz, qavz,
 ↓reduceIte, Nat.reduceEqDiff, List.append_nil, List.map_cons, List.map_nil, qawz, qaxz, Option.map_some, qazz, qblz, qckz, reduceCtorEq]
  exact ⟨.nili, rfl, k1⟩

theorem BString_spec (h : Bu s b x l) (hn : l = [] → x = .nils) (hr : l.length ≤ room) : ∃ s', call prog (.fn 59 []) [.ptr b 0] s = some (.str l, s') ∧ s'.boxes = s.boxes ∧ s'.loops = s.loops ∧ s'.low = s.low ∧ s'.toks.length = s.toks.length ∧ ∀ i, tokOf x ≠ some i → s'.toks[i]? = s.toks[i]? := by
  rw [call_primS prog_59]
  rcases h.lv with ⟨rfl, rfl⟩ | ⟨i, rfl, hi⟩
  · refine ⟨s, ?_, rfl, rfl, rfl, rfl, fun _ _ => rfl⟩
    rcases h.bx with h1 | h1 <;> simp [primS, pBuilderString, h1, updS]
  · have hl : l ≠ [] := fun h => by have := hn h; cases this
    refine ⟨{ s with toks := s.toks.set i false }, ?_, rfl, rfl, rfl, by simp, fun j hj => ?_⟩
    · rcases h.bx with h1 | h1 <;> simp [primS, pBuilderString, h1, hl, updS, hi, show ¬ room < l.length by omega]
    · rw [List.getElem?_set_ne (fun h => hj (by rw [h]; rfl))]

structure Kept (st s : St) : Prop where
  bx : s.boxes.take st.boxes.length = st.boxes
  lp : s.loops = st.loops
  lw : st.boxes.length ≤ s.low
  tk : s.toks.take st.toks.length = st.toks

theorem Kept.start : Kept st { boxes := st.boxes, toks := st.toks, loops := st.loops, low := st.boxes.length } := ⟨by simp, rfl, Nat.le_refl _, by simp⟩
theorem Kept.bl (h : Kept st s) : st.boxes.length ≤ s.boxes.length := by
  have := congrArg List.length h.bx
  simp at this; omega
theorem Kept.tl (h : Kept st s) : st.toks.length ≤ s.toks.length := by
  have := congrArg List.length h.tk
  simp at this; omega
theorem Kept.get (h : Kept st s) {i : Nat} (hi : i < st.toks.length) : s.toks[i]? = st.toks[i]? := by
  have := congrArg (fun z => z[i]?) h.tk
  simpa [List.getElem?_take, hi] using this
theorem Kept.of {s' : St} (h : Kept st s) (hb : s'.boxes.take st.boxes.length = s.boxes.take st.boxes.length) (hl : s'.loops = s.loops) (hw : st.boxes.length ≤ s'.low) (ht : ∀ i, i < st.toks.length → s'.toks[i]? = s.toks[i]?) (hn : st.toks.length ≤ s'.toks.length) : Kept st s' :=
  ⟨hb.trans h.bx, hl.trans h.lp, hw, by
    apply List.ext_getElem?
    intro i
    rw [List.getElem?_take]
    split
    · rename_i hi
      rw [ht i hi, h.get hi]
    · rename_i hi
      rw [List.getElem?_eq_none (by omega)]⟩
theorem Kept.tok1 (h : Kept st s) : Kept st s.tok1 := h.of rfl rfl h.lw (fun i hi => by
  show (s.toks ++ [true])[i]? = _
  rw [List.getElem?_append_left (by have := h.tl; omega)]) (by have := h.tl; simp [St.tok1]; omega)
theorem Kept.leave (h : Kept st s) {v : PV} (h1 : v.inB st.boxes.length = true) (h2 : ∀ n toks, keepRes n toks v = (v, [])) : leave st s v = (v, st) := by
  have e1 := h.bx; have e2 := h.lp; have e3 := h.tk
  simp [Ab.leave, h1, h.lw, h2, e1, e2, e3]
theorem Kept.alloc {z : List PV} (h : Kept st s) : Kept st { s with boxes := s.boxes ++ [z] } := h.of (by
  have := h.bl
  rw [List.take_append_of_le_length this]) rfl h.lw (fun _ _ => rfl) h.tl
theorem Kept.step {x' : PV} {l' : List UInt8} (h : Kept st s) (hs : BuStep s s' b x x' l') (hb : st.boxes.length ≤ b) (hm : ∀ i, tokOf x = some i → st.toks.length ≤ i) : Kept st s' ∧ ∀ i, tokOf x' = some i → st.toks.length ≤ i := by
  have htl := h.tl
  refine ⟨h.of ?_ hs.lp (by have := hs.lw; have := h.lw; omega) (fun i hi => hs.tk i (by omega) fun hh => by have := hm i hh; omega) (by have := hs.tl; omega), fun i hi => ?_⟩
  · rw [hs.bx, List.take_set_of_le hb]
  · rcases hs.tn i hi with h1 | h1
    · exact hm i h1
    · omega

theorem Kept.string (h : Kept st s) (hs : ∃ s', P s' ∧ s'.boxes = s.boxes ∧ s'.loops = s.loops ∧ s'.low = s.low ∧ s'.toks.length = s.toks.length ∧ ∀ i, tokOf x ≠ some i → s'.toks[i]? = s.toks[i]?) (hm : ∀ i, tokOf x = some i → st.toks.length ≤ i) : ∃ s', P s' ∧ Kept st s' := by
  obtain ⟨s', h0, h1, h2, h3, h4, h5⟩ := hs
  exact ⟨s', h0, h.of (by rw [h1]) h2 (by rw [h3]; exact h.lw) (fun i hi => h5 i fun hh => by have := hm i hh; omega) (by rw [h4]; exact h.tl)⟩

def Mine (st s : St) (v : PV) (l : List UInt8) : Prop := Live s v l ∧ ∀ t, tokOf v = some t → st.toks.length ≤ t
theorem Mine.nil : Mine st s .nils [] := ⟨.inl ⟨rfl, rfl⟩, fun t h => (by cases h)⟩
theorem Mine.by {v : PV} (h : Mine st s v l) : v.by = some l := h.1.by
theorem Mine.tok1 {v : PV} (h : Mine st s v l) : Mine st s.tok1 v l := ⟨h.1.tok1, h.2⟩
theorem Kept.app8 {v y : PV} {m : List UInt8} (hk : Kept st s) (h : Mine st s v l) (hy : src8 s y = some m) (hl : l.length + m.length ≤ room) :
    ∃ v' s', Ab.app8 s v y = some (v', s') ∧ Kept st s' ∧ Mine st s' v' (l ++ m) := by
  obtain ⟨v', s', a1, a2, a3, a4, a5, a6, a7, a8, a9⟩ := app8_live h.1 hy hl
  have htl := hk.tl
  refine ⟨v', s', a1, hk.of (by rw [a2]) a3 (by rw [a4]; exact hk.lw) (fun i hi => a7 i (by omega) fun hh => by have := h.2 i hh; omega) (by omega), a5, fun t ht => ?_⟩
  rcases a8 t ht with ⟨h1, _⟩ | h1
  · exact h.2 t h1
  · omega
theorem Kept.push {v : PV} {c : UInt8} (hk : Kept st s) (h : Mine st s v l) (hl : l.length + 1 ≤ room) :
    ∃ v' s', Ab.app8 s.tok1 v (.bys (.own s.toks.length) [c]) = some (v', s') ∧ Kept st s' ∧ Mine st s' v' (l ++ [c]) :=
  hk.tok1.app8 h.tok1 rfl (by simpa using hl)
theorem lit8_2 {c d : UInt8} : lit8Fill (List.replicate 2 0) [(0, .b8 c), (1, .b8 d)] = some [c, d] := rfl
def Flat (v : PV) : Prop := (∀ n, v.inB n = true) ∧ (∀ n toks, keepRes n toks v = (v, []))
theorem Kept.leave' (h : Kept st s) {v : PV} (hv : Flat v) : Ab.leave st s v = (v, st) := h.leave (hv.1 _) hv.2
end Go.Ab
/-
  Operations on texts; the library's and the document's searches in them.
-/
namespace Go.Ab
variable {A : AP} {st : St} {e : Env}

theorem len_s {l : List UInt8} : lenPV true (.str l) = some (.int .i64 (l.length : Int)) := rfl
theorem idx_s {l : List UInt8} {k : IntKind} {c : Int} (h1 : 0 ≤ c) (h2 : c.toNat < l.length) : idxSPV (.str l) (.int k c) = some (.b8 (l.getD c.toNat 0)) := by
  simp [idxSPV, intOf, h1, show c < l.length by omega]
theorem slc_s_lo {l : List UInt8} {k : IntKind} {c : Int} (h1 : 0 ≤ c) (h2 : c.toNat ≤ l.length) : slcPV 0 (.str l) (some (.int k c)) none none = some (.str (l.drop c.toNat)) := by
  simp [slcPV, bnd, intOf, h1, show c ≤ l.length by omega]
theorem slc_s_hi {l : List UInt8} {k : IntKind} {c : Int} (h1 : 0 ≤ c) (h2 : c.toNat ≤ l.length) : slcPV 0 (.str l) none (some (.int k c)) none = some (.str (l.take c.toNat)) := by
  simp [slcPV, bnd, intOf, h1, show c ≤ l.length by omega]
theorem slc_s {l : List UInt8} {k k' : IntKind} {c d : Int} (h1 : 0 ≤ c) (h2 : c ≤ d) (h3 : d.toNat ≤ l.length) : slcPV 0 (.str l) (some (.int k c)) (some (.int k' d)) none = some (.str ((l.take d.toNat).drop c.toNat)) := by
  simp [slcPV, bnd, intOf, h1, show d ≤ l.length by omega, show 0 ≤ d by omega, show c ≤ max d 0 by omega]
theorem adds {ek : EK} {a b : List UInt8} (h : a.length + b.length ≤ 9223372036854775807) : binPV .add ek (.str a) (.str b) = some (.str (a ++ b)) := by
  simp [binPV, binS, h]

theorem drop_getD {l : List UInt8} {i : Nat} (h : i < l.length) : l.drop i = l.getD i 0 :: l.drop (i + 1) := by
  rw [List.drop_eq_getElem_cons h]; congr 1; simp [List.getD, h]
theorem take_getD {l : List UInt8} {i : Nat} (h : i < l.length) : l.take (i + 1) = l.take i ++ [l.getD i 0] := by
  rw [List.take_succ_eq_append_getElem h]; simp [List.getD, h]

theorem index_one {l : List UInt8} {c : UInt8} : 0 ≤ Lib.index l [c] ↔ c ∈ l := by
  induction l with
  | nil => simp [Lib.index]
  | cons d r ih =>
    simp only [Lib.index]
    by_cases h : c = d
    · subst h; simp
    · have h' : ([c] : List UInt8).isPrefixOf (d :: r) = false := by simp [List.isPrefixOf, h]
      have hge := Lib.index_ge r [c]
      rw [h']
      simp only [Bool.false_eq_true, if_false, List.mem_cons, h, false_or]
      rw [← ih]
      split
      · rename_i h2; simp at h2; omega
      · rename_i h2; simp at h2; omega

theorem strIndex_spec {a b : List UInt8} (h : a.length < 4294967281) : call prog (.fn 82 []) [.str a, .str b] st = some (.int .i64 (Lib.index a b), st) := by
  rw [call_prim prog_82]; simp [pStrIndex, h]
theorem strIndexByte_spec {a : List UInt8} {c : UInt8} : call prog (.fn 78 []) [.str a, .b8 c] st = some (.int .i64 (Lib.indexByte a c), st) := by
  rw [call_prim prog_78]; simp [pStrIndexByte]

theorem slHasPrefix_spec {a b : List UInt8} : call prog (.fn 79 []) [.str a, .str b] st = some (.bool (decide (b <+: a)), st) := by
  refine call_of_W prog_79 ?_
  unfold F_internal_stringslite_HasPrefix; dsimp only
  by_cases h : b.length ≤ a.length
  · simp (maxSteps := 1000000) (disch := omega) only [len_s, h, slc_s_hi, qaaz, qabz, qaiz, qajz, qakz, qalz, qamz, qanz, evOp, qaoz, qapz, qarz, qatz, qavz,
 ↓reduceIte, Nat.reduceEqDiff, List.append_nil, qawz, qaxz, Option.map_some, Option.map_none, qazz, qblz, qbsz, qcbz, beq_true, decide_true, Int.toNat_natCast, Int.ofNat_le, reduceCtorEq]
    rw [show decide (b <+: a) = decide (a.take b.length = b) by congr 1; rw [List.prefix_iff_eq_take]; exact propext eq_comm]
    exact end1 rfl Kp_bool
  · simp (maxSteps := 1000000) (disch := omega) only [len_s, h, qaaz, qabz, qaiz, qajz, qakz, qalz, qamz, qanz, evOp, qaoz, qapz, qarz, qatz, qavz,
 ↓reduceIte, Nat.reduceEqDiff, List.append_nil, qawz, qaxz, Option.map_some, qazz, qblz, qbsz, beq_true, decide_false,
 Int.ofNat_le, Bool.false_eq_true, reduceCtorEq]
    rw [show decide (b <+: a) = false by simp; intro hp; exact h hp.length_le]
    exact end1 rfl Kp_bool
theorem sHasPrefix_spec {a b : List UInt8} : call prog (.fn 72 []) [.str a, .str b] st = some (.bool (decide (b <+: a)), st) := by
  refine call_of_W prog_72 ?_
  unfold F_strings_HasPrefix; dsimp only
  simp (maxSteps := 1000000) (disch := omega) only [slHasPrefix_spec, qaaz, qabz, qaiz, qajz, qalz, evOp, qaoz, qapz, qaqz, qarz, qatz, qavz,
 ↓reduceIte, Nat.reduceEqDiff, List.append_nil, List.map_cons, List.map_nil, qawz, qaxz, qazz, qblz, reduceCtorEq]
  exact end1 rfl Kp_bool

end Go.Ab
/-
  Names in small letters; fields of a name; how big a header is.
-/
namespace Go.Ab
variable {st : St} {e : Env}

def bst (st : St) (l : List UInt8) : St := ⟨st.boxes ++ [l.map .b8], st.toks, st.loops, st.boxes.length⟩
theorem bst_eq {l : List UInt8} : (⟨st.boxes ++ [l.map .b8], st.toks, st.loops, st.boxes.length⟩ : St) = bst st l := rfl
theorem iaddr_ms {b n : Nat} {k : IntKind} {c : Int} (h1 : 0 ≤ c) (h2 : c.toNat < n) : iaddrPV 1 (.ms b 0 n) (.int k c) = some (.ptr b c.toNat) := by
  simp [iaddrPV, intOf, h1, show c < n by omega]
theorem len_ms {b n : Nat} : lenPV false (.ms b 0 n) = some (.int .i64 (n : Int)) := rfl
theorem load_bst {l : List UInt8} {i : Nat} (h : i < l.length) : loadPV (bst st l) false 1 (.ptr st.boxes.length i) = some (.b8 (l.getD i 0)) := by
  simp only [loadPV, bst, get_app0]
  rw [← List.map_drop, drop_getD h]; rfl
theorem store_bst {l : List UInt8} {i : Nat} {c : UInt8} (h : i < l.length) : storePV (bst st l) 1 (.ptr st.boxes.length i) (.b8 c) = some (bst st (l.set i c)) := by
  simp only [storePV, bst, get_app0, PV.cells]
  have h2 : i + 1 ≤ l.length := by omega
  simp [h2, PV.inB, leafOk, setCells, hasTok, tokOf, List.map_set]
theorem bytesOf_map : ∀ l : List UInt8, bytesOf (l.map .b8) = some l := by
  intro l
  induction l with
  | nil => rfl
  | cons c r ih => simp [bytesOf, ih]
theorem b2s_bst {l : List UInt8} {n : Nat} (h : n = l.length) : b2s true (bst st l) (.ms st.boxes.length 0 n) = some l := by
  subst h
  simp only [b2s, if_true, src8, bst, get_app0]
  rw [if_pos (by simp), List.drop_zero, List.take_of_length_le (by simp), bytesOf_map]
theorem leave_bst {l : List UInt8} {v : PV} (h1 : v.inB st.boxes.length = true) (h2 : ∀ n toks, keepRes n toks v = (v, [])) : leave st (bst st l) v = (v, st) := by
  simp [leave, bst, h1, h2]

theorem add_8 {ek : EK} {a b : UInt8} : binPV .add ek (.b8 a) (.b8 b) = some (.b8 (a + b)) := rfl
def lowC (c : UInt8) : UInt8 := if 65 ≤ c ∧ c ≤ 90 then c + 32 else c
def lowOf (s : List UInt8) : List UInt8 := s.map lowC

theorem lower_spec {s : List UInt8} (h : s.length ≤ 1000000) : call prog (.fn 167 []) [.str s] st = some (.str (lowOf s), st) := by
  refine call_of_W prog_167 ?_
  unfold F_fields_lower; dsimp only
  simp (maxSteps := 1000000) (disch := omega) only [bst_eq, len_ms, qaaz, qabz, qadz, qajz, qalz, evOp, qaoz, qapz, qarz, qatz, qavz,
 ↓reduceIte, List.append_nil, qawz, Option.map_some, qazz, reduceCtorEq]
  obtain ⟨I, hI⟩ : ∃ I : Nat → Env → St → Prop, I = fun n e s' => ∃ (i : Nat) (l : List UInt8), n = s.length - i ∧ i ≤ s.length ∧ l = lowOf (s.take i) ++ s.drop i ∧ s' = bst st l ∧ e 3 = .ms st.boxes.length 0 s.length ∧ e 8 = .ms st.boxes.length 0 s.length ∧ e 9 = .int .i64 (s.length : Int) ∧ e 10 = .int .i64 (i : Int) := ⟨_, rfl⟩
  refine W_loop I ?_ (n := s.length) (by
    rw [hI]
    exact ⟨0, s, rfl, by omega, by simp [lowOf], rfl, rfl, rfl, rfl, rfl⟩)
  intro n e s' hh
  rw [hI] at hh
  obtain ⟨i, l, rfl, hi, hl, rfl, h3, h8, h9, h10⟩ := hh
  have hll : l.length = s.length := by rw [hl]; simp [lowOf]; omega
  by_cases hlt : i < s.length
  · obtain ⟨c, hc⟩ : ∃ c, c = s.getD i 0 := ⟨_, rfl⟩
    have hlc : l.getD i 0 = c := by
      rw [hl, hc]
      simp only [List.getD]
      rw [List.getElem?_append_right (by simp [lowOf]; omega)]
      simp [lowOf, Nat.min_eq_left hi]
    have hnext : ∀ (E : Env) (l' : List UInt8), l' = l.set i (lowC c) → E 3 = .ms st.boxes.length 0 s.length → E 8 = .ms st.boxes.length 0 s.length → E 9 = .int .i64 (s.length : Int) → E 10 = .int .i64 ((i + 1 : Nat) : Int) → I (s.length - (i + 1)) E (bst st l') := by
      intro E l' k0 k1 k2 k3 k4
      rw [hI]
      refine ⟨i + 1, l', rfl, by omega, ?_, rfl, k1, k2, k3, k4⟩
      rw [k0, hl, take_getD hlt, ← hc, drop_getD hlt]
      have hn : (lowOf (s.take i)).length = i := by simp [lowOf]; omega
      rw [List.set_append_right _ _ (by omega), hn]
      simp [lowOf]
    by_cases h65 : 65 ≤ c
    · by_cases h90 : c ≤ 90
      · simp (maxSteps := 1000000) (disch := omega) only [h3, h8, h9, h10, hlt, iaddr_ms, load_bst (st := st) (l := l) (i := i) (by omega), hlc, h65, h90, add_8, store_bst (st := st) (l := l) (i := i) (by omega), add_n, qaaz, qabz, qacz, qadz, qaez, qajz, qakz, qalz, qamz, qanz, evOp, qaoz, qapz, qarz, qatz, qauz, qavz,
 ↓reduceIte, Nat.reduceEqDiff, Option.map_some, qazz, qbdz, qbhz, qbpz, qbyz, qcaz, beq_true, decide_true, Int.toNat_natCast, Int.ofNat_lt, Int.reduceToNat]
        exact loopQ_intro (m := s.length - (i + 1)) (by omega) (hnext _ (l.set i (c + 32)) (by simp [lowC, h65, h90]) h3 h8 h9 rfl)
      · simp (maxSteps := 1000000) (disch := omega) only [h8, h9, h10, hlt, iaddr_ms, load_bst (st := st) (l := l) (i := i) (by omega), hlc, h65, h90, add_n, qaaz, qabz, qacz, qadz, qaez, qajz, qakz, qalz, qamz, qanz, evOp, qaoz, qapz, qarz, qatz, qavz,
 ↓reduceIte, Nat.reduceEqDiff, Option.map_some, qazz, qbdz, qbhz, qbpz, qbyz, qcaz, beq_true, decide_true, decide_false,
 Int.toNat_natCast, Int.ofNat_lt, Bool.false_eq_true, Int.reduceToNat]
        exact loopQ_intro (m := s.length - (i + 1)) (by omega) (hnext _ l (by simp only [lowC, h90, and_false, if_false]; rw [← hlc, List.getD, List.getElem?_eq_getElem (by omega)]; simp) h3 h8 h9 rfl)
    · simp (maxSteps := 1000000) (disch := omega) only [h8, h9, h10, hlt, iaddr_ms, load_bst (st := st) (l := l) (i := i) (by omega), hlc, h65, add_n, qaaz, qabz, qacz, qadz, qaez, qajz, qakz, qalz, qamz, qanz, evOp, qaoz, qapz, qarz, qatz, qavz,
 ↓reduceIte, Nat.reduceEqDiff, Option.map_some, qazz, qbdz, qbhz, qbpz, qcaz, beq_true, decide_true, decide_false,
 Int.toNat_natCast, Int.ofNat_lt, Bool.false_eq_true, Int.reduceToNat]
      exact loopQ_intro (m := s.length - (i + 1)) (by omega) (hnext _ l (by simp only [lowC, h65, false_and, if_false]; rw [← hlc, List.getD, List.getElem?_eq_getElem (by omega)]; simp) h3 h8 h9 rfl)
  · obtain rfl : i = s.length := by omega
    simp (maxSteps := 1000000) (disch := omega) only [h3, h9, h10, hlt, b2s_bst (st := st) (l := l) hll.symm, qaaz, qabz, qacz, qagz, qaiz, qajz, qalz, evOp, qaoz, qarz, qatz, qavz,
 ↓reduceIte, Nat.reduceEqDiff, Option.map_some, qazz, qbbz, qbfz, qbhz, qbjz, qblz, qbpz, decide_false,
 Int.ofNat_lt, Bool.false_eq_true]
    exact ⟨.str (lowOf s), by rw [hl]; simp [resOf, rvAll, rv1, qavz, notTup, packRes], leave_bst rfl (fun _ _ => rfl)⟩

end Go.Ab
/-
  Fields of a name; how big a header is.
-/
namespace Go.Ab
variable {st s : St} {e : Env}

abbrev Fld := List UInt8 × List UInt8
def fV (f : Fld) : PV := .agg [.str f.1, .str f.2]
theorem Kept.alloc' {z : List PV} (h : Kept st s) : Kept st ⟨s.boxes ++ [z], s.toks, s.loops, s.low⟩ := h.alloc

end Go.Ab
/-
  Names and values of fields; texts without blanks at their ends.
-/
namespace Go.Ab
variable {st s : St} {e : Env}

theorem all_getD {p : UInt8 → Bool} {l : List UInt8} (h : ∀ j, j < l.length → p (l.getD j 0) = true) : l.all p = true := by
  rw [List.all_eq_true]
  intro c hc
  obtain ⟨i, hi, rfl⟩ := List.mem_iff_getElem.1 hc
  have := h i hi
  simpa [List.getD, hi] using this
theorem all_bad {p : UInt8 → Bool} {l : List UInt8} {j : Nat} (hj : j < l.length) (h : p (l.getD j 0) = false) : l.all p = false := by
  rw [List.all_eq_false]
  refine ⟨l.getD j 0, ?_, by rw [h]; simp⟩
  simp [List.getD, hj]

end Go.Ab
/-
  Texts without blanks at their ends; values of fields.
-/
namespace Go.Ab
variable {st s : St} {e : Env}

end Go.Ab
/-
  The document's trimming; values; small letters; fields of a name, by the document.
-/
namespace Go.Ab
variable {st s : St} {e : Env}

end Go.Ab
/-
  Values of fields; small letters and fields of a name, by the document.
-/
namespace Go.Ab
variable {st s : St} {e : Env}

theorem Grew.kept (h : Grew st s) : Kept st s := ⟨by rw [h.bx]; simp, h.lp, by rw [h.lw]; exact Nat.le_refl _, h.tk⟩
end Go.Ab
/-
  Addresses: plain.
-/
namespace Go.Ab

abbrev Bs := List UInt8
theorem all8 {p : UInt8 → Bool} (h : (List.range 256).all (fun n => p (UInt8.ofNat n)) = true) (c : UInt8) : p c = true := by
  have := List.all_eq_true.1 h c.toNat (List.mem_range.2 c.toNat_lt)
  simpa using this

def alnC (c : UInt8) : Bool := (decide (97 ≤ c) && decide (c ≤ 122)) || (decide (65 ≤ c) && decide (c ≤ 90)) || (decide (48 ≤ c) && decide (c ≤ 57))
def signs : Bs := [33, 35, 36, 37, 38, 39, 42, 43, 45, 47, 61, 63, 94, 95, 123, 124, 125, 126, 96]
def atC (c : UInt8) : Bool := alnC c || signs.contains c
def atomB (l : Bs) : Bool := l.all atC && !l.isEmpty
def labC (c : UInt8) : Bool := alnC c || decide (c = 45)
def labB (l : Bs) : Bool := l.all labC && !l.isEmpty && decide (l.length ≤ 63) && !decide (l.getD 0 0 = 45) && !decide (l.getD (l.length - 1) 0 = 45)
def prC (c : UInt8) : Bool := !decide (c < 32) && !decide (126 < c)
def nmA (l : Bs) : Bool := l.all prC && decide (l.length ≤ 128)
def partsB (sep : UInt8) (p : Bs → Bool) (l : Bs) : Bool := (splitOn sep [] l).all p

abbrev Adr := Bs × Bs × Bs
def aV (a : Adr) : PV := .agg [.str a.1, .str a.2.1, .str a.2.2]
def rightA (a : Adr) : Bool := decide (a.2.1.length ≤ 64) && partsB 46 atomB a.2.1 && decide (a.2.2.length ≤ 253) && partsB 46 labB a.2.2 && nmA a.1
def atA (a : Adr) : Bs := a.2.1 ++ 64 :: a.2.2
def normalA (a : Adr) : Bs := if rightA a = true then lowOf (atA a) else []
def noA : Adr := ([], [], [])
def cutA (s : Bs) : Adr := if 0 ≤ Lib.index s [64] then ([], s.take (Lib.index s [64]).toNat, s.drop ((Lib.index s [64]).toNat + 1)) else ([], s, [])
def plainA (s : Bs) : Adr × Int := if rightA (cutA s) = true then (cutA s, 0) else (noA, 60)
theorem split_chars {sep : UInt8} {q : UInt8 → Prop} : ∀ (l acc : Bs), (∀ x ∈ splitOn sep acc l, ∀ c ∈ x, q c) → (∀ c ∈ acc, q c) ∧ ∀ c ∈ l, q c ∨ c = sep := by
  intro l
  induction l with
  | nil => intro acc h; exact ⟨fun c hc => h acc (by simp [splitOn]) c hc, fun c hc => (by cases hc)⟩
  | cons d r ih =>
    intro acc h
    simp only [splitOn] at h
    by_cases hd : d = sep
    · rw [if_pos hd] at h
      have h2 := ih [] (fun x hx => h x (by simp [hx]))
      refine ⟨fun c hc => h acc (by simp) c hc, fun c hc => ?_⟩
      rcases List.mem_cons.1 hc with rfl | hc
      · exact .inr hd
      · exact h2.2 c hc
    · rw [if_neg hd] at h
      have h2 := ih (acc ++ [d]) h
      refine ⟨fun c hc => h2.1 c (by simp [hc]), fun c hc => ?_⟩
      rcases List.mem_cons.1 hc with rfl | hc
      · exact .inl (h2.1 c (by simp))
      · exact h2.2 c hc
theorem split_last {sep : UInt8} : ∀ (l acc : Bs), [] ∈ splitOn sep acc (l ++ [sep]) := by
  intro l
  induction l with
  | nil => intro acc; simp [splitOn]
  | cons d r ih =>
    intro acc
    simp only [List.cons_append, splitOn]
    split
    · exact List.mem_cons_of_mem _ (ih [])
    · exact ih _

theorem atom_ne {l : Bs} (h : atomB l = true) : l ≠ [] ∧ ∀ c ∈ l, atC c = true := by
  simp only [atomB, Bool.and_eq_true, List.all_eq_true, Bool.not_eq_true', List.isEmpty_eq_false_iff] at h
  exact ⟨h.2, h.1⟩
theorem lab_ne {l : Bs} (h : labB l = true) : l ≠ [] ∧ ∀ c ∈ l, labC c = true := by
  simp only [labB, Bool.and_eq_true, List.all_eq_true, Bool.not_eq_true', List.isEmpty_eq_false_iff] at h
  exact ⟨h.1.1.1.2, h.1.1.1.1⟩
theorem parts_chars {sep : UInt8} {p : Bs → Bool} {q : UInt8 → Prop} {l : Bs} (hp : ∀ x, p x = true → ∀ c ∈ x, q c) (h : partsB sep p l = true) : ∀ c ∈ l, q c ∨ c = sep :=
  (split_chars l [] (fun x hx => hp x (List.all_eq_true.1 h x hx))).2
theorem parts_ends {sep : UInt8} {p : Bs → Bool} {l : Bs} (hp : p [] = false) (h : partsB sep p l = true) : l ≠ [] ∧ l.head? ≠ some sep ∧ l.getLast? ≠ some sep := by
  refine ⟨?_, ?_, ?_⟩
  · rintro rfl
    simp [partsB, splitOn, hp] at h
  · intro hh
    cases l with
    | nil => cases hh
    | cons c r =>
      simp only [List.head?_cons, Option.some.injEq] at hh
      subst hh
      simp [partsB, splitOn, hp] at h
  · intro hh
    obtain ⟨r, rfl⟩ := List.getLast?_eq_some_iff.1 hh
    have := List.all_eq_true.1 h [] (split_last r [])
    rw [hp] at this; cases this
theorem index_chr {k : UInt8} : ∀ (n r : Bs), (∀ c ∈ n, c ≠ k) → Lib.index (n ++ k :: r) [k] = n.length := by
  intro n
  induction n with
  | nil => intro r _; simp [Lib.index, List.isPrefixOf]
  | cons c n ih =>
    intro r h
    have hc : c ≠ k := h c (by simp)
    have := ih r (fun d hd => h d (by simp [hd]))
    rw [List.cons_append, Lib.index]
    have hp : ([k] : Bs).isPrefixOf (c :: (n ++ k :: r)) = false := by
      simp [List.isPrefixOf]; exact fun h => hc h.symm
    rw [hp, this]
    simp <;> omega
def locC (c : UInt8) : Prop := atC c = true ∨ c = 46
def domC (c : UInt8) : Prop := labC c = true ∨ c = 46
structure RightA (a : Adr) : Prop where
  lc : ∀ c ∈ a.2.1, locC c
  ln : a.2.1 ≠ []
  dc : ∀ c ∈ a.2.2, domC c
  dn : a.2.2 ≠ []
  nl : a.1.length ≤ 128
  ll : a.2.1.length ≤ 64
  dl : a.2.2.length ≤ 253
theorem right_facts {a : Adr} (h : rightA a = true) : RightA a := by
  simp only [rightA, Bool.and_eq_true, decide_eq_true_eq] at h
  obtain ⟨⟨⟨⟨h1, h2⟩, h3⟩, h4⟩, h5⟩ := h
  simp only [nmA, Bool.and_eq_true, decide_eq_true_eq] at h5
  exact ⟨parts_chars (fun x hx c hc => (atom_ne hx).2 c hc) h2, (parts_ends (by rfl) h2).1, parts_chars (fun x hx c hc => (lab_ne hx).2 c hc) h4, (parts_ends (by rfl) h4).1, h5.2, h1, h3⟩
theorem chr_split (k : UInt8) : ∀ s : Bs, (k ∉ s ∧ Lib.index s [k] = -1) ∨ ∃ n r, s = n ++ k :: r ∧ ∀ c ∈ n, c ≠ k := by
  intro s
  by_cases h : k ∈ s
  · right
    induction s with
    | nil => cases h
    | cons c s ih =>
      by_cases hc : c = k
      · exact ⟨[], s, by simp [hc], fun c hc => (by cases hc)⟩
      · rcases List.mem_cons.1 h with h | h
        · exact absurd h.symm hc
        · obtain ⟨n, r, e1, e2⟩ := ih h
          refine ⟨c :: n, r, by simp [e1], fun d hd => ?_⟩
          rcases List.mem_cons.1 hd with rfl | hd
          · exact hc
          · exact e2 d hd
  · left
    refine ⟨h, ?_⟩
    have h1 := Lib.index_ge s [k]
    have h2 := index_one (l := s) (c := k)
    have h3 : ¬ 0 ≤ Lib.index s [k] := fun h0 => h (h2.1 h0)
    omega
end Go.Ab
/-
  Addresses are read as they were written: plain.
-/
namespace Go.Ab

theorem plain_good {s : Bs} : ((plainA s).2 = 0 ∧ rightA (plainA s).1 = true ∧ (plainA s).1.1 = []) ∨ plainA s = (noA, 60) := by
  unfold plainA
  by_cases h : rightA (cutA s) = true
  · rw [if_pos h]
    refine .inl ⟨rfl, h, ?_⟩
    show (cutA s).1 = []
    unfold cutA
    split <;> rfl
  · rw [if_neg h]; exact .inr rfl
end Go.Ab
/-
  Points of Unicode as bytes: the program's answer.
-/
namespace Go.Ab
variable {st s : St} {e : Env}

def lead (c : Nat) : Nat × Nat := if 192 ≤ c ∧ c < 224 then (c % 32, 2) else if 224 ≤ c ∧ c < 240 then (c % 16, 3) else if 240 ≤ c ∧ c < 248 then (c % 8, 4) else (0, 0)
def accP (l : List UInt8) (p : Nat) : Nat → Nat
  | 0 => p
  | k + 1 => 64 * accP l p k + (l.getD (k + 1) 0).toNat % 64
def contB (l : List UInt8) (k : Nat) : Prop := ∀ j, j < k → 128 ≤ (l.getD (j + 1) 0).toNat ∧ (l.getD (j + 1) 0).toNat < 192
instance {l : List UInt8} {k : Nat} : Decidable (contB l k) := by unfold contB; infer_instance
def pointN (q : Nat) : Prop := q < 55296 ∨ (57343 < q ∧ q ≤ 1114111)
instance {q : Nat} : Decidable (pointN q) := by unfold pointN; infer_instance
def lowN (n : Nat) : Nat := if n = 2 then 128 else if n = 3 then 2048 else 65536
def nextOf (l : List UInt8) : Option (Nat × Nat) :=
  if l = [] then none else if (l.getD 0 0).toNat < 128 then some ((l.getD 0 0).toNat, 1) else
    let r := lead (l.getD 0 0).toNat
    if r.2 = 0 ∨ l.length < r.2 ∨ ¬ contB l (r.2 - 1) ∨ ¬ pointN (accP l r.1 (r.2 - 1)) ∨ accP l r.1 (r.2 - 1) < lowN r.2 then none else some (accP l r.1 (r.2 - 1), r.2)
end Go.Ab
/-
  The point at a text's front: the program's function.
-/
namespace Go.Ab
variable {A : AP} {st s : St} {e : Env}

def scopeQ (A : AP) (b rest : ACode) (Q : Ex → Env → St → Prop) : Ex → Env → St → Prop
  | .goto l, e, s => if l = 0 then W A (.scopeAt b rest) e s Q else False
  | x, e, s => Q x e s
theorem W_scope1 {b rest : ACode} {Q : Ex → Env → St → Prop} (hl : findLabelA b 0 = some rest) (h : W A b e st (scopeQ A b rest Q)) : W A (.scope b) e st Q := by
  rw [W_scope]
  refine W_scopeAt (W_mono h ?_)
  intro x e s hq
  cases x with
  | goto l =>
    simp only [scopeQ] at hq
    split at hq
    · rename_i h0; subst h0
      simp only [hl]; exact hq
    · cases hq
  | normal => exact hq
  | ret => exact hq
  | exit i => exact hq

end Go.Ab
/-
  A point's bytes, by the document; the point at a text's front is the one whose bytes stand there.
-/
namespace Go.Ab
variable {st s : St} {e : Env}

def putOf (p : Nat) : List UInt8 :=
  if p < 128 then [UInt8.ofNat p] else if p < 2048 then [UInt8.ofNat (192 + p / 64), UInt8.ofNat (128 + p % 64)]
  else if p < 65536 then [UInt8.ofNat (224 + p / 4096), UInt8.ofNat (128 + p / 64 % 64), UInt8.ofNat (128 + p % 64)]
  else [UInt8.ofNat (240 + p / 262144), UInt8.ofNat (128 + p / 4096 % 64), UInt8.ofNat (128 + p / 64 % 64), UInt8.ofNat (128 + p % 64)]

end Go.Ab
/-
  The point at the front is the one whose bytes stand there.
-/
namespace Go.Ab
variable {st s : St} {e : Env}

def mdN (n : Nat) : Nat := if n = 2 then 32 else if n = 3 then 16 else 8
def qN (l : List UInt8) (n : Nat) : Nat := accP l ((l.getD 0 0).toNat % mdN n) (n - 1)
def succN (l : List UInt8) (n : Nat) : Prop := pointN (qN l n) ∧ putOf (qN l n) = l.take n

theorem u8_of {a : UInt8} {k : Nat} (h : k = a.toNat) : UInt8.ofNat k = a := by rw [h]; simp
theorem of_u8 {a : UInt8} {k : Nat} (h : UInt8.ofNat k = a) (hk : k < 256) : k = a.toNat := by
  rw [← h]; simp; omega

theorem lead2 {c : Nat} (h : 192 ≤ c ∧ c < 224) : lead c = (c % 32, 2) := by unfold lead; rw [if_pos h]
theorem lead3 {c : Nat} (h : 224 ≤ c ∧ c < 240) : lead c = (c % 16, 3) := by unfold lead; rw [if_neg (by omega), if_pos h]
theorem lead4 {c : Nat} (h : 240 ≤ c ∧ c < 248) : lead c = (c % 8, 4) := by unfold lead; rw [if_neg (by omega), if_neg (by omega), if_pos h]

theorem next_of {l : List UInt8} {p n : Nat} (hne : l ≠ []) (hc : ¬ (l.getD 0 0).toNat < 128) (hl : lead (l.getD 0 0).toNat = (p, n)) (hn : n ≠ 0) (hlen : n ≤ l.length) (hcb : contB l (n - 1)) (hp : pointN (accP l p (n - 1))) (hlow : lowN n ≤ accP l p (n - 1)) :
    nextOf l = some (accP l p (n - 1), n) := by
  unfold nextOf
  rw [if_neg hne, if_neg hc, hl, if_neg]
  simp only [not_or, Classical.not_not]
  exact ⟨hn, by omega, hcb, hp, by omega⟩

theorem succ_next {l : List UInt8} {n : Nat} (hn : n = 2 ∨ n = 3 ∨ n = 4) (hlen : n ≤ l.length) (hc : ¬ (l.getD 0 0).toNat < 128) (h : succN l n) : nextOf l = some (qN l n, n) := by
  have hne : l ≠ [] := by rintro rfl; simp at hlen; omega
  obtain ⟨h1, h2⟩ := h
  rcases hn with rfl | rfl | rfl
  · match l, hlen with
    | a :: b :: r, _ =>
      simp only [qN, mdN, accP, if_true, List.getD_cons_zero, List.getD_cons_succ, Nat.reduceSub, List.take_succ_cons, List.take_zero] at h1 h2 hc ⊢
      have ha := a.toNat_lt; have hb := b.toNat_lt
      obtain ⟨q, hq⟩ : ∃ q, q = 64 * (a.toNat % 32) + b.toNat % 64 := ⟨_, rfl⟩
      rw [← hq] at h1 h2 ⊢
      unfold putOf at h2
      split at h2
      · simp at h2
      · split at h2
        · simp only [List.cons.injEq, and_true] at h2
          have e1 := of_u8 h2.1 (by omega)
          have e2 := of_u8 h2.2 (by omega)
          have := next_of (l := a :: b :: r) (p := a.toNat % 32) (n := 2) hne (by simpa using hc) (lead2 (by simp only [List.getD_cons_zero]; omega)) (by omega) (by simp) (by
            intro j hj
            match j, hj with
            | 0, _ => simp only [List.getD_cons_succ, List.getD_cons_zero]; omega) (by simpa [accP, ← hq] using h1) (by simp [accP, lowN, ← hq]; omega)
          simpa [accP, ← hq] using this
        · split at h2 <;> simp at h2
  · match l, hlen with
    | a :: b :: c :: r, _ =>
      simp only [qN, mdN, accP, if_true, List.getD_cons_zero, List.getD_cons_succ, Nat.reduceSub, Nat.reduceEqDiff, if_false, List.take_succ_cons, List.take_zero] at h1 h2 hc ⊢
      have ha := a.toNat_lt; have hb := b.toNat_lt; have hcc := c.toNat_lt
      obtain ⟨q, hq⟩ : ∃ q, q = 64 * (64 * (a.toNat % 16) + b.toNat % 64) + c.toNat % 64 := ⟨_, rfl⟩
      rw [← hq] at h1 h2 ⊢
      unfold putOf at h2
      split at h2
      · simp at h2
      · split at h2
        · simp at h2
        · split at h2
          · simp only [List.cons.injEq, and_true] at h2
            have e1 := of_u8 h2.1 (by omega)
            have e2 := of_u8 h2.2.1 (by omega)
            have e3 := of_u8 h2.2.2 (by omega)
            have := next_of (l := a :: b :: c :: r) (p := a.toNat % 16) (n := 3) hne (by simpa using hc) (lead3 (by simp only [List.getD_cons_zero]; omega)) (by omega) (by simp) (by
              intro j hj
              match j, hj with
              | 0, _ => simp only [List.getD_cons_succ, List.getD_cons_zero]; omega
              | 1, _ => simp only [List.getD_cons_succ, List.getD_cons_zero]; omega) (by simpa [accP, ← hq] using h1) (by simp [accP, lowN, ← hq]; omega)
            simpa [accP, ← hq] using this
          · simp at h2
  · match l, hlen with
    | a :: b :: c :: d :: r, _ =>
      simp only [qN, mdN, accP, List.getD_cons_zero, List.getD_cons_succ, Nat.reduceSub, Nat.reduceEqDiff, if_false, List.take_succ_cons, List.take_zero] at h1 h2 hc ⊢
      have ha := a.toNat_lt; have hb := b.toNat_lt; have hcc := c.toNat_lt; have hdd := d.toNat_lt
      obtain ⟨q, hq⟩ : ∃ q, q = 64 * (64 * (64 * (a.toNat % 8) + b.toNat % 64) + c.toNat % 64) + d.toNat % 64 := ⟨_, rfl⟩
      rw [← hq] at h1 h2 ⊢
      have hq2 : q ≤ 1114111 := by unfold pointN at h1; omega
      unfold putOf at h2
      split at h2
      · simp at h2
      · split at h2
        · simp at h2
        · split at h2
          · simp at h2
          · simp only [List.cons.injEq, and_true] at h2
            have e1 := of_u8 h2.1 (by omega)
            have e2 := of_u8 h2.2.1 (by omega)
            have e3 := of_u8 h2.2.2.1 (by omega)
            have e4 := of_u8 h2.2.2.2 (by omega)
            have := next_of (l := a :: b :: c :: d :: r) (p := a.toNat % 8) (n := 4) hne (by simpa using hc) (lead4 (by simp only [List.getD_cons_zero]; omega)) (by omega) (by simp) (by
              intro j hj
              match j, hj with
              | 0, _ => simp only [List.getD_cons_succ, List.getD_cons_zero]; omega
              | 1, _ => simp only [List.getD_cons_succ, List.getD_cons_zero]; omega
              | 2, _ => simp only [List.getD_cons_succ, List.getD_cons_zero]; omega) (by simpa [accP, ← hq] using h1) (by simp [accP, lowN, ← hq]; omega)
            simpa [accP, ← hq] using this

theorem next_succ {l : List UInt8} {v n : Nat} (hc : ¬ (l.getD 0 0).toNat < 128) (h : nextOf l = some (v, n)) : (n = 2 ∨ n = 3 ∨ n = 4) ∧ n ≤ l.length ∧ succN l n := by
  unfold nextOf at h
  split at h
  · cases h
  rename_i hne
  simp only at h
  split at h
  · cases h
  rename_i hcond
  simp only [not_or, Classical.not_not] at hcond
  obtain ⟨c1, c2, c3, c4, c5⟩ := hcond
  simp only [Option.some.injEq, Prod.mk.injEq] at h
  obtain ⟨hv, hn⟩ := h
  rw [hn] at c1 c2 c3 c4 c5 hv
  have hl : lead (l.getD 0 0).toNat = ((lead (l.getD 0 0).toNat).1, n) := by rw [← hn]
  unfold lead at hl
  split at hl
  · rename_i hr
    simp only [Prod.mk.injEq] at hl
    obtain ⟨-, rfl⟩ := hl
    rw [lead2 hr] at c4 c5
    match l, c2 with
    | a :: b :: r, _ =>
      refine ⟨.inl rfl, by simp, ?_⟩
      have hb := c3 0 (by omega)
      simp only [succN, qN, mdN, accP, lowN, if_true, List.getD_cons_zero, List.getD_cons_succ, Nat.reduceSub, List.take_succ_cons, List.take_zero] at hr hb c4 c5 ⊢
      obtain ⟨q, hq⟩ : ∃ q, q = 64 * (a.toNat % 32) + b.toNat % 64 := ⟨_, rfl⟩
      rw [← hq] at c4 c5 ⊢
      refine ⟨c4, ?_⟩
      unfold putOf
      rw [if_neg (by omega), if_pos (by omega), u8_of (a := a) (by omega), u8_of (a := b) (by omega)]
    | [], h => simp at h
    | [a], h => simp at h
  · split at hl
    · rename_i hr
      simp only [Prod.mk.injEq] at hl
      obtain ⟨-, rfl⟩ := hl
      rw [lead3 hr] at c4 c5
      match l, c2 with
      | a :: b :: c :: r, _ =>
        refine ⟨.inr (.inl rfl), by simp, ?_⟩
        have hb := c3 0 (by omega)
        have hb2 := c3 1 (by omega)
        simp only [succN, qN, mdN, accP, lowN, if_true, List.getD_cons_zero, List.getD_cons_succ, Nat.reduceSub, Nat.reduceEqDiff, if_false, List.take_succ_cons, List.take_zero] at hr hb hb2 c4 c5 ⊢
        obtain ⟨q, hq⟩ : ∃ q, q = 64 * (64 * (a.toNat % 16) + b.toNat % 64) + c.toNat % 64 := ⟨_, rfl⟩
        rw [← hq] at c4 c5 ⊢
        refine ⟨c4, ?_⟩
        unfold putOf
        rw [if_neg (by omega), if_neg (by omega), if_pos (by omega), u8_of (a := a) (by omega), u8_of (a := b) (by omega), u8_of (a := c) (by omega)]
      | [], h => simp at h
      | [a], h => simp at h
      | [a, b], h => simp at h
    · split at hl
      · rename_i hr
        simp only [Prod.mk.injEq] at hl
        obtain ⟨-, rfl⟩ := hl
        rw [lead4 hr] at c4 c5
        match l, c2 with
        | a :: b :: c :: d :: r, _ =>
          refine ⟨.inr (.inr rfl), by simp, ?_⟩
          have hb := c3 0 (by omega)
          have hb2 := c3 1 (by omega)
          have hb3 := c3 2 (by omega)
          simp only [succN, qN, mdN, accP, lowN, List.getD_cons_zero, List.getD_cons_succ, Nat.reduceSub, Nat.reduceEqDiff, if_false, List.take_succ_cons, List.take_zero] at hr hb hb2 hb3 c4 c5 ⊢
          obtain ⟨q, hq⟩ : ∃ q, q = 64 * (64 * (64 * (a.toNat % 8) + b.toNat % 64) + c.toNat % 64) + d.toNat % 64 := ⟨_, rfl⟩
          rw [← hq] at c4 c5 ⊢
          refine ⟨c4, ?_⟩
          unfold putOf
          rw [if_neg (by omega), if_neg (by omega), if_neg (by omega), u8_of (a := a) (by omega), u8_of (a := b) (by omega), u8_of (a := c) (by omega), u8_of (a := d) (by omega)]
        | [], h => simp at h
        | [a], h => simp at h
        | [a, b], h => simp at h
        | [a, b, c], h => simp at h
      · simp only [Prod.mk.injEq] at hl
        exact absurd hl.2.symm c1
end Go.Ab
/-
  The point at a text's front: the document's function.
-/
namespace Go.Ab
variable {st s : St} {e : Env}

end Go.Ab
/-
  A text's points; whether it is one.
-/
namespace Go.Ab
variable {st s : St} {e : Env}

theorem next_pos {l : List UInt8} {p n : Nat} (h : nextOf l = some (p, n)) : 1 ≤ n ∧ n ≤ l.length ∧ p < 2147483648 := by
  by_cases hc : (l.getD 0 0).toNat < 128
  · unfold nextOf at h
    split at h
    · cases h
    · rename_i hne
      cases h
      have := List.length_pos_iff.2 hne
      omega
  · obtain ⟨h1, h2, h3⟩ := next_succ hc h
    have h4 := succ_next h1 h2 hc h3
    rw [h] at h4
    simp only [Option.some.injEq, Prod.mk.injEq] at h4
    have := h3.1
    rw [← h4.1] at this
    unfold pointN at this
    omega

theorem Kept.appS {esz : Nat} {v : PV} {xs : List PV} (hk : Kept st s) (h : Own st s esz v xs) : Kept st (Ab.appS s v) := by
  have htl := hk.tl
  rcases h with ⟨rfl, rfl⟩ | ⟨i, rfl, h2, h3⟩
  · exact hk.tok1
  · refine hk.of rfl rfl hk.lw (fun j hj => ?_) ?_
    · show (s.toks.set i false ++ [true])[j]? = s.toks[j]?
      rw [List.getElem?_append_left (by simp; omega), List.getElem?_set_ne (by omega)]
    · show st.toks.length ≤ (s.toks.set i false ++ [true]).length
      simp; omega
def FB (st s : St) (a b : Int) : Prop := st.boxes.length < s.boxes.length ∧ s.boxes[st.boxes.length]? = some [.int .i64 a, .int .i64 b]
theorem FB.store {a b c d : Int} (hk : Kept st s) (h : FB st s a b) : ∃ s', storePV s 2 (.ptr st.boxes.length 0) (.agg [.int .i64 c, .int .i64 d]) = some s' ∧ Kept st s' ∧ FB st s' c d ∧ s'.toks = s.toks := by
  refine ⟨{ s with boxes := s.boxes.set st.boxes.length [.int .i64 c, .int .i64 d] }, ?_, ?_, ⟨by simpa using h.1, by simp [h.1]⟩, rfl⟩
  · simp [storePV, h.2, PV.cells, PV.inB, PV.inB.inBAll, leafOk, hasTok, tokOf, setCells]
  · exact hk.of (by rw [List.take_set_of_le (Nat.le_refl _)]) rfl hk.lw (fun _ _ => rfl) hk.tl
theorem FB.load {a b : Int} (h : FB st s a b) : loadPV s true 2 (.ptr st.boxes.length 0) = some (.agg [.int .i64 a, .int .i64 b]) := by
  simp [loadPV, h.2, readCells]
theorem FB.appS {v : PV} {esz : Nat} {xs : List PV} {a b : Int} (h : FB st s a b) (ho : Own st s esz v xs) : FB st (Ab.appS s v) a b := by
  rcases ho with ⟨rfl, rfl⟩ | ⟨i, rfl, _, _⟩ <;> exact h

end Go.Ab
/-
  Whether a text is one of points; where it can be cut.
-/
namespace Go.Ab
variable {st s : St} {e : Env}

def isCont (c : UInt8) : Prop := 128 ≤ c.toNat ∧ c.toNat < 192
instance {c : UInt8} : Decidable (isCont c) := by unfold isCont; infer_instance
def back (l : List UInt8) : Nat → Nat
  | 0 => 0
  | n + 1 => if n + 1 < l.length ∧ isCont (l.getD (n + 1) 0) then back l n else n + 1
theorem next_cont {l : List UInt8} {p n : Nat} (h : nextOf l = some (p, n)) : ¬ isCont (l.getD 0 0) ∧ ∀ j, 1 ≤ j → j < n → isCont (l.getD j 0) := by
  unfold nextOf at h
  split at h
  · cases h
  split at h
  · rename_i hc
    cases h
    exact ⟨fun hh => by unfold isCont at hh; omega, fun j h1 h2 => by omega⟩
  · rename_i hc
    simp only at h
    split at h
    · cases h
    · rename_i hcond
      simp only [not_or, Classical.not_not] at hcond
      cases h
      refine ⟨fun hh => ?_, fun j h1 h2 => ?_⟩
      · apply hcond.1
        unfold isCont at hh
        unfold lead
        rw [if_neg (by omega), if_neg (by omega), if_neg (by omega)]
      · have := hcond.2.2.1 (j - 1) (by omega)
        rw [show j - 1 + 1 = j by omega] at this
        exact this

end Go.Ab
/-
  Messages, plain: which may be, whose a method is, what is wrong with a message.
-/
namespace Go.Ab

structure MD where
  (me uid : Bs) (seq stamp recur : Int) (org : Bs) (att : List (Bs × Bs)) (sta fin : Int) (sum com : Bs)

def personB (s : Bs) : Bool := decide ((plainA s).2 = 0) && decide (lowOf s = s)
structure Nd where
  (lo hi : Int) (re st ti : Bool)
/- the document's answer -/
end Go.Ab
/-
  Ids: plain.
-/
namespace Go.Ab

end Go.Ab
/-
  strings.Cut.
-/
namespace Go.Ab
variable {st : St} {e : Env}

theorem faP {n k b : Nat} : faddrPV n (.ptr b k) = some (.ptr b (k + n)) := rfl
theorem index_room' : ∀ (a b : List UInt8), 0 ≤ Lib.index a b → Lib.index a b + b.length ≤ a.length := by
  intro a b
  induction a with
  | nil =>
    intro h
    cases b with
    | nil => simp [Lib.index]
    | cons c r => simp [Lib.index] at h
  | cons c r ih =>
    intro h
    by_cases hp : b.isPrefixOf (c :: r) = true
    · have := (List.isPrefixOf_iff_prefix.1 hp).length_le
      rw [Lib.index, if_pos hp]; omega
    · have hp2 : b.isPrefixOf (c :: r) = false := Bool.eq_false_iff.2 hp
      rw [Lib.index, hp2] at h ⊢
      by_cases hq : (Lib.index r b == -1) = true
      · rw [hq] at h; simp at h
      · have hq2 : (Lib.index r b == -1) = false := by simpa using hq
        rw [hq2] at h ⊢
        simp only [Bool.false_eq_true, if_false] at h ⊢
        have hge := Lib.index_ge r b
        have hne : Lib.index r b ≠ -1 := by simpa using hq2
        have := ih (by omega)
        simp only [List.length_cons]; omega
def cutAt (a b : List UInt8) : PV := if 0 ≤ Lib.index a b then .tup [.str (a.take (Lib.index a b).toNat), .str (a.drop ((Lib.index a b).toNat + b.length)), .bool true] else .tup [.str a, .str [], .bool false]
theorem sCut_spec {a b : List UInt8} (h : a.length < 4294967281) (hb : b.length < 4294967281) : call prog (.fn 135 []) [.str a, .str b] st = some (cutAt a b, st) := by
  refine call_of_W prog_135 ?_
  unfold F_internal_stringslite_Cut; dsimp only
  have hroom := index_room' a b
  by_cases h0 : 0 ≤ Lib.index a b
  · have hr := hroom h0
    obtain ⟨k, hk⟩ : ∃ k : Nat, Lib.index a b = (k : Int) := ⟨(Lib.index a b).toNat, by omega⟩
    rw [hk] at hr
    have hadd : ∀ ek, binPV .add ek (.int .i64 (k : Int)) (.int .i64 (b.length : Int)) = some (.int .i64 ((k + b.length : Nat) : Int)) := fun ek => by
      rw [add_i (by omega) (by omega)]; simp
    have e1 : (0 : Int) ≤ (k : Int) := by omega
    simp (maxSteps := 1000000) (disch := omega) only [strIndex_spec h, hk, e1, len_s, hadd, slc_s_lo, slc_s_hi, qaaz, qabz, qacz, qaiz, qajz, qalz, evOp, qaoz, qapz, qaqz, qarz, qatz, qavz,
 ↓reduceIte, Nat.reduceEqDiff, List.append_nil, List.map_cons, List.map_nil, qawz, qaxz, Option.map_some, Option.map_none, qazz, qbaz, qbhz, qblz, qbsz, decide_true, Int.toNat_natCast, reduceCtorEq]
    rw [show cutAt a b = .tup [.str (a.take k), .str (a.drop (k + b.length)), .bool true] by simp [cutAt, hk]]
    exact end3 rfl rfl rfl Kp_str Kp_str Kp_bool
  · simp (maxSteps := 1000000) (disch := omega) only [strIndex_spec h, h0, qaaz, qabz, qacz, qaez, qaiz, qajz, qalz, evOp, qaoz, qapz, qaqz, qarz, qatz, qavz,
 ↓reduceIte, Nat.reduceEqDiff, List.append_nil, List.map_cons, List.map_nil, qawz, qaxz, Option.map_some, qazz, qbhz, qblz, qbsz, decide_false,
 Bool.false_eq_true, reduceCtorEq]
    rw [show cutAt a b = .tup [.str a, .str [], .bool false] by simp [cutAt, h0]]
    exact end3 rfl rfl rfl Kp_str Kp_str Kp_bool
theorem Cut_spec {a b : List UInt8} (h : a.length < 4294967281) (hb : b.length < 4294967281) : call prog (.fn 128 []) [.str a, .str b] st = some (cutAt a b, st) := by
  refine call_of_W prog_128 ?_
  unfold F_strings_Cut; dsimp only
  by_cases h0 : 0 ≤ Lib.index a b
  · have hc : cutAt a b = .tup [.str (a.take (Lib.index a b).toNat), .str (a.drop ((Lib.index a b).toNat + b.length)), .bool true] := by simp [cutAt, h0]
    simp (maxSteps := 1000000) (disch := omega) only [sCut_spec h hb, hc, qaaz, qabz, qaiz, qajz, qalz, evOp, qaoz, qapz, qaqz, qarz, qatz, qavz,
 ↓reduceIte, Nat.reduceEqDiff, List.append_nil, List.map_cons, List.map_nil, qawz, qaxz, Option.map_some, qazz, qblz, qcjz, List.getElem?_cons_zero, List.getElem?_cons_succ, reduceCtorEq]
    exact end3 rfl rfl rfl Kp_str Kp_str Kp_bool
  · have hc : cutAt a b = .tup [.str a, .str [], .bool false] := by simp [cutAt, h0]
    simp (maxSteps := 1000000) (disch := omega) only [sCut_spec h hb, hc, qaaz, qabz, qaiz, qajz, qalz, evOp, qaoz, qapz, qaqz, qarz, qatz, qavz,
 ↓reduceIte, Nat.reduceEqDiff, List.append_nil, List.map_cons, List.map_nil, qawz, qaxz, Option.map_some, qazz, qblz, qcjz, List.getElem?_cons_zero, List.getElem?_cons_succ, reduceCtorEq]
    exact end3 rfl rfl rfl Kp_str Kp_str Kp_bool

end Go.Ab
/-
  Rules that part the ways of a run: each way under what it was taken for.
-/
namespace Go.Ab
variable {A : AP} {st : St} {e : Env}

def guardW (A : AP) (v : PV) (g : Nat) (b : Bool) (d : Option Nat) (op : AOp) (r : List AOper) (e : Env) (st : St) (Q : Env → St → Prop) : Prop := match v with
  | .bool t => if t = b then WN A (evOp (call A) op e st) d r e Q else WO A r (updO e d .undef) st Q
  | _ => WO A r (updO e d .undef) st Q
def guardT (A : AP) (t : Bool) (b : Bool) (d : Option Nat) (op : AOp) (r : List AOper) (e : Env) (st : St) (Q : Env → St → Prop) : Prop := match t, b with
  | true, true => WN A (evOp (call A) op e st) d r e Q
  | false, false => WN A (evOp (call A) op e st) d r e Q
  | _, _ => WO A r (updO e d .undef) st Q
theorem qcnz {d : Option Nat} {op : AOp} {r : List AOper} {Q : Env → St → Prop} : guardT A true true d op r e st Q = WN A (evOp (call A) op e st) d r e Q := rfl
theorem qcoz {d : Option Nat} {op : AOp} {r : List AOper} {Q : Env → St → Prop} : guardT A false false d op r e st Q = WN A (evOp (call A) op e st) d r e Q := rfl
theorem qcpz {d : Option Nat} {op : AOp} {r : List AOper} {Q : Env → St → Prop} : guardT A true false d op r e st Q = WO A r (updO e d .undef) st Q := rfl
theorem qcqz {d : Option Nat} {op : AOp} {r : List AOper} {Q : Env → St → Prop} : guardT A false true d op r e st Q = WO A r (updO e d .undef) st Q := rfl

theorem WO_consG2 {d : Option Nat} {op : AOp} {g : Nat} {b : Bool} {r : List AOper} {Q : Env → St → Prop} : WO A (⟨d, op, some (g, b)⟩ :: r) e st Q = guardW A (e g) g b d op r e st Q := by
  rw [qakz, qamz]
  unfold guardW qanz
  cases e g with
  | bool c => simp
  | _ => simp
theorem upd_self {g : Nat} {v : PV} (h : e g = v) : upd e g v = e := by
  funext t
  simp only [upd]
  split
  · rename_i h1; rw [h1, h]
  · rfl
theorem guardW_bool {t : Bool} {g : Nat} {b : Bool} {d : Option Nat} {op : AOp} {r : List AOper} {Q : Env → St → Prop} (h : e g = .bool t) : guardW A (.bool t) g b d op r e st Q =
    ((t = true → guardT A true b d op r (upd e g (.bool true)) st Q) ∧ (t = false → guardT A false b d op r (upd e g (.bool false)) st Q)) := by
  cases t with
  | true =>
    rw [upd_self h]
    cases b <;> simp [guardW, guardT]
  | false =>
    rw [upd_self h]
    cases b <;> simp [guardW, guardT]
def guardV (A : AP) (v : PV) (g : Nat) (b : Bool) (d : Option Nat) (op : AOp) (r : List AOper) (e : Env) (st : St) (Q : Env → St → Prop) : Prop := match v with
  | .bool t => (t = true → guardT A true b d op r (upd e g (.bool true)) st Q) ∧ (t = false → guardT A false b d op r (upd e g (.bool false)) st Q)
  | _ => WO A r (updO e d .undef) st Q
theorem qclz {d : Option Nat} {op : AOp} {g : Nat} {b : Bool} {r : List AOper} {Q : Env → St → Prop} : WO A (⟨d, op, some (g, b)⟩ :: r) e st Q = guardV A (e g) g b d op r e st Q := by
  rw [WO_consG2]
  cases h : e g with
  | bool t => rw [guardW_bool h]; rfl
  | _ => rfl
theorem qcmz {t : Bool} {g : Nat} {b : Bool} {d : Option Nat} {op : AOp} {r : List AOper} {Q : Env → St → Prop} : guardV A (.bool t) g b d op r e st Q =
    ((t = true → guardT A true b d op r (upd e g (.bool true)) st Q) ∧ (t = false → guardT A false b d op r (upd e g (.bool false)) st Q)) := rfl
theorem qcrz {t : Bool} {a b : ACode} {Q : Ex → Env → St → Prop} : condW A (.bool t) a b e st Q = ((t = true → W A a e st Q) ∧ (t = false → W A b e st Q)) := by
  cases t <;> simp [condW]
theorem qcwz {p : Prop} : (False → p) = True := by simp
end Go.Ab
/-
  Helpers: how a call ends, cuts of which a first part may return.
-/
namespace Go.Ab
variable {st s : St} {e : Env}

theorem ret1 {a : Nat} {v : PV} (ha : e a = v) (hnt : notTup v = true) (hk : Kept st s) (hf : Flat v) : ∃ rv, resOf e s [.tmp a] = some rv ∧ leave st s rv = (v, st) :=
  ⟨v, by simp [resOf, rvAll, rv1, ha, hnt, packRes], hk.leave' hf⟩
theorem retB {a : Nat} {b c : Bool} (ha : e a = .bool b) (hk : Kept st s) (hb : b = c) : ∃ rv, resOf e s [.tmp a] = some rv ∧ leave st s rv = (.bool c, st) := by
  subst hb; exact ret1 ha rfl hk ⟨fun _ => rfl, fun _ _ => rfl⟩
theorem retS {a : Nat} {b c : List UInt8} (ha : e a = .str b) (hk : Kept st s) (hb : b = c) : ∃ rv, resOf e s [.tmp a] = some rv ∧ leave st s rv = (.str c, st) := by
  subst hb; exact ret1 ha rfl hk ⟨fun _ => rfl, fun _ _ => rfl⟩
theorem retI {a : Nat} {k : IntKind} {b c : Int} (ha : e a = .int k b) (hk : Kept st s) (hb : b = c) : ∃ rv, resOf e s [.tmp a] = some rv ∧ leave st s rv = (.int k c, st) := by
  subst hb; exact ret1 ha rfl hk ⟨fun _ => rfl, fun _ _ => rfl⟩
theorem ret2 {a b : Nat} {v w : PV} (ha : e a = v) (hb : e b = w) (h1 : notTup v = true) (h2 : notTup w = true) (hk : Kept st s) (hf : Flat (.tup [v, w])) : ∃ rv, resOf e s [.tmp a, .tmp b] = some rv ∧ leave st s rv = (.tup [v, w], st) :=
  ⟨.tup [v, w], by simp [resOf, rvAll, rv1, ha, hb, h1, h2, packRes], hk.leave' hf⟩
theorem retSI {a b : Nat} {t u : List UInt8} {n m : Int} (ha : e a = .str t) (hb : e b = .int .i64 n) (hk : Kept st s) (h1 : t = u) (h2 : n = m) : ∃ rv, resOf e s [.tmp a, .tmp b] = some rv ∧ leave st s rv = (.tup [.str u, .int .i64 m], st) := by
  subst h1 h2; exact ret2 ha hb rfl rfl hk ⟨fun _ => rfl, fun _ _ => rfl⟩
theorem retV2 {a b : Nat} {v w : PV} (ha : e a = v) (hb : e b = w) (h1 : notTup v = true) (h2 : notTup w = true) (hk : Kept st s) (hf : Flat (.tup [v, w])) : ∃ rv, resOf e s [.tmp a, .tmp b] = some rv ∧ leave st s rv = (.tup [v, w], st) :=
  ⟨.tup [v, w], by simp [resOf, rvAll, rv1, ha, hb, h1, h2, packRes], hk.leave' hf⟩
theorem retII {a b : Nat} {k l : IntKind} {t u : Int} {n m : Int} (ha : e a = .int k t) (hb : e b = .int l n) (hk : Kept st s) (h1 : t = u) (h2 : n = m) : ∃ rv, resOf e s [.tmp a, .tmp b] = some rv ∧ leave st s rv = (.tup [.int k u, .int l m], st) := by
  subst h1 h2; exact retV2 ha hb rfl rfl hk ⟨fun _ => rfl, fun _ _ => rfl⟩
theorem retTI {a b : Nat} {t u : List UInt8} {n m : Int} (ha : e a = .str t) (hb : e b = .int .i64 n) (hk : Kept st s) (h1 : t = u) (h2 : n = m) : ∃ rv, resOf e s [.tmp a, .tmp b] = some rv ∧ leave st s rv = (.tup [.str u, .int .i64 m], st) := by
  subst h1 h2; exact retV2 ha hb rfl rfl hk ⟨fun _ => rfl, fun _ _ => rfl⟩
theorem ret2sb {a b : Nat} {t u : List UInt8} {p q : Bool} (ha : e a = .str t) (hb : e b = .bool p) (hk : Kept st s) (h1 : t = u) (h2 : p = q) : ∃ rv, resOf e s [.tmp a, .tmp b] = some rv ∧ leave st s rv = (.tup [.str u, .bool q], st) := by
  subst h1 h2; exact retV2 ha hb rfl rfl hk ⟨fun _ => rfl, fun _ _ => rfl⟩
theorem Kept.box {S : St} {z : List PV} (h : Kept st S) (hbx : S.boxes.length = st.boxes.length + 1) : Kept st ⟨st.boxes ++ [z], S.toks, S.loops, S.low⟩ := ⟨by simp, h.lp, h.lw, h.tk⟩
theorem W_cutR {A : AP} {a b : ACode} {Q : Ex → Env → St → Prop} (M : Env → St → Prop) (h1 : W A a e st (fun x e' s' => (x = .normal ∧ M e' s') ∨ (x = .ret ∧ Q .ret e' s'))) (h2 : ∀ e' s', M e' s' → W A b e' s' Q) : W A (.seq a b) e st Q := by
  rw [qaaz]
  refine W_mono h1 ?_
  rintro x e s (⟨rfl, h⟩ | ⟨rfl, h⟩)
  · exact h2 e s h
  · rw [qbaz]; exact h
theorem Kept.toks {T : List Bool} (h : Kept st s) : Kept st ⟨s.boxes, s.toks ++ T, s.loops, s.low⟩ := by
  refine ⟨h.bx, h.lp, h.lw, ?_⟩
  have h1 := h.tk
  have h2 : st.toks.length ≤ s.toks.length := by have := congrArg List.length h1; simp at this; omega
  simp only [List.take_append_of_le_length h2]
  exact h1
end Go.Ab
/-
  Signs, atoms, labels, names; parts of a text.
-/
namespace Go.Ab
variable {st s : St} {e : Env}

theorem alnum_spec {c : UInt8} : call prog (.fn 134 []) [.b8 c] st = some (.bool (alnC c), st) := by
  refine call_of_W prog_134 ?_
  unfold F_addr_alnum; dsimp only
  have fin : ∀ {E : Env} (b : Bool), E 2 = .bool b → b = alnC c → ∃ rv, resOf E { boxes := st.boxes, toks := st.toks, loops := st.loops, low := st.boxes.length } [.tmp 2] = some rv ∧ leave st { boxes := st.boxes, toks := st.toks, loops := st.loops, low := st.boxes.length } rv = (.bool (alnC c), st) :=
    fun b h hb => retB h Kept.start hb
  simp (maxSteps := 1000000) (disch := omega) only [qaaz, qabz, qacz, qadz, qaez, qagz, qaiz, qajz, qclz, qcmz, qcnz, qcqz, qcrz, qcwz, forall_const, qalz, evOp, qaoz, qapz, qarz, qatz, qavz,
 ↓reduceIte, Nat.reduceEqDiff, List.append_nil, qawz, Option.map_some, qazz, qbaz, qbbz, qbdz, qbez, qbfz, qblz, qbyz, qcaz, decide_eq_true_eq, decide_eq_false_iff_not, Bool.false_eq_true, Bool.true_eq_false, true_and, and_true, reduceCtorEq]
  repeat' (first | refine And.intro ?_ ?_ | intro q)
  all_goals first | exact fin true rfl (by simp only [alnC, *, decide_true, decide_false, Bool.and_true, Bool.and_false, Bool.false_and, Bool.or_true, Bool.true_or, Bool.or_false]) | exact fin false rfl (by simp only [alnC, *, decide_true, decide_false, Bool.and_false, Bool.false_and, Bool.or_false])

theorem signs_neg {c : UInt8} : (Lib.indexByte [33, 35, 36, 37, 38, 39, 42, 43, 45, 47, 61, 63, 94, 95, 123, 124, 125, 126, 96] c < 0) = (signs.contains c = false) := by
  have := all8 (p := fun c => decide (Lib.indexByte [33, 35, 36, 37, 38, 39, 42, 43, 45, 47, 61, 63, 94, 95, 123, 124, 125, 126, 96] c < 0) == !signs.contains c) (by kernel_rfl) c
  simp only [beq_iff_eq] at this
  apply propext
  constructor
  · intro h; simp only [h, decide_true] at this; simpa using this.symm
  · intro h; rw [h] at this; simpa using this

theorem isAtom_spec {l : List UInt8} (hl : l.length ≤ 100000000) : call prog (.fn 125 []) [.str l] st = some (.bool (atomB l), st) := by
  refine call_of_W prog_125 ?_
  unfold F_addr_isAtom; dsimp only
  simp (maxSteps := 1000000) (disch := omega) only [len_s, qaaz, qabz, qadz, qajz, qalz, evOp, qaoz, qapz, qarz, qatz, qavz,
 ↓reduceIte, List.append_nil, qawz, Option.map_some, qazz, reduceCtorEq]
  obtain ⟨I, hI⟩ : ∃ I : Nat → Env → St → Prop, I = fun k e s' => ∃ (i : Nat), k = l.length - i ∧ i ≤ l.length ∧ Kept st s' ∧ (∀ j, j < i → atC (l.getD j 0) = true) ∧ e 0 = .str l ∧ e 5 = .int .i64 (l.length : Int) ∧ e 6 = .int .i64 (i : Int) := ⟨_, rfl⟩
  refine W_loop I ?_ (n := l.length) (by
    rw [hI]
    exact ⟨0, rfl, by omega, Kept.start, fun j h => by omega, rfl, rfl, rfl⟩)
  intro k e s' hh
  rw [hI] at hh
  obtain ⟨i, rfl, hi, hk, hall, h0, h5, h6⟩ := hh
  by_cases hlt : i < l.length
  · obtain ⟨c, hc⟩ : ∃ c, c = l.getD i 0 := ⟨_, rfl⟩
    have bad : atC c = false → ∀ E : Env, E 2 = .bool false → ∃ rv, resOf E s' [.tmp 2] = some rv ∧ leave st s' rv = (.bool (atomB l), st) := fun h E k2 =>
      retB k2 hk (by simp only [atomB, all_bad (p := atC) hlt (by rw [← hc]; exact h), Bool.false_and])
    have next : atC c = true → ∀ E : Env, E 0 = .str l → E 5 = .int .i64 (l.length : Int) → E 6 = .int .i64 ((i + 1 : Nat) : Int) → ∃ m, m < l.length - i ∧ I m E s' := fun h E k0 k5 k6 =>
      ⟨l.length - (i + 1), by omega, by
        rw [hI]
        refine ⟨i + 1, rfl, by omega, hk, fun j hj => ?_, k0, k5, k6⟩
        by_cases hji : j = i
        · subst hji; rw [← hc]; exact h
        · exact hall j (by omega)⟩
    simp (maxSteps := 1000000) (disch := omega) only [h0, h5, h6, hlt, idx_s, ← hc, alnum_spec, strIndexByte_spec, signs_neg, add_n, loopQ_normal, qaaz, qabz, qacz, qadz, qaez, qagz, qaiz, qajz, qclz, qcmz, qcnz, qcqz, qcrz, qcwz, forall_const, Bool.not_eq_false', qalz, evOp, qaoz, qapz, qaqz, qarz, qatz, qavz,
 ↓reduceIte, Nat.reduceEqDiff, List.map_cons, List.map_nil, Option.map_some, qazz, qbaz, qbbz, qbdz, qbez, qbfz, qbiz, qbjz, qblz, qbpz, qccz, qcfz, Bool.not_eq_true', decide_eq_true_eq, decide_eq_false_iff_not, decide_true, Int.toNat_natCast, Int.ofNat_lt, Bool.false_eq_true, Bool.true_eq_false, Int.reduceToNat, true_and, and_true, reduceCtorEq, ne_eq]
    clear hc hall hI
    repeat' (first | refine And.intro ?_ ?_ | intro q)
    all_goals first | exact bad (by simp only [atC, *, Bool.or_true, Bool.true_or, Bool.or_false]) _ rfl | exact next (by simp only [atC, *, Bool.or_true, Bool.true_or]) _ h0 h5 rfl | (exfalso; simp_all; done)
  · obtain rfl : i = l.length := by omega
    simp (maxSteps := 1000000) (disch := omega) only [h0, h5, h6, hlt, qaaz, qabz, qacz, qadz, qaez, qagz, qaiz, qajz, qcrz, qcwz, forall_const, qalz, evOp, qaoz, qapz, qarz, qatz, qavz,
 ↓reduceIte, Nat.reduceEqDiff, Option.map_some, qazz, qbbz, qbfz, qbjz, qblz, qbpz, qccz, decide_false,
 Int.ofNat_lt, Bool.false_eq_true, true_and, reduceCtorEq, ne_eq]
    refine retB rfl hk ?_
    simp only [atomB, all_getD (p := atC) hall, Bool.true_and]
    cases l <;> rfl

theorem isLabel_spec {l : List UInt8} (hl : l.length ≤ 100000000) : call prog (.fn 126 []) [.str l] st = some (.bool (labB l), st) := by
  refine call_of_W prog_126 ?_
  unfold F_addr_isLabel; dsimp only
  simp (maxSteps := 1000000) (disch := omega) only [len_s, qaaz, qabz, qadz, qajz, qalz, evOp, qaoz, qapz, qarz, qatz, qavz,
 ↓reduceIte, List.append_nil, qawz, Option.map_some, qazz, reduceCtorEq]
  obtain ⟨I, hI⟩ : ∃ I : Nat → Env → St → Prop, I = fun k e s' => ∃ (i : Nat), k = l.length - i ∧ i ≤ l.length ∧ Kept st s' ∧ (∀ j, j < i → labC (l.getD j 0) = true) ∧ e 0 = .str l ∧ e 5 = .int .i64 (l.length : Int) ∧ e 6 = .int .i64 (i : Int) := ⟨_, rfl⟩
  refine W_loop I ?_ (n := l.length) (by
    rw [hI]
    exact ⟨0, rfl, by omega, Kept.start, fun j h => by omega, rfl, rfl, rfl⟩)
  intro k e s' hh
  rw [hI] at hh
  obtain ⟨i, rfl, hi, hk, hall, h0, h5, h6⟩ := hh
  by_cases hlt : i < l.length
  · obtain ⟨c, hc⟩ : ∃ c, c = l.getD i 0 := ⟨_, rfl⟩
    have bad : labC c = false → ∀ E : Env, E 2 = .bool false → ∃ rv, resOf E s' [.tmp 2] = some rv ∧ leave st s' rv = (.bool (labB l), st) := fun h E k2 =>
      retB k2 hk (by simp only [labB, all_bad (p := labC) hlt (by rw [← hc]; exact h), Bool.false_and])
    have next : labC c = true → ∀ E : Env, E 0 = .str l → E 5 = .int .i64 (l.length : Int) → E 6 = .int .i64 ((i + 1 : Nat) : Int) → ∃ m, m < l.length - i ∧ I m E s' := fun h E k0 k5 k6 =>
      ⟨l.length - (i + 1), by omega, by
        rw [hI]
        refine ⟨i + 1, rfl, by omega, hk, fun j hj => ?_, k0, k5, k6⟩
        by_cases hji : j = i
        · subst hji; rw [← hc]; exact h
        · exact hall j (by omega)⟩
    simp (maxSteps := 1000000) (disch := omega) only [h0, h5, h6, hlt, idx_s, ← hc, alnum_spec, add_n, loopQ_normal, qaaz, qabz, qacz, qadz, qaez, qagz, qaiz, qajz, qclz, qcmz, qcnz, qcqz, qcrz, qcwz, Decidable.not_not, forall_const, Bool.not_eq_false', qalz, evOp, qaoz, qapz, qaqz, qarz, qatz, qavz,
 ↓reduceIte, Nat.reduceEqDiff, List.map_cons, List.map_nil, Option.map_some, qazz, qbaz, qbbz, qbdz, qbez, qbfz, qbiz, qbjz, qblz, qbpz, qbwz, qccz, qcfz, Bool.not_eq_true', decide_eq_true_eq, decide_eq_false_iff_not, decide_true, Int.toNat_natCast, Int.ofNat_lt, Bool.false_eq_true, Bool.true_eq_false, Int.reduceToNat, true_and, and_true, reduceCtorEq, ne_eq]
    clear hc hall hI
    repeat' (first | refine And.intro ?_ ?_ | intro q)
    all_goals first | exact bad (by simp only [labC, *, decide_true, decide_false, Bool.or_true, Bool.true_or, Bool.or_false]) _ rfl | exact next (by simp only [labC, *, decide_true, Bool.or_true, Bool.true_or]) _ h0 h5 rfl | (exfalso; simp_all; done)
  · obtain rfl : i = l.length := by omega
    have ha := all_getD (p := labC) hall
    by_cases hn : l = []
    · simp (maxSteps := 1000000) (disch := omega) only [h0, h5, h6, hlt, eq_true hn, qaaz, qabz, qacz, qadz, qaez, qagz, qaiz, qajz, qclz, qcmz, qcnz, qcqz, qcrz, qcwz, forall_const, qalz, evOp, qaoz, qapz, qarz, qatz, qavz,
 ↓reduceIte, Nat.reduceEqDiff, Option.map_some, qazz, qbbz, qbfz, qbjz, qblz, qbpz, qccz, decide_false,
 Int.ofNat_lt, Bool.false_eq_true, Bool.true_eq_false, true_and, and_true, reduceCtorEq, ne_eq, not_true_eq_false]
      exact retB rfl hk (by simp [labB, hn])
    · have hp := List.length_pos_iff.2 hn
      have hsub : ∀ ek, binPV .sub ek (.int .i64 (l.length : Int)) (.int .i64 1) = some (.int .i64 ((l.length - 1 : Nat) : Int)) := fun ek => by
        rw [sub_n (by omega) (by simp; omega) (by omega)]; rfl
      have he : l.isEmpty = false := by cases l with | nil => exact absurd rfl hn | cons a r => rfl
      by_cases h63 : l.length ≤ 63
      · have e63 : (l.length : Int) ≤ 63 := by omega
        simp (maxSteps := 1000000) (disch := omega) only [h0, h5, h6, hlt, hn, len_s, idx_s, hsub, e63, qaaz, qabz, qacz, qadz, qaez, qagz, qaiz, qajz, qclz, qcmz, qcnz, qcqz, qcrz, qcwz, Decidable.not_not, forall_const, qalz, evOp, qaoz, qapz, qarz, qatz, qavz,
 ↓reduceIte, Nat.reduceEqDiff, Option.map_some, qazz, qbbz, qbfz, qbjz, qblz, qbpz, qbqz, qbwz, qccz, decide_eq_true_eq, decide_eq_false_iff_not, decide_true, decide_false,
 Int.toNat_natCast, Int.ofNat_lt, Bool.false_eq_true, Bool.true_eq_false, Int.reduceToNat, true_and, and_true, reduceCtorEq, ne_eq, not_false_eq_true]
        clear hall hI h0 h5 h6
        repeat' (first | refine And.intro ?_ ?_ | intro q)
        all_goals exact retB rfl hk (by simp only [labB, *, decide_not, decide_true, decide_false, Bool.and_true, Bool.true_and, Bool.and_false, Bool.false_and, Bool.not_true, Bool.not_false])
      · have e63 : ¬ (l.length : Int) ≤ 63 := by omega
        simp (maxSteps := 1000000) (disch := omega) only [h0, h5, h6, hlt, hn, len_s, idx_s, hsub, e63, qaaz, qabz, qacz, qadz, qaez, qagz, qaiz, qajz, qclz, qcmz, qcnz, qcqz, qcrz, qcwz, Decidable.not_not, forall_const, qalz, evOp, qaoz, qapz, qarz, qatz, qavz,
 ↓reduceIte, Nat.reduceEqDiff, Option.map_some, qazz, qbbz, qbfz, qbjz, qblz, qbpz, qbqz, qbwz, qccz, decide_eq_true_eq, decide_eq_false_iff_not, decide_true, decide_false,
 Int.toNat_natCast, Int.ofNat_lt, Bool.false_eq_true, Bool.true_eq_false, Int.reduceToNat, true_and, and_true, reduceCtorEq, ne_eq, not_false_eq_true]
        exact retB rfl hk (by simp only [labB, h63, decide_false, Bool.and_false, Bool.false_and])

theorem isNm_spec {l : List UInt8} (hl : l.length ≤ 100000000) : call prog (.fn 127 []) [.str l] st = some (.bool (nmA l), st) := by
  refine call_of_W prog_127 ?_
  unfold F_addr_isName; dsimp only
  simp (maxSteps := 1000000) (disch := omega) only [len_s, qaaz, qabz, qadz, qajz, qalz, evOp, qaoz, qapz, qarz, qatz, qavz,
 ↓reduceIte, List.append_nil, qawz, Option.map_some, qazz, reduceCtorEq]
  obtain ⟨I, hI⟩ : ∃ I : Nat → Env → St → Prop, I = fun k e s' => ∃ (i : Nat), k = l.length - i ∧ i ≤ l.length ∧ Kept st s' ∧ (∀ j, j < i → prC (l.getD j 0) = true) ∧ e 0 = .str l ∧ e 5 = .int .i64 (l.length : Int) ∧ e 6 = .int .i64 (i : Int) := ⟨_, rfl⟩
  refine W_loop I ?_ (n := l.length) (by
    rw [hI]
    exact ⟨0, rfl, by omega, Kept.start, fun j h => by omega, rfl, rfl, rfl⟩)
  intro k e s' hh
  rw [hI] at hh
  obtain ⟨i, rfl, hi, hk, hall, h0, h5, h6⟩ := hh
  by_cases hlt : i < l.length
  · obtain ⟨c, hc⟩ : ∃ c, c = l.getD i 0 := ⟨_, rfl⟩
    have bad : prC c = false → ∀ E : Env, E 2 = .bool false → ∃ rv, resOf E s' [.tmp 2] = some rv ∧ leave st s' rv = (.bool (nmA l), st) := fun h E k2 =>
      retB k2 hk (by simp only [nmA, all_bad (p := prC) hlt (by rw [← hc]; exact h), Bool.false_and])
    have next : prC c = true → ∀ E : Env, E 0 = .str l → E 5 = .int .i64 (l.length : Int) → E 6 = .int .i64 ((i + 1 : Nat) : Int) → ∃ m, m < l.length - i ∧ I m E s' := fun h E k0 k5 k6 =>
      ⟨l.length - (i + 1), by omega, by
        rw [hI]
        refine ⟨i + 1, rfl, by omega, hk, fun j hj => ?_, k0, k5, k6⟩
        by_cases hji : j = i
        · subst hji; rw [← hc]; exact h
        · exact hall j (by omega)⟩
    simp (maxSteps := 1000000) (disch := omega) only [h0, h5, h6, hlt, idx_s, ← hc, add_n, loopQ_normal, qaaz, qabz, qacz, qadz, qaez, qagz, qaiz, qajz, qclz, qcmz, qcoz, qcpz, qcrz, qcwz, forall_const, qalz, evOp, qaoz, qapz, qarz, qatz, qavz,
 ↓reduceIte, Nat.reduceEqDiff, Option.map_some, qazz, qbaz, qbbz, qbdz, qbez, qbfz, qbiz, qbjz, qblz, qbpz, qbxz, qbzz, decide_eq_true_eq, decide_eq_false_iff_not, decide_true, Int.toNat_natCast, Int.ofNat_lt, Bool.false_eq_true, Bool.true_eq_false, Int.reduceToNat, true_and, and_true, reduceCtorEq]
    clear hc hall hI
    repeat' (first | refine And.intro ?_ ?_ | intro q)
    all_goals first | exact bad (by simp only [prC, *, decide_true, decide_false, Bool.and_true, Bool.and_false, Bool.false_and, Bool.not_true, Bool.not_false]) _ rfl | exact next (by simp only [prC, *, decide_false, Bool.and_true, Bool.not_false]) _ h0 h5 rfl
  · obtain rfl : i = l.length := by omega
    simp (maxSteps := 1000000) (disch := omega) only [h0, h5, h6, hlt, len_s, qaaz, qabz, qacz, qadz, qaez, qagz, qaiz, qajz, qcrz, qcwz, forall_const, qalz, evOp, qaoz, qapz, qarz, qatz, qavz,
 ↓reduceIte, Nat.reduceEqDiff, Option.map_some, qazz, qbbz, qbfz, qbjz, qblz, qbpz, qbqz, decide_false,
 Int.ofNat_lt, Bool.false_eq_true, true_and, reduceCtorEq]
    refine retB rfl hk ?_
    simp only [nmA, all_getD (p := prC) hall, Bool.true_and]
    by_cases h : l.length ≤ 128
    · rw [decide_eq_true h, decide_eq_true (by omega)]
    · rw [decide_eq_false h, decide_eq_false (by omega)]
end Go.Ab
/-
  What may be an address; its normal form; an address without a name.
-/
namespace Go.Ab
variable {st s : St} {e : Env}

theorem split_len {sep : UInt8} : ∀ (l acc : Bs), ∀ x ∈ splitOn sep acc l, x.length ≤ acc.length + l.length := by
  intro l
  induction l with
  | nil => intro acc x hx; simp [splitOn] at hx; subst hx; simp
  | cons d r ih =>
    intro acc x hx
    simp only [splitOn] at hx
    split at hx
    · rcases List.mem_cons.1 hx with rfl | hx
      · simp
      · have := ih [] x hx; simp at this ⊢; omega
    · have := ih (acc ++ [d]) x hx; simp at this ⊢; omega
theorem split_num {sep : UInt8} : ∀ (l acc : Bs), (splitOn sep acc l).length ≤ l.length + 1 := by
  intro l
  induction l with
  | nil => intro acc; simp [splitOn]
  | cons d r ih =>
    intro acc
    simp only [splitOn]
    split
    · have := ih []; simp; omega
    · have := ih (acc ++ [d]); simp; omega
theorem Split_spec {l : Bs} {c : UInt8} (hl : l.length ≤ 100000000) : call prog (.fn 133 []) [.str l, .str [c]] st = some (.sl 1 .no ((splitOn c [] l).map .str), st) := by
  rw [call_prim prog_133]
  simp [pStrSplit]
  omega
theorem iaddr_t {x : PV} {xs : List Bs} {k : IntKind} {c : Int} (h : x.vs 1 = some (xs.map .str)) (h1 : 0 ≤ c) (h2 : c.toNat < xs.length) : iaddrPV 1 x (.int k c) = some (.cp [.str (xs.getD c.toNat [])]) := by
  rw [iaddr_vs h h1 (by simpa using h2)]
  simp [List.getD, h2, PV.cells]
theorem all_getD' {p : Bs → Bool} {xs : List Bs} (h : ∀ j, j < xs.length → p (xs.getD j []) = true) : xs.all p = true := by
  rw [List.all_eq_true]
  intro x hx
  obtain ⟨i, hi, rfl⟩ := List.mem_iff_getElem.1 hx
  have := h i hi
  simpa [List.getD, hi] using this
theorem all_bad' {p : Bs → Bool} {xs : List Bs} {j : Nat} (hj : j < xs.length) (h : p (xs.getD j []) = false) : xs.all p = false := by
  rw [List.all_eq_false]
  exact ⟨xs.getD j [], by simp [List.getD, hj], by rw [h]; simp⟩

theorem parts_spec {l : Bs} {c : UInt8} {f : Nat} {p : Bs → Bool} (hl : l.length ≤ 100000000) (hf : ∀ (S : St) (x : Bs), x.length ≤ 100000000 → call prog (.fn f []) [.str x] S = some (.bool (p x), S)) :
    call prog (.fn 124 []) [.str l, .str [c], .fn f []] st = some (.bool (partsB c p l), st) := by
  refine call_of_W prog_124 ?_
  unfold F_addr_parts; dsimp only
  obtain ⟨xs, hxs⟩ : ∃ xs, xs = splitOn c [] l := ⟨_, rfl⟩
  have hsp : ∀ S : St, call prog (.fn 133 []) [.str l, .str [c]] S = some (.sl 1 .no (xs.map .str), S) := fun S => by rw [hxs]; exact Split_spec hl
  have hlen : lenPV false (.sl 1 .no (xs.map .str)) = some (.int .i64 (xs.length : Int)) := by simp [lenPV]
  have hvs : (PV.sl 1 .no (xs.map .str)).vs 1 = some (xs.map .str) := by simp [PV.vs]
  have hp : partsB c p l = xs.all p := by rw [hxs]; rfl
  have hxl : ∀ j, j < xs.length → (xs.getD j []).length ≤ 100000000 := fun j hj => by
    have hm : xs.getD j [] ∈ splitOn c [] l := by rw [← hxs]; simp [List.getD, hj]
    have := split_len l [] _ hm
    simp at this ⊢; omega
  have hnum : xs.length ≤ 100000001 := by
    have := split_num (sep := c) l []
    rw [← hxs] at this; omega
  rw [hp]
  simp (maxSteps := 1000000) (disch := omega) only [hsp, hlen, qaaz, qabz, qadz, qajz, qalz, evOp, qaoz, qapz, qaqz, qarz, qatz, qavz,
 ↓reduceIte, Nat.reduceEqDiff, List.append_nil, List.map_cons, List.map_nil, qawz, qaxz, Option.map_some, qazz, reduceCtorEq]
  obtain ⟨I, hI⟩ : ∃ I : Nat → Env → St → Prop, I = fun k e s' => ∃ (i : Nat), k = xs.length - i ∧ i ≤ xs.length ∧ Kept st s' ∧ (∀ j, j < i → p (xs.getD j []) = true) ∧ e 2 = .fn f [] ∧ e 11 = .sl 1 .no (xs.map .str) ∧ e 12 = .int .i64 (xs.length : Int) ∧ e 13 = .int .i64 (i : Int) := ⟨_, rfl⟩
  refine W_loop I ?_ (n := xs.length) (by
    rw [hI]
    exact ⟨0, rfl, by omega, Kept.start, fun j h => by omega, rfl, rfl, rfl, rfl⟩)
  intro k e s' hh
  rw [hI] at hh
  obtain ⟨i, rfl, hi, hk, hall, h2, h11, h12, h13⟩ := hh
  by_cases hlt : i < xs.length
  · obtain ⟨x, hx⟩ : ∃ x, x = xs.getD i [] := ⟨_, rfl⟩
    have hfx := fun S : St => hf S x (by rw [hx]; exact hxl i hlt)
    cases hpx : p x with
    | false =>
      rw [hpx] at hfx
      simp (maxSteps := 1000000) (disch := omega) only [h2, h11, h12, h13, hlt, iaddr_t hvs, ← hx, qciz, hfx, qaaz, qabz, qacz, qadz, qaez, qagz, qaiz, qajz, qcrz, qcwz, forall_const, qalz, evOp, qaoz, qapz, qarz, qatz, qavz,
 ↓reduceIte, Nat.reduceEqDiff, List.map_cons, List.map_nil, Option.map_some, qazz, qbaz, qbbz, qbdz, qbez, qbfz, qbiz, qbjz, qblz, qbpz, qcfz, qciz, decide_true, Int.toNat_natCast, Int.ofNat_lt, Bool.true_eq_false, and_true, Bool.not_false]
      exact retB rfl hk (all_bad' hlt (by rw [← hx]; exact hpx)).symm
    | true =>
      rw [hpx] at hfx
      simp (maxSteps := 1000000) (disch := omega) only [h2, h11, h12, h13, hlt, iaddr_t hvs, ← hx, qciz, hfx, add_n, qaaz, qabz, qacz, qadz, qaez, qagz, qaiz, qajz, qcrz, qcwz, forall_const, qalz, evOp, qaoz, qapz, qarz, qatz, qavz,
 ↓reduceIte, Nat.reduceEqDiff, List.map_cons, List.map_nil, Option.map_some, qazz, qbaz, qbbz, qbdz, qbez, qbfz, qbiz, qbjz, qblz, qbpz, qcfz, qciz, decide_true, Int.toNat_natCast, Int.ofNat_lt, Bool.false_eq_true, Bool.true_eq_false, Int.reduceToNat, true_and, and_true, Bool.not_true]
      refine loopQ_intro (m := xs.length - (i + 1)) (by omega) ?_
      rw [hI]
      refine ⟨i + 1, rfl, by omega, hk, fun j hj => ?_, h2, h11, h12, rfl⟩
      by_cases hji : j = i
      · subst hji; rw [← hx]; exact hpx
      · exact hall j (by omega)
  · obtain rfl : i = xs.length := by omega
    simp (maxSteps := 1000000) (disch := omega) only [h11, h12, h13, hlt, qaaz, qabz, qacz, qadz, qaez, qagz, qaiz, qajz, qcrz, qcwz, forall_const, qalz, evOp, qaoz, qapz, qarz, qatz, qavz,
 ↓reduceIte, Nat.reduceEqDiff, Option.map_some, qazz, qbbz, qbfz, qbjz, qblz, qbpz, decide_false,
 Int.ofNat_lt, Bool.false_eq_true, true_and]
    exact retB rfl hk (all_getD' hall).symm

theorem atoms_spec {l : Bs} {c : UInt8} (hl : l.length ≤ 100000000) : call prog (.fn 124 []) [.str l, .str [c], .fn 125 []] st = some (.bool (partsB c atomB l), st) :=
  parts_spec hl (fun S x hx => isAtom_spec hx)
theorem labels_spec {l : Bs} {c : UInt8} (hl : l.length ≤ 100000000) : call prog (.fn 124 []) [.str l, .str [c], .fn 126 []] st = some (.bool (partsB c labB l), st) :=
  parts_spec hl (fun S x hx => isLabel_spec hx)

variable {B : List (List PV)} {T : List Bool} {L : List LoopS} {lo : Nat} {a b c : Bs}
abbrev cA (a b c : Bs) : List PV := [.str a, .str b, .str c]
theorem inB_a {m : Nat} : (PV.agg [.str a, .str b, .str c]).inB m = true := rfl
theorem all_a : List.all [PV.str a, .str b, .str c] leafOk = true := rfl
theorem ld_a0 : loadPV ⟨B ++ [cA a b c], T, L, lo⟩ false 1 (.ptr B.length 0) = some (.str a) := by simp [loadPV, readCells]
theorem ld_a1 : loadPV ⟨B ++ [cA a b c], T, L, lo⟩ false 1 (.ptr B.length 1) = some (.str b) := by simp [loadPV, readCells]
theorem ld_a2 : loadPV ⟨B ++ [cA a b c], T, L, lo⟩ false 1 (.ptr B.length 2) = some (.str c) := by simp [loadPV, readCells]
theorem ld_aa : loadPV ⟨B ++ [cA a b c], T, L, lo⟩ true 3 (.ptr B.length 0) = some (.agg (cA a b c)) := by simp [loadPV, readCells]
theorem st_aa {a' b' c' : Bs} : storePV ⟨B ++ [cA a b c], T, L, lo⟩ 3 (.ptr B.length 0) (.agg (cA a' b' c')) = some ⟨B ++ [cA a' b' c'], T, L, lo⟩ := by
  simp [storePV, PV.cells, PV.inB, PV.inB.inBAll, setCells, hasTok, tokOf, leafOk]
theorem cells_agg {cs : List PV} : (PV.agg cs).cells = cs := rfl
theorem Kept.box1 {z : List PV} : Kept st ⟨st.boxes ++ [z], st.toks, st.loops, st.boxes.length⟩ := Kept.start.alloc

structure okA (a : Adr) : Prop where
  n : a.1.length ≤ 100000000
  l : a.2.1.length ≤ 100000000
  d : a.2.2.length ≤ 100000000

theorem Right_spec {a : Adr} (h : okA a) : call prog (.fn 111 []) [aV a] st = some (.bool (rightA a), st) := by
  refine call_of_W prog_111 ?_
  unfold F_addr_Right; dsimp only
  obtain ⟨n, l, d⟩ := a
  have hn := h.n; have hl := h.l; have hd := h.d
  simp only at hn hl hd
  have e64 : ((l.length : Int) ≤ 64) = (l.length ≤ 64) := by apply propext; omega
  have e253 : ((d.length : Int) ≤ 253) = (d.length ≤ 253) := by apply propext; omega
  have hA := fun S : St => atoms_spec (st := S) (c := 46) hl
  have hD := fun S : St => labels_spec (st := S) (c := 46) hd
  have hN := fun S : St => isNm_spec (st := S) hn
  simp (maxSteps := 1000000) (disch := omega) only [aV, inB_a, all_a, allocPV, cells_agg, faP, Nat.zero_add, ld_a0, ld_a1, ld_a2, len_s, e64, e253, hA, hD, hN, qaaz, qabz, qaiz, qajz, qclz, qcmz, qcnz, qcqz, qcwz, forall_const, and_self, qalz, evOp, qaoz, qapz, qaqz, qarz, qatz, qavz,
 ↓reduceIte, Nat.reduceEqDiff, List.append_nil, List.map_cons, List.map_nil, qawz, Option.map_some, qazz, qblz, qbqz, decide_eq_true_eq, decide_eq_false_iff_not, Bool.false_eq_true, Bool.true_eq_false, true_and, and_true]
  clear hA hD hN
  repeat' (first | refine And.intro ?_ ?_ | intro q)
  all_goals exact retB rfl Kept.box1 (by simp only [rightA, *, decide_true, decide_false, Bool.and_true, Bool.true_and, Bool.and_false, Bool.false_and])

def bst2 (st : St) (z : List PV) (l : Bs) : St := ⟨(st.boxes ++ [z]) ++ [l.map PV.b8], st.toks, st.loops, st.boxes.length⟩
theorem load_bst2 {z : List PV} {l : Bs} {i : Nat} (h : i < l.length) : loadPV (bst2 st z l) false 1 (.ptr (st.boxes.length + 1) i) = some (.b8 (l.getD i 0)) := by
  have hg : (st.boxes ++ [z] ++ [l.map PV.b8])[st.boxes.length + 1]? = some (l.map PV.b8) := by
    rw [List.getElem?_append_right (by simp)]; simp
  simp only [loadPV, bst2, hg]
  rw [← List.map_drop, drop_getD h]; rfl
theorem store_bst2 {z : List PV} {l : Bs} {i : Nat} {c : UInt8} (h : i < l.length) : storePV (bst2 st z l) 1 (.ptr (st.boxes.length + 1) i) (.b8 c) = some (bst2 st z (l.set i c)) := by
  have hg : (st.boxes ++ [z] ++ [l.map PV.b8])[st.boxes.length + 1]? = some (l.map PV.b8) := by
    rw [List.getElem?_append_right (by simp)]; simp
  have hs : ∀ y, (st.boxes ++ [z] ++ [l.map PV.b8]).set (st.boxes.length + 1) y = st.boxes ++ [z] ++ [y] := fun y => by
    rw [List.set_append_right _ _ (by simp)]; simp
  have h2 : i + 1 ≤ l.length := by omega
  simp only [storePV, bst2, hg, PV.cells]
  simp [h2, PV.inB, leafOk, setCells, hasTok, tokOf, List.map_set]
theorem b2s_bst2 {z : List PV} {l : Bs} {n : Nat} (h : n = l.length) : b2s true (bst2 st z l) (.ms (st.boxes.length + 1) 0 n) = some l := by
  subst h
  have hg : (st.boxes ++ [z] ++ [l.map PV.b8])[st.boxes.length + 1]? = some (l.map PV.b8) := by
    rw [List.getElem?_append_right (by simp)]; simp
  simp only [b2s, if_true, src8, bst2, hg]
  rw [if_pos (by simp), List.drop_zero, List.take_of_length_le (by simp), bytesOf_map]
theorem Kept.bst2 {z : List PV} {l : Bs} : Kept st (bst2 st z l) := by
  have := (Kept.box1 (st := st) (z := z)).alloc (z := l.map PV.b8)
  exact this

theorem aPlain_spec {s : Bs} (h : s.length ≤ 100000000) : call prog (.fn 115 []) [.str s] st = some (.tup [aV (plainA s).1, .int .i64 (plainA s).2], st) := by
  refine call_of_W prog_115 ?_
  unfold F_addr_Plain; dsimp only
  have hcut : ∀ S : St, call prog (.fn 128 []) [.str s, .str [64]] S = some (cutAt s [64], S) := fun S => Cut_spec (by omega) (by simp)
  obtain ⟨a, ha⟩ : ∃ a, a = cutA s := ⟨_, rfl⟩
  obtain ⟨t, hct⟩ : ∃ t, cutAt s [64] = .tup [.str a.2.1, .str a.2.2, .bool t] := by
    rw [ha]
    unfold cutAt cutA
    split
    · exact ⟨true, rfl⟩
    · exact ⟨false, rfl⟩
  have ha1 : a.1 = [] := by rw [ha]; unfold cutA; split <;> rfl
  have hok : okA a := by
    rw [ha]
    unfold cutA
    split
    · exact ⟨by simp, by simp; omega, by simp; omega⟩
    · exact ⟨by simp, h, by simp⟩
  rw [hct] at hcut
  obtain ⟨n, l, d⟩ := a
  simp only at ha1 hcut
  subst ha1
  have hR := fun S : St => Right_spec (st := S) hok
  simp only [aV] at hR
  have hbuild : buildCells [.str [], .str [], .str []] [(1, 1, .str l), (2, 1, .str d)] = some (cA [] l d) := rfl
  have hb0 : buildCells [.str [], .str [], .str []] [] = some (cA [] [] []) := rfl
  have hlen1 : (st.boxes ++ [cA [] [] []]).length = st.boxes.length + 1 := by simp
  have hs2 : ∀ T L lo, storePV ⟨st.boxes ++ [cA [] [] []] ++ [cA [] [] []], T, L, lo⟩ 3 (.ptr (st.boxes.length + 1) 0) (.agg (cA [] l d)) = some ⟨st.boxes ++ [cA [] [] []] ++ [cA [] l d], T, L, lo⟩ := fun T L lo => by
    have := st_aa (B := st.boxes ++ [cA [] [] []]) (T := T) (L := L) (lo := lo) (a := []) (b := []) (c := []) (a' := []) (b' := l) (c' := d)
    rw [hlen1] at this; exact this
  have hl2 : ∀ x T L lo, loadPV ⟨st.boxes ++ [x] ++ [cA [] l d], T, L, lo⟩ true 3 (.ptr (st.boxes.length + 1) 0) = some (.agg (cA [] l d)) := fun x T L lo => by
    have := ld_aa (B := st.boxes ++ [x]) (T := T) (L := L) (lo := lo) (a := []) (b := l) (c := d)
    simpa using this
  have hs0 : ∀ (x y z : Bs) (w : List PV) T L lo, storePV ⟨st.boxes ++ [cA [] [] []] ++ [w], T, L, lo⟩ 3 (.ptr st.boxes.length 0) (.agg (cA x y z)) = some ⟨st.boxes ++ [cA x y z] ++ [w], T, L, lo⟩ := fun x y z w T L lo => by
    simp [storePV, PV.cells, PV.inB, PV.inB.inBAll, setCells, hasTok, tokOf, leafOk]
  have fin : ∀ (E : Env) (x y z : Bs) (w : List PV) (c : Int), E 2 = .ptr st.boxes.length 0 → E 3 = .int .i64 c → plainA s = ((x, y, z), c) →
      ∃ rv, resOf E ⟨st.boxes ++ [cA x y z] ++ [w], st.toks, st.loops, st.boxes.length⟩ [.cell 2 true 3, .tmp 3] = some rv ∧ leave st ⟨st.boxes ++ [cA x y z] ++ [w], st.toks, st.loops, st.boxes.length⟩ rv = (.tup [aV (plainA s).1, .int .i64 (plainA s).2], st) := by
    intro E x y z w c k2 k3 hp
    have hk : Kept st ⟨st.boxes ++ [cA x y z] ++ [w], st.toks, st.loops, st.boxes.length⟩ := (Kept.box1 (st := st) (z := cA x y z)).alloc
    refine ⟨.tup [.agg (cA x y z), .int .i64 c], ?_, ?_⟩
    · simp [resOf, rvAll, rv1, k2, k3, loadPV, readCells, notTup, packRes]
    · rw [hp]; exact hk.leave rfl (fun _ _ => rfl)
  cases hr : rightA ([], l, d) with
  | true =>
    rw [hr] at hR
    simp (maxSteps := 1000000) (disch := omega) only [allocPV, hcut, hbuild, hlen1, hs2, hl2, hR, hs0, qaaz, qabz, qacz, qaez, qaiz, qajz, qcrz, qcwz, forall_const, qalz, evOp, qaoz, qapz, qaqz, qarz, qatz, qauz, qavz,
 ↓reduceIte, Nat.reduceEqDiff, List.append_nil, List.map_cons, List.map_nil, qawz, Option.map_some, qazz, qblz, qcfz, Bool.false_eq_true, qcjz, List.getElem?_cons_zero, List.getElem?_cons_succ, true_and, reduceCtorEq, Bool.not_true]
    exact fin _ [] l d _ 0 rfl rfl (by simp [plainA, ← ha, hr])
  | false =>
    rw [hr] at hR
    simp (maxSteps := 1000000) (disch := omega) only [allocPV, hcut, hbuild, hb0, hlen1, hs2, hl2, hR, hs0, qaaz, qabz, qacz, qaez, qaiz, qajz, qcrz, qcwz, forall_const, qalz, evOp, qaoz, qapz, qaqz, qarz, qatz, qauz, qavz,
 ↓reduceIte, Nat.reduceEqDiff, List.append_nil, List.map_cons, List.map_nil, qawz, Option.map_some, qazz, qbaz, qblz, qcfz, Bool.true_eq_false, qcjz, List.getElem?_cons_zero, List.getElem?_cons_succ, and_true, reduceCtorEq, Bool.not_false]
    exact fin _ [] [] [] _ 60 rfl rfl (by simp [plainA, ← ha, hr, noA])
end Go.Ab
/-
  Layer 20: what must come of fixed calls; weekdays.
-/
namespace Go.Ab
set_option maxRecDepth 20000
variable {st s : St} {e : Env}

def wkOf (d : Int) : Int × Int := if d < 0 ∨ 2932896 < d then (0, 110) else ((d + 3) % 7, 0)
theorem rem_i {k : IntKind} {ek : EK} {a : Int} {c : Int} (h : c ≠ 0) : binPV .rem ek (.int k a) (.int k c) = some (.int k (a.tmod c)) := by simp [binPV, binI, h]
theorem quo_i {ek : EK} {a : Int} {c : Int} (h : 0 < c) (h1 : -9223372036854775808 < a) (h2 : a < 9223372036854775808) : binPV .quo ek (.int .i64 a) (.int .i64 c) = some (.int .i64 (a.tdiv c)) := by
  have h3 : c ≠ 0 := by omega
  simp only [binPV, binI, reduceIte, h3, Option.some.injEq]
  have : (a.tdiv c).natAbs ≤ a.natAbs := by rw [Int.natAbs_tdiv]; exact Nat.div_le_self _ _
  rw [wrap64 (by omega) (by omega)]

theorem Weekday_spec {d : Int} : call prog (.fn 258 []) [.int .i64 d] st = some (.tup [.int .i64 (wkOf d).1, .int .i64 (wkOf d).2], st) := by
  refine call_of_W prog_258 ?_
  unfold F_date_Weekday; dsimp only
  by_cases h : d < 0 ∨ 2932896 < d
  · have e1 : wkOf d = (0, 110) := by simp [wkOf, h]
    rw [e1]
    by_cases h1 : d < 0
    · simp (maxSteps := 1000000) (disch := omega) only [h1, qaaz, qabz, qacz, qaiz, qajz, qakz, qalz, qamz, qanz, evOp, qaoz, qapz, qarz, qatz, qavz,
 ↓reduceIte, Nat.reduceEqDiff, List.append_nil, qawz, Option.map_some, qazz, qbaz, qbhz, qblz, qbpz, beq_false, decide_true, Bool.false_eq_true, reduceCtorEq, Bool.not_true]
      exact retII rfl rfl Kept.start rfl rfl
    · have h2 : 2932896 < d := by omega
      simp (maxSteps := 1000000) (disch := omega) only [h1, h2, qaaz, qabz, qacz, qaiz, qajz, qakz, qalz, qamz, qanz, evOp, qaoz, qapz, qarz, qatz, qavz,
 ↓reduceIte, Nat.reduceEqDiff, List.append_nil, qawz, Option.map_some, qazz, qbaz, qbhz, qblz, qbpz, qbrz, beq_false, decide_true, decide_false,
 Bool.false_eq_true, reduceCtorEq, Bool.not_false]
      exact retII rfl rfl Kept.start rfl rfl
  · have e1 : wkOf d = ((d + 3) % 7, 0) := by simp [wkOf, h]
    rw [e1]
    have h1 : ¬ d < 0 := by omega
    have h2 : ¬ 2932896 < d := by omega
    simp (maxSteps := 1000000) (disch := omega) only [h1, h2, add_i, rem_i, Int.tmod_eq_emod_of_nonneg (show 0 ≤ d + 3 by omega), qaaz, qabz, qacz, qaez, qaiz, qajz, qakz, qalz, qamz, qanz, evOp, qaoz, qapz, qarz, qatz, qavz,
 ↓reduceIte, Nat.reduceEqDiff, List.append_nil, qawz, Option.map_some, qazz, qbhz, qblz, qbpz, qbrz, beq_false, decide_false,
 Bool.false_eq_true, reduceCtorEq, Bool.not_false]
    exact retII rfl rfl Kept.start rfl rfl

end Go.Ab
/-
  Ids are written.
-/
namespace Go.Ab
set_option maxRecDepth 20000
variable {st s : St} {e : Env}

theorem Right_w {t : Int} : call prog (.fn 199 []) [.int .i64 t] st = some (.bool (decide (0 ≤ t ∧ t ≤ 253402300799)), st) := by
  refine call_of_W prog_199 ?_
  unfold F_when_Right; dsimp only
  by_cases h1 : 0 ≤ t
  · by_cases h2 : t ≤ 253402300799
    · simp (maxSteps := 1000000) (disch := omega) only [h1, h2, qaaz, qabz, qaiz, qajz, qakz, qalz, qamz, qanz, evOp, qaoz, qapz, qarz, qatz, qavz,
 ↓reduceIte, Nat.reduceEqDiff, List.append_nil, qawz, Option.map_some, qazz, qblz, qbqz, qbsz, beq_true, decide_true, and_true, reduceCtorEq]
      exact retB rfl Kept.start (by simp [])
    · simp (maxSteps := 1000000) (disch := omega) only [h1, h2, qaaz, qabz, qaiz, qajz, qakz, qalz, qamz, qanz, evOp, qaoz, qapz, qarz, qatz, qavz,
 ↓reduceIte, Nat.reduceEqDiff, List.append_nil, qawz, Option.map_some, qazz, qblz, qbqz, qbsz, beq_true, decide_true, decide_false,
 true_and, reduceCtorEq]
      exact retB rfl Kept.start (by simp [])
  · simp (maxSteps := 1000000) (disch := omega) only [h1, qaaz, qabz, qaiz, qajz, qakz, qalz, qamz, qanz, evOp, qaoz, qapz, qarz, qatz, qavz,
 ↓reduceIte, Nat.reduceEqDiff, List.append_nil, qawz, Option.map_some, qazz, qblz, qbsz, beq_true, decide_false,
 Bool.false_eq_true, reduceCtorEq]
    exact retB rfl Kept.start (by simp [])

end Go.Ab
/-
  Rows of one's own in a state that keeps what the caller has.
-/
namespace Go.Ab
variable {st s : St} {e : Env}

theorem Kept.appV {esz : Nat} {v u w : PV} {xs : List PV} (hk : Kept st s) (h : Own st s esz v xs) (hl : xs.length + 1 ≤ room) :
    ∃ v' s', Ab.appV esz s.tok1 v (.sl esz (.own s.toks.length) [u]) = some (v', s') ∧ Kept st s' ∧ Own st s' esz v' (xs ++ [u]) ∧ s'.boxes = s.boxes := by
  have hk1 := hk.tok1
  have hg : GrewAt s.tok1.boxes st.toks s.tok1.loops s.tok1.low s.tok1 := ⟨rfl, rfl, rfl, hk1.tk⟩
  have h1 := h.tok1
  obtain ⟨g2, o2⟩ := Own.app (ys := xs ++ [u]) hg h1
  refine ⟨_, _, appV_own h1 hl, ⟨?_, ?_, ?_, g2.tk⟩, o2, g2.bx⟩
  · rw [g2.bx]; exact hk1.bx
  · rw [g2.lp]; exact hk1.lp
  · rw [g2.lw]; exact hk1.lw
theorem lit_s {x : List UInt8} : litFill 1 (List.replicate 1 (.str [])) [(0, .str x)] = some [.str x] := rfl
end Go.Ab
/-
  Ids are read; the law DateUnlike.
-/
namespace Go.Ab
set_option maxRecDepth 20000
variable {st s : St} {e : Env}

theorem hasPrefix_c {a : Bs} {c : UInt8} : decide ([c] <+: a) = decide (a.head? = some c) := by
  cases a with
  | nil => simp
  | cons x r => simp [List.cons_prefix_cons, eq_comm]

theorem sCutPrefix_spec {a : Bs} {c : UInt8} (h : a.length < 4294967281) : call prog (.fn 314 []) [.str a, .str [c]] st = some (.tup [.str (if a.head? = some c then a.drop 1 else a), .bool (decide (a.head? = some c))], st) := by
  refine call_of_W prog_314 ?_
  unfold F_internal_stringslite_CutPrefix; dsimp only
  have hP := fun S : St => slHasPrefix_spec (st := S) (a := a) (b := [c])
  have hl1 : ((([c] : Bs).length : Nat) : Int) = 1 := rfl
  by_cases hc : a.head? = some c
  · have h0 : 1 ≤ a.length := by cases a with | nil => simp at hc | cons x r => simp
    rw [if_pos hc]
    simp only [hasPrefix_c, hc, decide_true] at hP
    simp (maxSteps := 1000000) (disch := omega) only [hP, hc, len_s, hl1, Int.toNat_one, slc_s_lo, qaaz, qabz, qacz, qaez, qaiz, qajz, qalz, evOp, qaoz, qapz, qaqz, qarz, qatz, qavz,
 ↓reduceIte, Nat.reduceEqDiff, List.append_nil, List.map_cons, List.map_nil, qawz, qaxz, Option.map_some, Option.map_none, qazz, qbhz, qblz, qcfz, decide_true, Bool.false_eq_true, reduceCtorEq, Bool.not_true]
    exact ret2sb rfl rfl Kept.start rfl rfl
  · rw [if_neg hc]
    simp only [hasPrefix_c, hc, decide_false] at hP
    simp (maxSteps := 1000000) (disch := omega) only [hP, hc, qaaz, qabz, qacz, qaiz, qajz, qalz, evOp, qaoz, qapz, qaqz, qarz, qatz, qavz,
 ↓reduceIte, Nat.reduceEqDiff, List.append_nil, List.map_cons, List.map_nil, qawz, qaxz, Option.map_some, qazz, qbaz, qbhz, qblz, qcfz, decide_false,
 reduceCtorEq, Bool.not_false]
    exact ret2sb rfl rfl Kept.start rfl rfl
theorem CutPrefix_spec {a : Bs} {c : UInt8} (h : a.length < 4294967281) : call prog (.fn 305 []) [.str a, .str [c]] st = some (.tup [.str (if a.head? = some c then a.drop 1 else a), .bool (decide (a.head? = some c))], st) := by
  refine call_of_W prog_305 ?_
  unfold F_strings_CutPrefix; dsimp only
  have hP := fun S : St => sCutPrefix_spec (st := S) (c := c) h
  simp (maxSteps := 1000000) (disch := omega) only [hP, qaaz, qabz, qaiz, qajz, qalz, evOp, qaoz, qapz, qaqz, qarz, qatz, qavz,
 ↓reduceIte, Nat.reduceEqDiff, List.append_nil, List.map_cons, List.map_nil, qawz, qaxz, Option.map_some, qazz, qblz, qcjz, List.getElem?_cons_zero, List.getElem?_cons_succ, reduceCtorEq]
  exact ret2sb rfl rfl Kept.start rfl rfl

end Go.Ab
/-
  The document's addresses: parts, letters, atoms, domains.
-/
namespace Go.Ab
set_option maxRecDepth 20000
variable {st s : St} {e : Env}

end Go.Ab
/-
  The document's addresses: domains, plain addresses.
-/
namespace Go.Ab
set_option maxRecDepth 20000
variable {st s : St} {e : Env}

end Go.Ab
/-
  The calendar: plain.
-/
namespace Go.Ab
set_option maxRecDepth 20000

def lpY (y : Nat) : Bool := (y % 4 == 0 && y % 100 != 0) || y % 400 == 0
def ydY (y : Nat) : Nat := if lpY y then 366 else 365
def befY (y : Nat) : Nat := 365 * (y - 1970) + (y - 1) / 4 + (y - 1) / 400 - ((y - 1) / 100 + 477)
def mdY (y m : Nat) : Nat := if m = 2 then (if lpY y then 29 else 28) else if m = 4 ∨ m = 6 ∨ m = 9 ∨ m = 11 then 30 else 31
def cumY (y : Nat) : Nat → Nat
  | 0 => 0
  | m + 1 => cumY y m + if m = 0 then 0 else mdY y m

theorem lp_cases (y : Nat) : (lpY y = true ∧ (y % 4 = 0 ∧ y % 100 ≠ 0 ∨ y % 400 = 0)) ∨ (lpY y = false ∧ ¬ (y % 4 = 0 ∧ y % 100 ≠ 0 ∨ y % 400 = 0)) := by
  by_cases h1 : y % 4 = 0 <;> by_cases h2 : y % 100 = 0 <;> by_cases h3 : y % 400 = 0 <;> simp [lpY, h1, h2, h3]

theorem bef_1 (k : Nat) : befY (1970 + k) = 365 * k + (1969 + k) / 4 + (1969 + k) / 400 - ((1969 + k) / 100 + 477) := by
  unfold befY
  rw [show 1970 + k - 1970 = k by omega, show 1970 + k - 1 = 1969 + k by omega]
theorem bef_2 (k : Nat) : befY (1970 + k + 1) = 365 * (k + 1) + (1970 + k) / 4 + (1970 + k) / 400 - ((1970 + k) / 100 + 477) := by
  unfold befY
  rw [show 1970 + k + 1 - 1970 = k + 1 by omega, show 1970 + k + 1 - 1 = 1970 + k by omega]
theorem bef_succ {y : Nat} (h : 1970 ≤ y) : befY (y + 1) = befY y + ydY y := by
  obtain ⟨k, rfl⟩ : ∃ k, y = 1970 + k := ⟨y - 1970, by omega⟩
  by_cases hk : k = 0
  · subst hk; decide
  rw [bef_1, bef_2]
  rcases lp_cases (1970 + k) with ⟨h1, h2⟩ | ⟨h1, h2⟩
  · rw [show ydY (1970 + k) = 366 by unfold ydY; rw [h1]; rfl]; omega
  · rw [show ydY (1970 + k) = 365 by unfold ydY; rw [h1]; rfl]; omega

theorem yd_bound (y : Nat) : 365 ≤ ydY y ∧ ydY y ≤ 366 := by
  rcases lp_cases y with ⟨h1, h2⟩ | ⟨h1, h2⟩ <;> simp [ydY, h1]

theorem bef_mono {a : Nat} (ha : 1970 ≤ a) : ∀ {b : Nat}, a ≤ b → befY a ≤ befY b := by
  intro b h
  induction b with
  | zero => omega
  | succ b ih =>
    by_cases hb : a = b + 1
    · subst hb; exact Nat.le_refl _
    · have := ih (by omega)
      have h2 := bef_succ (y := b) (by omega)
      omega

theorem md_bound (y m : Nat) : 28 ≤ mdY y m ∧ mdY y m ≤ 31 := by
  unfold mdY; split
  · split <;> omega
  · split <;> omega

theorem cum_succ (y : Nat) {m : Nat} (h : m ≠ 0) : cumY y (m + 1) = cumY y m + mdY y m := by simp [cumY, h]
theorem cum_13 (y : Nat) : cumY y 13 = ydY y := by
  rcases lp_cases y with ⟨h1, h2⟩ | ⟨h1, h2⟩ <;> simp [cumY, mdY, ydY, h1]
theorem cum_1 (y : Nat) : cumY y 1 = 0 := rfl
theorem cum_mono (y : Nat) {a : Nat} : ∀ {b : Nat}, a ≤ b → cumY y a ≤ cumY y b := by
  intro b h
  induction b with
  | zero => have : a = 0 := by omega
            subst this; exact Nat.le_refl _
  | succ b ih =>
    by_cases hb : a = b + 1
    · subst hb; exact Nat.le_refl _
    · have := ih (by omega)
      simp only [cumY]; omega

structure Ci (n y m d : Nat) : Prop where
  y1 : 1970 ≤ y
  y2 : y ≤ 9999
  m1 : 1 ≤ m
  m2 : m ≤ 12
  d1 : 1 ≤ d
  d2 : d ≤ mdY y m
  eq : n + 1 = befY y + cumY y m + d

theorem Ci.yr {n y m d : Nat} (h : Ci n y m d) : befY y ≤ n ∧ n < befY (y + 1) := by
  have h1 := bef_succ h.y1
  have h2 := cum_succ y (m := m) (by have := h.m1; omega)
  have h3 := cum_mono y (a := m + 1) (b := 13) (by have := h.m2; omega)
  have h4 := cum_13 y
  have := h.d1; have := h.d2; have := h.eq
  omega

theorem Ci.uniq {n y m d y' m' d' : Nat} (h : Ci n y m d) (k : Ci n y' m' d') : y = y' ∧ m = m' ∧ d = d' := by
  have a := h.yr
  have b := k.yr
  have hy : y = y' := by
    rcases Nat.lt_trichotomy y y' with h1 | h1 | h1
    · have := bef_mono (a := y + 1) (b := y') (by have := h.y1; omega) (by omega); omega
    · exact h1
    · have := bef_mono (a := y' + 1) (b := y) (by have := k.y1; omega) (by omega); omega
  subst hy
  have hm : m = m' := by
    have e1 := h.eq; have e2 := k.eq; have := h.d1; have := h.d2; have := k.d1; have := k.d2; have := h.m1; have := k.m1
    rcases Nat.lt_trichotomy m m' with h1 | h1 | h1
    · have := cum_mono y (a := m + 1) (b := m') (by omega)
      have := cum_succ y (m := m) (by omega); omega
    · exact h1
    · have := cum_mono y (a := m' + 1) (b := m) (by omega)
      have := cum_succ y (m := m') (by omega); omega
  subst hm
  have e1 := h.eq; have e2 := k.eq
  exact ⟨rfl, rfl, by omega⟩

theorem bef_1970 : befY 1970 = 0 := by decide
theorem bef_10000 : befY 10000 = 2932897 := by decide

theorem ci_ex {n : Nat} (hn : n ≤ 2932896) : ∃ y m d, Ci n y m d := by
  have hy : ∃ y, 1970 ≤ y ∧ y ≤ 9999 ∧ befY y ≤ n ∧ n < befY (y + 1) := by
    have : ∀ k, k ≤ 8030 → befY (1970 + k) ≤ n ∨ ∃ y, 1970 ≤ y ∧ y ≤ 9999 ∧ befY y ≤ n ∧ n < befY (y + 1) := by
      intro k
      induction k with
      | zero => intro _; left; rw [show 1970 + 0 = 1970 from rfl, bef_1970]; omega
      | succ k ih =>
        intro hk
        rcases ih (by omega) with h | h
        · by_cases hc : befY (1970 + (k + 1)) ≤ n
          · exact .inl hc
          · exact .inr ⟨1970 + k, by omega, by omega, h, by rw [show 1970 + k + 1 = 1970 + (k + 1) from rfl]; omega⟩
        · exact .inr h
    rcases this 8030 (by omega) with h | h
    · rw [show 1970 + 8030 = 10000 from rfl, bef_10000] at h; omega
    · exact h
  obtain ⟨y, h1, h2, h3, h4⟩ := hy
  have hm : ∃ m, 1 ≤ m ∧ m ≤ 12 ∧ cumY y m ≤ n - befY y ∧ n - befY y < cumY y (m + 1) := by
    have : ∀ k, k ≤ 12 → cumY y (1 + k) ≤ n - befY y ∨ ∃ m, 1 ≤ m ∧ m ≤ 12 ∧ cumY y m ≤ n - befY y ∧ n - befY y < cumY y (m + 1) := by
      intro k
      induction k with
      | zero => intro _; left; rw [show 1 + 0 = 1 from rfl, cum_1]; omega
      | succ k ih =>
        intro hk
        rcases ih (by omega) with h | h
        · by_cases hc : cumY y (1 + (k + 1)) ≤ n - befY y
          · exact .inl hc
          · exact .inr ⟨1 + k, by omega, by omega, h, by rw [show 1 + k + 1 = 1 + (k + 1) from rfl]; omega⟩
        · exact .inr h
    rcases this 12 (by omega) with h | h
    · have := cum_13 y; have := bef_succ h1
      rw [show 1 + 12 = 13 from rfl] at h; omega
    · exact h
  obtain ⟨m, h5, h6, h7, h8⟩ := hm
  have := cum_succ y (m := m) (by omega)
  exact ⟨y, m, n - befY y - cumY y m + 1, h1, h2, h5, h6, by omega, by omega, by omega⟩

theorem ci_le {n y m d : Nat} (h : Ci n y m d) : n ≤ 2932896 := by
  have := h.yr
  have := bef_mono (a := y + 1) (b := 10000) (by have := h.y1; omega) (by have := h.y2; omega)
  have := bef_10000; omega

end Go.Ab
/-
  Dates: two digits, names, the calendar's walk (the program's).
-/
namespace Go.Ab
set_option maxRecDepth 20000
variable {st s : St} {e : Env}

theorem quo_n {ek : EK} {a c : Nat} (hc : 0 < c) (h : a < 9223372036854775808) : binPV .quo ek (.int .i64 (a : Int)) (.int .i64 (c : Int)) = some (.int .i64 ((a / c : Nat) : Int)) := by
  rw [quo_i (by omega) (by omega) (by omega)]; rfl
theorem rem_n {ek : EK} {a c : Nat} (hc : 0 < c) : binPV .rem ek (.int .i64 (a : Int)) (.int .i64 (c : Int)) = some (.int .i64 ((a % c : Nat) : Int)) := by
  rw [rem_i (by omega)]; rfl
theorem mul_n {ek : EK} {a c : Nat} (h : c * a < 9223372036854775808) : binPV .mul ek (.int .i64 (c : Int)) (.int .i64 (a : Int)) = some (.int .i64 ((c * a : Nat) : Int)) := by
  have e : (c : Int) * (a : Int) = ((c * a : Nat) : Int) := by rw [Int.natCast_mul]
  simp only [binPV, binI, reduceIte, Option.some.injEq]
  rw [e, wrap64 (by omega) (by omega)]
theorem quo_10 {ek : EK} {a : Nat} (h : a < 9223372036854775808) : binPV .quo ek (.int .i64 (a : Int)) (.int .i64 10) = some (.int .i64 ((a / 10 : Nat) : Int)) := quo_n (c := 10) (by omega) h
theorem rem_10 {ek : EK} {a : Nat} : binPV .rem ek (.int .i64 (a : Int)) (.int .i64 10) = some (.int .i64 ((a % 10 : Nat) : Int)) := rem_n (c := 10) (by omega)
theorem cU8 {k : IntKind} {n : Nat} (h : n < 256) : cIntPV .u8 (.int k (n : Int)) = some (.b8 (UInt8.ofNat n)) := by
  simp only [cIntPV, Option.some.injEq]
  have : IntKind.u8.wrap (n : Int) = n := by
    unfold IntKind.wrap
    simp only [IntKind.signed, IntKind.bits]
    simp
    omega
  rw [this]; simp

def dg (n : Nat) : UInt8 := UInt8.ofNat (48 + n % 10)
def twoT (n : Nat) : Bs := [dg (n / 10), dg n]

theorem two_spec {n : Nat} (h : n < 9223372036854775808) : call prog (.fn 276 []) [.int .i64 (n : Int)] st = some (.str (twoT n), st) := by
  refine call_of_W prog_276 ?_
  unfold F_date_two; dsimp only
  have hb : b2s false (St.tok1 ⟨st.boxes, st.toks, st.loops, st.boxes.length⟩) (.bys (.own st.toks.length) [UInt8.ofNat (48 + n / 10 % 10), UInt8.ofNat (48 + n % 10)]) = some [UInt8.ofNat (48 + n / 10 % 10), UInt8.ofNat (48 + n % 10)] := rfl
  simp (maxSteps := 1000000) (disch := omega) only [quo_10, rem_10, add_n', cU8, lit8_2, freshT_eq, hb, qaaz, qabz, qaiz, qajz, qalz, evOp, qaoz, qapz, qarz, qatz, qavz,
 ↓reduceIte, Nat.reduceEqDiff, List.append_nil, List.map_cons, List.map_nil, qawz, Option.map_some, qazz, qblz, Int.reduceToNat, reduceCtorEq]
  exact retS rfl Kept.start.tok1 rfl

def dayNames : List Bs := [[77, 111, 110], [84, 117, 101], [87, 101, 100], [84, 104, 117], [70, 114, 105], [83, 97, 116], [83, 117, 110]]
def dayT (n : Nat) : Bs := dayNames.getD n []
def monNames : List Bs := [[], [74, 97, 110], [70, 101, 98], [77, 97, 114], [65, 112, 114], [77, 97, 121], [74, 117, 110], [74, 117, 108], [65, 117, 103], [83, 101, 112], [79, 99, 116], [78, 111, 118], [68, 101, 99]]
def monT (n : Nat) : Bs := monNames.getD n []

def plainP : PV → Bool
  | .int _ _ | .str _ | .b8 _ | .bool _ => true
  | _ => false
theorem plainP_inB {n : Nat} : ∀ cs : List PV, cs.all plainP = true → PV.inB.inBAll n cs = true ∧ cs.all leafOk = true ∧ hasTok cs = false
  | [], _ => ⟨rfl, rfl, rfl⟩
  | c :: cs, h => by
    simp only [List.all_cons, Bool.and_eq_true] at h
    obtain ⟨a, b, d⟩ := plainP_inB (n := n) cs h.2
    simp only [hasTok] at d
    cases c <;> simp_all [plainP, PV.inB.inBAll, PV.inB, leafOk, hasTok, tokOf]
theorem setRow_all : ∀ (vs pre z : List PV), z.length = vs.length → setCells (pre ++ z) pre.length vs = pre ++ vs
  | [], pre, z, h => by
    have : z = [] := List.length_eq_zero_iff.1 h
    subst this; rfl
  | v :: vs, pre, z, h => by
    cases z with
    | nil => simp at h
    | cons y z =>
      rw [setCells, List.set_append_right _ _ (Nat.le_refl _), Nat.sub_self, List.set_cons_zero]
      have := setRow_all vs (pre ++ [v]) z (by simpa using h)
      simpa using this
theorem st_all {B : List (List PV)} {T : List Bool} {L : List LoopS} {lo n : Nat} {cs z : List PV} (hn : n = cs.length) (hl : z.length = cs.length) (hf : cs.all plainP = true) :
    storePV ⟨B ++ [z], T, L, lo⟩ n (.ptr B.length 0) (.agg cs) = some ⟨B ++ [cs], T, L, lo⟩ := by
  subst hn
  obtain ⟨a, b, d⟩ := plainP_inB (n := B.length + 1) cs hf
  have hs := setRow_all cs [] z hl
  simp only [List.nil_append, List.length_nil] at hs
  simp [storePV, PV.cells, PV.inB, a, b, d, hs, hl]
theorem ld_at {B : List (List PV)} {T : List Bool} {L : List LoopS} {lo : Nat} {cs : List PV} {i : Nat} {v : PV} (h : cs[i]? = some v) : loadPV ⟨B ++ [cs], T, L, lo⟩ false 1 (.ptr B.length (0 + i * 1)) = some v := by
  have hi := (List.getElem?_eq_some_iff.1 h)
  simp only [loadPV]
  rw [List.getElem?_append_right (Nat.le_refl _), Nat.sub_self]
  simp only [List.getElem?_cons_zero, readCells, Bool.false_eq_true, if_false]
  obtain ⟨h1, h2⟩ := hi
  rw [show 0 + i * 1 = i by omega, List.drop_eq_getElem_cons h1]
  simp only [h2]
theorem iaA {len b : Nat} {n : Int} (h0 : 0 ≤ n) (h1 : n < (len : Int)) : iaddrAPV len 1 (.ptr b 0) (.int .i64 n) = some (.ptr b (0 + n.toNat * 1)) := by
  simp [iaddrAPV, intOf, h0, h1, faddrPV]

theorem dayName_spec {n : Nat} (h : n < 7) : call prog (.fn 277 []) [.int .i64 (n : Int)] st = some (.str (dayT n), st) := by
  refine call_of_W prog_277 ?_
  unfold F_date_dayName; dsimp only
  have hb : buildCells [.str [], .str [], .str [], .str [], .str [], .str [], .str []] [(0, 1, .str [77, 111, 110]), (1, 1, .str [84, 117, 101]), (2, 1, .str [87, 101, 100]), (3, 1, .str [84, 104, 117]), (4, 1, .str [70, 114, 105]), (5, 1, .str [83, 97, 116]), (6, 1, .str [83, 117, 110])] = some (dayNames.map .str) := by rfl
  have hst : storePV ⟨st.boxes ++ [[.str [], .str [], .str [], .str [], .str [], .str [], .str []]], st.toks, st.loops, st.boxes.length⟩ 7 (.ptr st.boxes.length 0) (.agg (dayNames.map .str)) = some ⟨st.boxes ++ [dayNames.map .str], st.toks, st.loops, st.boxes.length⟩ := st_all rfl rfl rfl
  have hld : loadPV ⟨st.boxes ++ [dayNames.map .str], st.toks, st.loops, st.boxes.length⟩ false 1 (.ptr st.boxes.length (0 + ((n : Int)).toNat * 1)) = some (.str (dayT n)) := ld_at (by
    simp only [Int.toNat_natCast, List.getElem?_map]
    have h7 : n < dayNames.length := h
    simp [dayT, List.getD, h7])
  have hia : iaddrAPV 7 1 (.ptr st.boxes.length 0) (.int .i64 (n : Int)) = some (.ptr st.boxes.length (0 + ((n : Int)).toNat * 1)) := iaA (by omega) (by omega)
  simp only [Int.toNat_natCast] at hld hia
  simp (maxSteps := 1000000) (disch := omega) only [hb, allocPV, hst, hia, hld, qaaz, qabz, qaiz, qajz, qalz, evOp, qaoz, qapz, qarz, qatz, qauz, qavz,
 ↓reduceIte, Nat.reduceEqDiff, List.append_nil, List.map_cons, List.map_nil, qawz, Option.map_some, qazz, qblz, reduceCtorEq]
  exact retS rfl Kept.start.alloc rfl
theorem monthName_spec {n : Nat} (h : n < 13) : call prog (.fn 278 []) [.int .i64 (n : Int)] st = some (.str (monT n), st) := by
  refine call_of_W prog_278 ?_
  unfold F_date_monthName; dsimp only
  have hb : buildCells [.str [], .str [], .str [], .str [], .str [], .str [], .str [], .str [], .str [], .str [], .str [], .str [], .str []] [(0, 1, .str []), (1, 1, .str [74, 97, 110]), (2, 1, .str [70, 101, 98]), (3, 1, .str [77, 97, 114]), (4, 1, .str [65, 112, 114]), (5, 1, .str [77, 97, 121]), (6, 1, .str [74, 117, 110]), (7, 1, .str [74, 117, 108]), (8, 1, .str [65, 117, 103]), (9, 1, .str [83, 101, 112]), (10, 1, .str [79, 99, 116]), (11, 1, .str [78, 111, 118]), (12, 1, .str [68, 101, 99])] = some (monNames.map .str) := by rfl
  have hst : storePV ⟨st.boxes ++ [[.str [], .str [], .str [], .str [], .str [], .str [], .str [], .str [], .str [], .str [], .str [], .str [], .str []]], st.toks, st.loops, st.boxes.length⟩ 13 (.ptr st.boxes.length 0) (.agg (monNames.map .str)) = some ⟨st.boxes ++ [monNames.map .str], st.toks, st.loops, st.boxes.length⟩ := st_all rfl rfl rfl
  have hld : loadPV ⟨st.boxes ++ [monNames.map .str], st.toks, st.loops, st.boxes.length⟩ false 1 (.ptr st.boxes.length (0 + ((n : Int)).toNat * 1)) = some (.str (monT n)) := ld_at (by
    simp only [Int.toNat_natCast, List.getElem?_map]
    have h7 : n < monNames.length := h
    simp [monT, List.getD, h7])
  have hia : iaddrAPV 13 1 (.ptr st.boxes.length 0) (.int .i64 (n : Int)) = some (.ptr st.boxes.length (0 + ((n : Int)).toNat * 1)) := iaA (by omega) (by omega)
  simp only [Int.toNat_natCast] at hld hia
  simp (maxSteps := 1000000) (disch := omega) only [hb, allocPV, hst, hia, hld, qaaz, qabz, qaiz, qajz, qalz, evOp, qaoz, qapz, qarz, qatz, qauz, qavz,
 ↓reduceIte, Nat.reduceEqDiff, List.append_nil, List.map_cons, List.map_nil, qawz, Option.map_some, qazz, qblz, reduceCtorEq]
  exact retS rfl Kept.start.alloc rfl

def shiftOK (n : Int) : Bool := decide (-86340 ≤ n) && decide (n ≤ 86340) && decide (n.tmod 60 = 0)
theorem isShift_spec {n : Int} : call prog (.fn 274 []) [.int .i64 n] st = some (.bool (shiftOK n), st) := by
  refine call_of_W prog_274 ?_
  unfold F_date_isShift; dsimp only
  have r60 : binPV .rem .no (.int .i64 n) (.int .i64 60) = some (.int .i64 (n.tmod 60)) := rem_i (by decide)
  have fin : ∀ {E : Env} (b : Bool), E 2 = .bool b → b = shiftOK n → ∃ rv, resOf E { boxes := st.boxes, toks := st.toks, loops := st.loops, low := st.boxes.length } [.tmp 2] = some rv ∧ leave st { boxes := st.boxes, toks := st.toks, loops := st.loops, low := st.boxes.length } rv = (.bool (shiftOK n), st) :=
    fun b h hb => retB h Kept.start hb
  by_cases h1 : -86340 ≤ n <;> by_cases h2 : n ≤ 86340 <;> by_cases h3 : n.tmod 60 = 0 <;> simp (maxSteps := 1000000) (disch := omega) only [r60, h1, h2, h3, qaaz, qabz, qaiz, qajz, qakz, qalz, qamz, qanz, evOp, qaoz, qapz, qarz, qatz, qavz,
 ↓reduceIte, Nat.reduceEqDiff, List.append_nil, qawz, Option.map_some, qazz, qblz, qbqz, qbsz, qbtz, beq_true, decide_true, decide_false,
 Bool.false_eq_true, reduceCtorEq]
  all_goals first | exact fin true rfl (by simp only [shiftOK, *, decide_true, decide_false, Bool.and_true, Bool.and_false]) | exact fin false rfl (by simp only [shiftOK, *, decide_true, decide_false, Bool.and_true, Bool.and_false])

set_option maxHeartbeats 2000000 in
theorem leap_spec {y : Nat} : call prog (.fn 315 []) [.int .i64 (y : Int)] st = some (.bool (lpY y), st) := by
  refine call_of_W prog_315 ?_
  unfold F_when_leap; dsimp only
  have r4 : binPV .rem .no (.int .i64 (y : Int)) (.int .i64 4) = some (.int .i64 ((y % 4 : Nat) : Int)) := rem_n (c := 4) (by omega)
  have r100 : binPV .rem .no (.int .i64 (y : Int)) (.int .i64 100) = some (.int .i64 ((y % 100 : Nat) : Int)) := rem_n (c := 100) (by omega)
  have r400 : binPV .rem .no (.int .i64 (y : Int)) (.int .i64 400) = some (.int .i64 ((y % 400 : Nat) : Int)) := rem_n (c := 400) (by omega)
  have hl : lpY y = ((y % 4 == 0 && y % 100 != 0) || y % 400 == 0) := rfl
  generalize y % 4 = a at r4 hl
  generalize y % 100 = b at r100 hl
  generalize y % 400 = c at r400 hl
  rw [hl]
  clear hl
  have c4 : ((a : Int) = 0) = (a = 0) := by apply propext; omega
  have c100 : ((b : Int) = 0) = (b = 0) := by apply propext; omega
  have c400 : ((c : Int) = 0) = (c = 0) := by apply propext; omega
  have em : ∀ n : Nat, (n = 0) = True ∨ (n = 0) = False := fun n => by by_cases h : n = 0 <;> simp [h]
  rcases em a with h1 | h1 <;> rcases em b with h2 | h2 <;> rcases em c with h3 | h3 <;> simp (maxSteps := 1000000) (disch := omega) only [r4, r100, r400, c4, c100, c400, h1, h2, h3, qaaz, qabz, qaiz, qajz, qakz, qalz, qamz, qanz, evOp, qaoz, qapz, qarz, qatz, qavz,
 ↓reduceIte, Nat.reduceEqDiff, List.append_nil, qawz, Option.map_some, qazz, qblz, qbtz, qbuz, beq_true, beq_false, decide_true, decide_false,
 Bool.false_eq_true, reduceCtorEq, Bool.not_true, Bool.not_false, ne_eq, not_true_eq_false, not_false_eq_true]
  all_goals first | exact retB (b := true) rfl Kept.start (by show _ = ((decide (a = 0) && !decide (b = 0)) || decide (c = 0)); simp [h1, h2, h3]) | exact retB (b := false) rfl Kept.start (by show _ = ((decide (a = 0) && !decide (b = 0)) || decide (c = 0)); simp [h1, h2, h3])

theorem before_spec {y : Nat} (h1 : 1970 ≤ y) (h2 : y ≤ 10000) : call prog (.fn 306 []) [.int .i64 (y : Int)] st = some (.int .i64 (befY y : Int), st) := by
  refine call_of_W prog_306 ?_
  unfold F_when_before; dsimp only
  have q4 : ∀ a : Nat, a < 20000 → binPV .quo .no (.int .i64 (a : Int)) (.int .i64 4) = some (.int .i64 ((a / 4 : Nat) : Int)) := fun a ha => quo_n (c := 4) (by omega) (by omega)
  have q100 : ∀ a : Nat, a < 20000 → binPV .quo .no (.int .i64 (a : Int)) (.int .i64 100) = some (.int .i64 ((a / 100 : Nat) : Int)) := fun a ha => quo_n (c := 100) (by omega) (by omega)
  have q400 : ∀ a : Nat, a < 20000 → binPV .quo .no (.int .i64 (a : Int)) (.int .i64 400) = some (.int .i64 ((a / 400 : Nat) : Int)) := fun a ha => quo_n (c := 400) (by omega) (by omega)
  have m365 : ∀ a : Nat, a < 20000 → binPV .mul .no (.int .i64 365) (.int .i64 (a : Int)) = some (.int .i64 ((365 * a : Nat) : Int)) := fun a ha => mul_n (c := 365) (by omega)
  obtain ⟨k, rfl⟩ : ∃ k, y = 1970 + k := ⟨y - 1970, by omega⟩
  have e1 : (1970 + k - 1 : Nat) = 1969 + k := by omega
  have e2 : (1969 + k - 1969 : Nat) = k := by omega
  have hge : 477 ≤ 365 * k + (1969 + k) / 4 - (1969 + k) / 100 + (1969 + k) / 400 := by
    by_cases hk : k = 0
    · subst hk; decide
    · omega
  simp (maxSteps := 1000000) (disch := omega) only [sub_n, e1, e2, q4, q100, q400, m365, add_n, qaaz, qabz, qaiz, qajz, qalz, evOp, qaoz, qapz, qarz, qatz, qavz,
 ↓reduceIte, Nat.reduceEqDiff, List.append_nil, qawz, Option.map_some, qazz, qblz, Int.toNat_natCast, Int.reduceToNat, reduceCtorEq]
  refine retI rfl Kept.start ?_
  rw [bef_1]
  by_cases hk : k = 0
  · subst hk; decide
  · omega

def md1 (m : Nat) : Nat := [0, 31, 28, 31, 30, 31, 30, 31, 31, 30, 31, 30, 31].getD m 0
theorem md_1 {y m : Nat} (h1 : 1 ≤ m) (h2 : m ≤ 12) : mdY y m = if m = 2 ∧ lpY y = true then 29 else md1 m := by
  have : m = 1 ∨ m = 2 ∨ m = 3 ∨ m = 4 ∨ m = 5 ∨ m = 6 ∨ m = 7 ∨ m = 8 ∨ m = 9 ∨ m = 10 ∨ m = 11 ∨ m = 12 := by omega
  rcases this with rfl | rfl | rfl | rfl | rfl | rfl | rfl | rfl | rfl | rfl | rfl | rfl <;> simp [mdY, md1]
def mdL : List PV := [.int .i64 0, .int .i64 31, .int .i64 28, .int .i64 31, .int .i64 30, .int .i64 31, .int .i64 30, .int .i64 31, .int .i64 31, .int .i64 30, .int .i64 31, .int .i64 30, .int .i64 31]
theorem mdL_at {m : Nat} (h : m < 13) : mdL[m]? = some (.int .i64 (md1 m : Int)) := by
  have : m = 0 ∨ m = 1 ∨ m = 2 ∨ m = 3 ∨ m = 4 ∨ m = 5 ∨ m = 6 ∨ m = 7 ∨ m = 8 ∨ m = 9 ∨ m = 10 ∨ m = 11 ∨ m = 12 := by omega
  rcases this with rfl | rfl | rfl | rfl | rfl | rfl | rfl | rfl | rfl | rfl | rfl | rfl | rfl <;> rfl
theorem month_spec {y m : Nat} (h1 : 1 ≤ m) (h2 : m ≤ 12) : call prog (.fn 307 []) [.int .i64 (y : Int), .int .i64 (m : Int)] st = some (.int .i64 (mdY y m : Int), st) := by
  refine call_of_W prog_307 ?_
  unfold F_when_month; dsimp only
  have hb : buildCells [.int .i64 0, .int .i64 0, .int .i64 0, .int .i64 0, .int .i64 0, .int .i64 0, .int .i64 0, .int .i64 0, .int .i64 0, .int .i64 0, .int .i64 0, .int .i64 0, .int .i64 0] [(0, 1, .int .i64 0), (1, 1, .int .i64 31), (2, 1, .int .i64 28), (3, 1, .int .i64 31), (4, 1, .int .i64 30), (5, 1, .int .i64 31), (6, 1, .int .i64 30), (7, 1, .int .i64 31), (8, 1, .int .i64 31), (9, 1, .int .i64 30), (10, 1, .int .i64 31), (11, 1, .int .i64 30), (12, 1, .int .i64 31)] = some mdL := by rfl
  have hst : storePV ⟨st.boxes ++ [[.int .i64 0, .int .i64 0, .int .i64 0, .int .i64 0, .int .i64 0, .int .i64 0, .int .i64 0, .int .i64 0, .int .i64 0, .int .i64 0, .int .i64 0, .int .i64 0, .int .i64 0]], st.toks, st.loops, st.boxes.length⟩ 13 (.ptr st.boxes.length 0) (.agg mdL) = some ⟨st.boxes ++ [mdL], st.toks, st.loops, st.boxes.length⟩ := st_all rfl rfl rfl
  have hld : loadPV ⟨st.boxes ++ [mdL], st.toks, st.loops, st.boxes.length⟩ false 1 (.ptr st.boxes.length (0 + ((m : Int)).toNat * 1)) = some (.int .i64 (md1 m : Int)) := ld_at (by
    simp only [Int.toNat_natCast]; exact mdL_at (by omega))
  have hia : iaddrAPV 13 1 (.ptr st.boxes.length 0) (.int .i64 (m : Int)) = some (.ptr st.boxes.length (0 + ((m : Int)).toNat * 1)) := iaA (by omega) (by omega)
  simp only [Int.toNat_natCast] at hld hia
  have c2 : ((m : Int) = 2) = (m = 2) := by apply propext; omega
  have hlp := fun S : St => leap_spec (st := S) (y := y)
  rw [md_1 h1 h2]
  by_cases hm : m = 2
  · cases hl : lpY y with
    | true =>
      rw [hl] at hlp
      simp (maxSteps := 1000000) (disch := omega) only [hb, allocPV, hst, c2, eq_true hm, hlp, qaaz, qabz, qacz, qaiz, qajz, qakz, qalz, qamz, qanz, evOp, qaoz, qapz, qaqz, qarz, qatz, qauz, qavz,
 ↓reduceIte, Nat.reduceEqDiff, List.append_nil, List.map_cons, List.map_nil, qawz, qaxz, Option.map_some, qazz, qbaz, qbhz, qblz, qbtz, beq_true, decide_true, and_true, reduceCtorEq]
      exact retI rfl Kept.start.alloc (by simp [])
    | false =>
      rw [hl] at hlp
      simp (maxSteps := 1000000) (disch := omega) only [hb, allocPV, hst, hia, hld, c2, eq_true hm, hlp, qaaz, qabz, qacz, qaez, qaiz, qajz, qakz, qalz, qamz, qanz, evOp, qaoz, qapz, qaqz, qarz, qatz, qauz, qavz,
 ↓reduceIte, Nat.reduceEqDiff, List.append_nil, List.map_cons, List.map_nil, qawz, qaxz, Option.map_some, qazz, qbhz, qblz, qbtz, beq_true, decide_true, Bool.false_eq_true, true_and, reduceCtorEq]
      exact retI rfl Kept.start.alloc (by simp [hm])
  · simp (maxSteps := 1000000) (disch := omega) only [hb, allocPV, hst, hia, hld, c2, hm, qaaz, qabz, qacz, qaez, qaiz, qajz, qakz, qalz, qamz, qanz, evOp, qaoz, qapz, qarz, qatz, qauz, qavz,
 ↓reduceIte, Nat.reduceEqDiff, List.append_nil, List.map_cons, List.map_nil, qawz, qaxz, Option.map_some, qazz, qbhz, qblz, qbtz, beq_true, decide_false,
 Bool.false_eq_true]
    exact retI rfl Kept.start.alloc (by simp [])
end Go.Ab
/-
  A day's year, month and day: both walks.
-/
namespace Go.Ab
set_option maxRecDepth 20000
variable {st s : St} {e : Env}

theorem ret4 {a b c d : Nat} {p q r t : Int} (ha : e a = .int .i64 p) (hb : e b = .int .i64 q) (hc : e c = .int .i64 r) (hd : e d = .int .i64 t) (hk : Kept st s) :
    ∃ rv, resOf e s [.tmp a, .tmp b, .tmp c, .tmp d] = some rv ∧ leave st s rv = (.tup [.int .i64 p, .int .i64 q, .int .i64 r, .int .i64 t], st) :=
  ⟨_, by simp [resOf, rvAll, rv1, ha, hb, hc, hd, notTup, packRes], hk.leave' ⟨fun _ => rfl, fun _ _ => rfl⟩⟩

theorem bef_le (k : Nat) : befY (1970 + k) ≤ 366 * k := by
  induction k with
  | zero => decide
  | succ k ih =>
    have h1 := bef_succ (y := 1970 + k) (by omega)
    have h2 := yd_bound (1970 + k)
    rw [show 1970 + (k + 1) = 1970 + k + 1 from rfl]; omega

theorem ci_fin {n y m r y' m' d' : Nat} (h : Ci n y' m' d') (h1 : 1970 ≤ y) (h2 : y ≤ 9999) (h3 : 1 ≤ m) (h4 : m ≤ 12) (h5 : r + befY y + cumY y m = n) (h6 : r < mdY y m) : y = y' ∧ m = m' ∧ r + 1 = d' :=
  Ci.uniq (n := n) ⟨h1, h2, h3, h4, by omega, by omega, by omega⟩ h

set_option maxHeartbeats 2000000 in
theorem Civil_spec {n y m d : Nat} (hci : Ci n y m d) : call prog (.fn 275 []) [.int .i64 (n : Int)] st = some (.tup [.int .i64 (y : Int), .int .i64 (m : Int), .int .i64 (d : Int), .int .i64 0], st) := by
  refine call_of_W prog_275 ?_
  unfold F_when_Civil; dsimp only
  have hn := ci_le hci
  have g1 : ¬ (n : Int) < 0 := by omega
  have g2 : ¬ (2932896 : Int) < (n : Int) := by omega
  have q366 : binPV .quo .no (.int .i64 (n : Int)) (.int .i64 366) = some (.int .i64 ((n / 366 : Nat) : Int)) := quo_n (c := 366) (by omega) (by omega)
  simp (maxSteps := 1000000) (disch := omega) only [g1, g2, q366, add_n', qaaz, qabz, qacz, qadz, qaez, qajz, qakz, qalz, qamz, qanz, evOp, qaoz, qapz, qarz, qatz, qavz,
 ↓reduceIte, Nat.reduceEqDiff, List.append_nil, qawz, Option.map_some, qazz, qbhz, qbpz, qbrz, beq_false, decide_false,
 Bool.false_eq_true, Int.reduceToNat, reduceCtorEq, Bool.not_false]
  refine W_mono (Q := fun x E S => x = .exit 0 ∧ ∃ Y : Nat, 1970 ≤ Y ∧ Y ≤ 9999 ∧ befY Y ≤ n ∧ n < befY (Y + 1) ∧ Kept st S ∧ E 0 = .int .i64 (n : Int) ∧ E 6 = .int .i64 (Y : Int)) ?_ ?_
  · obtain ⟨J, hJ⟩ : ∃ J : Ex → Env → St → Prop, J = fun x E S => x = .exit 0 ∧ ∃ Y : Nat, 1970 ≤ Y ∧ Y ≤ 9999 ∧ befY Y ≤ n ∧ n < befY (Y + 1) ∧ Kept st S ∧ E 0 = .int .i64 (n : Int) ∧ E 6 = .int .i64 (Y : Int) := ⟨_, rfl⟩
    rw [← hJ]
    obtain ⟨I, hI⟩ : ∃ I : Nat → Env → St → Prop, I = fun k E S => ∃ Y : Nat, k = 9999 - Y ∧ 1970 ≤ Y ∧ Y ≤ 9999 ∧ befY Y ≤ n ∧ Kept st S ∧ E 0 = .int .i64 (n : Int) ∧ E 6 = .int .i64 (Y : Int) := ⟨_, rfl⟩
    refine W_loop I ?_ (n := 9999 - (1970 + n / 366)) (by
      rw [hI]
      exact ⟨1970 + n / 366, rfl, by omega, by omega, by have := bef_le (n / 366); omega, Kept.start, rfl, rfl⟩)
    intro k E S hh
    rw [hI] at hh
    obtain ⟨Y, rfl, y1, y2, y3, hk, e0, e6⟩ := hh
    by_cases c1 : Y < 9999
    · have hb := fun S : St => before_spec (st := S) (y := Y + 1) (by omega) (by omega)
      by_cases c2 : befY (Y + 1) ≤ n
      · simp (maxSteps := 1000000) (disch := omega) only [e0, e6, eq_true (show ((Y : Int) < 9999) from by omega), add_n, hb, c2, loopQ_normal, qaaz, qabz, qacz, qadz, qaez, qajz, qakz, qalz, qamz, qanz, evOp, qaoz, qapz, qaqz, qarz, qatz, qavz,
 ↓reduceIte, Nat.reduceEqDiff, List.map_cons, List.map_nil, Option.map_some, qazz, qbdz, qbhz, qbpz, qbqz, beq_true, decide_true, Int.ofNat_le, Int.reduceToNat, reduceCtorEq]
        refine ⟨9999 - (Y + 1), by omega, ?_⟩
        rw [hI]
        exact ⟨Y + 1, rfl, by omega, by omega, c2, hk, e0, rfl⟩
      · simp (maxSteps := 1000000) (disch := omega) only [e0, e6, eq_true (show ((Y : Int) < 9999) from by omega), add_n, hb, c2, qaaz, qabz, qacz, qagz, qajz, qakz, qalz, qamz, qanz, evOp, qaoz, qapz, qaqz, qarz, qatz, qavz,
 ↓reduceIte, Nat.reduceEqDiff, List.map_cons, List.map_nil, Option.map_some, qazz, qbbz, qbhz, qbjz, qbpz, qbqz, beq_true, decide_true, decide_false,
 Int.ofNat_le, Bool.false_eq_true, Int.reduceToNat, reduceCtorEq]
        rw [hJ]
        exact ⟨rfl, Y, y1, y2, y3, by omega, hk, e0, e6⟩
    · have c1' : ¬ (Y : Int) < 9999 := by omega
      simp (maxSteps := 1000000) (disch := omega) only [e6, c1', qaaz, qabz, qacz, qagz, qajz, qakz, qalz, qamz, qanz, evOp, qaoz, qapz, qarz, qatz, qavz,
 ↓reduceIte, Nat.reduceEqDiff, Option.map_some, qazz, qbbz, qbhz, qbjz, qbpz, beq_true, decide_false,
 Bool.false_eq_true]
      rw [hJ]
      have : Y = 9999 := by omega
      subst this
      exact ⟨rfl, 9999, y1, y2, y3, by have := bef_10000; rw [show 9999 + 1 = 10000 from rfl]; omega, hk, e0, e6⟩
  · rintro x E S ⟨rfl, Y, y1, y2, y3, y4, hk, e0, e6⟩
    have hb := fun S : St => before_spec (st := S) (y := Y) (by omega) (by omega)
    have hs := bef_succ y1
    have h13 := cum_13 Y
    simp (maxSteps := 1000000) (disch := omega) only [e0, e6, hb, sub_n, qaaz, qabz, qadz, qajz, qalz, evOp, qaoz, qapz, qaqz, qarz, qatz, qavz,
 ↓reduceIte, Nat.reduceEqDiff, List.map_cons, List.map_nil, Option.map_some, qazz, qbfz, Int.toNat_natCast]
    refine W_mono (Q := fun x E S => x = .exit 2 ∧ ∃ M R : Nat, 1 ≤ M ∧ M ≤ 12 ∧ R + befY Y + cumY Y M = n ∧ R < mdY Y M ∧ Kept st S ∧ E 6 = .int .i64 (Y : Int) ∧ E 7 = .int .i64 (R : Int) ∧ E 8 = .int .i64 (M : Int)) ?_ ?_
    · obtain ⟨J, hJ⟩ : ∃ J : Ex → Env → St → Prop, J = fun x E S => x = .exit 2 ∧ ∃ M R : Nat, 1 ≤ M ∧ M ≤ 12 ∧ R + befY Y + cumY Y M = n ∧ R < mdY Y M ∧ Kept st S ∧ E 6 = .int .i64 (Y : Int) ∧ E 7 = .int .i64 (R : Int) ∧ E 8 = .int .i64 (M : Int) := ⟨_, rfl⟩
      rw [← hJ]
      obtain ⟨I, hI⟩ : ∃ I : Nat → Env → St → Prop, I = fun k E S => ∃ M R : Nat, k = 12 - M ∧ 1 ≤ M ∧ M ≤ 12 ∧ R + befY Y + cumY Y M = n ∧ Kept st S ∧ E 6 = .int .i64 (Y : Int) ∧ E 7 = .int .i64 (R : Int) ∧ E 8 = .int .i64 (M : Int) := ⟨_, rfl⟩
      refine W_loop I ?_ (n := 12 - 1) (by
        rw [hI]
        exact ⟨1, n - befY Y, rfl, by omega, by omega, by rw [cum_1]; omega, hk, e6, rfl, rfl⟩)
      intro k E S hh
      rw [hI] at hh
      obtain ⟨M, R, rfl, m1, m2, m3, hk, e6, e7, e8⟩ := hh
      have hm := fun S : St => month_spec (st := S) (y := Y) m1 m2
      have hcs := cum_succ Y (m := M) (by omega)
      by_cases c : mdY Y M ≤ R
      · have hM : M < 12 := by
          rcases Nat.lt_or_ge M 12 with h | h
          · exact h
          · have : M = 12 := by omega
            subst this
            rw [show 12 + 1 = 13 from rfl] at hcs; omega
        simp (maxSteps := 1000000) (disch := omega) only [e6, e7, e8, hm, c, sub_n, add_n, loopQ_normal, qaaz, qabz, qacz, qadz, qaez, qajz, qalz, evOp, qaoz, qapz, qaqz, qarz, qatz, qavz,
 ↓reduceIte, Nat.reduceEqDiff, List.map_cons, List.map_nil, Option.map_some, qazz, qbdz, qbhz, qbsz, decide_true, Int.toNat_natCast, Int.ofNat_le, Int.reduceToNat]
        refine ⟨12 - (M + 1), by omega, ?_⟩
        rw [hI]
        exact ⟨M + 1, R - mdY Y M, rfl, by omega, by omega, by rw [hcs]; omega, hk, e6, rfl, rfl⟩
      · simp (maxSteps := 1000000) (disch := omega) only [e6, e7, e8, hm, c, qaaz, qabz, qacz, qagz, qajz, qalz, evOp, qaoz, qaqz, qarz, qatz, qavz,
 ↓reduceIte, Nat.reduceEqDiff, List.map_cons, List.map_nil, Option.map_some, qazz, qbbz, qbhz, qbjz, qbsz, decide_false,
 Int.ofNat_le, Bool.false_eq_true]
        rw [hJ]
        exact ⟨rfl, M, R, m1, m2, m3, by omega, hk, e6, e7, e8⟩
    · rintro x E S ⟨rfl, M, R, m1, m2, m3, m4, hk, e6, e7, e8⟩
      obtain ⟨rfl, rfl, rfl⟩ := ci_fin hci y1 y2 m1 m2 m3 m4
      have := md_bound Y M
      simp (maxSteps := 1000000) (disch := omega) only [e6, e7, e8, add_n, qaaz, qabz, qaiz, qajz, qalz, evOp, qaoz, qapz, qarz, qatz, qavz,
 ↓reduceIte, Nat.reduceEqDiff, Option.map_some, qazz, qbfz, qblz, Int.reduceToNat]
      exact ret4 rfl rfl rfl rfl hk

end Go.Ab
/-
  Dates are written, both ways; the law DatePrints.
-/
namespace Go.Ab
set_option maxRecDepth 20000
variable {st s : St} {e : Env}

end Go.Ab
/-
  The document's plain addresses and ids.
-/
namespace Go.Ab
set_option maxRecDepth 20000
variable {st s : St} {e : Env}

end Go.Ab
/-
  Methods, signs of a message and notes that may be: both walked.
-/
namespace Go.Ab
set_option maxRecDepth 20000
variable {st s : St} {e : Env}

end Go.Ab
/-
  How long an address is; its normal form, walked.
-/
namespace Go.Ab
variable {st s : St} {e : Env}
variable {B : List (List PV)} {T : List Bool} {L : List LoopS} {lo : Nat} {a b c : Bs}

set_option maxHeartbeats 1000000 in
theorem Normal_spec {a : Adr} (h : okA a) : call prog (.fn 113 []) [aV a] st = some (.str (normalA a), st) := by
  refine call_of_W prog_113 ?_
  unfold F_addr_Normal; dsimp only
  obtain ⟨n, l, d⟩ := a
  have hn := h.n; have hl := h.l; have hd := h.d
  simp only at hn hl hd
  have hR := fun S : St => Right_spec (st := S) h
  simp only [aV] at hR
  cases hr : rightA (n, l, d) with
  | false =>
    rw [hr] at hR
    simp (maxSteps := 1000000) (disch := omega) only [aV, inB_a, all_a, allocPV, cells_agg, ld_aa, hR, qaaz, qabz, qacz, qaez, qaiz, qajz, qcrz, qcwz, forall_const, and_self, qalz, evOp, qaoz, qapz, qaqz, qarz, qatz, qavz,
 ↓reduceIte, Nat.reduceEqDiff, List.append_nil, List.map_cons, List.map_nil, qawz, Option.map_some, qazz, qbaz, qblz, qcfz, Bool.true_eq_false, and_true, Bool.not_false]
    exact retS rfl Kept.box1 (by simp [normalA, hr])
  | true =>
    rw [hr] at hR
    obtain ⟨s, hs⟩ : ∃ s, s = l ++ [64] ++ d := ⟨_, rfl⟩
    have hsl : s.length = l.length + 1 + d.length := by rw [hs]; simp <;> omega
    have ha1 : ∀ ek, binPV .add ek (.str l) (.str [64]) = some (.str (l ++ [64])) := fun ek => adds (by simp; omega)
    have ha2 : ∀ ek, binPV .add ek (.str (l ++ [64])) (.str d) = some (.str s) := fun ek => by rw [hs]; exact adds (by simp; omega)
    have hbl : (st.boxes ++ [cA n l d]).length = st.boxes.length + 1 := by simp
    have hbb : ({ boxes := st.boxes ++ [cA n l d] ++ [s.map PV.b8], toks := st.toks, loops := st.loops, low := st.boxes.length } : St) = bst2 st (cA n l d) s := rfl
    simp (maxSteps := 1000000) (disch := omega) only [aV, inB_a, all_a, allocPV, cells_agg, ld_aa, hR, faP, Nat.zero_add, ld_a1, ld_a2, ha1, ha2, hbl, hbb, len_ms, qaaz, qabz, qacz, qadz, qaez, qaiz, qajz, qcrz, qcwz, forall_const, and_self, qalz, evOp, qaoz, qapz, qaqz, qarz, qatz, qavz,
 ↓reduceIte, Nat.reduceEqDiff, List.append_nil, List.map_cons, List.map_nil, qawz, Option.map_some, qazz, qbaz, qblz, qcfz, Bool.false_eq_true, true_and, Bool.not_true]
    obtain ⟨I, hI⟩ : ∃ I : Nat → Env → St → Prop, I = fun n' e s' => ∃ (i : Nat) (m : Bs), n' = s.length - i ∧ i ≤ s.length ∧ m = lowOf (s.take i) ++ s.drop i ∧ s' = bst2 st (cA n l d) m ∧ e 3 = .ms (st.boxes.length + 1) 0 s.length ∧ e 16 = .ms (st.boxes.length + 1) 0 s.length ∧ e 17 = .int .i64 (s.length : Int) ∧ e 18 = .int .i64 (i : Int) := ⟨_, rfl⟩
    refine W_loop I ?_ (n := s.length) (by
      rw [hI]
      exact ⟨0, s, rfl, by omega, by simp [lowOf], rfl, rfl, rfl, rfl, rfl⟩)
    intro n' e s' hh
    rw [hI] at hh
    obtain ⟨i, m, rfl, hi, hm, rfl, h3, h16, h17, h18⟩ := hh
    have hml : m.length = s.length := by rw [hm]; simp [lowOf]; omega
    by_cases hlt : i < s.length
    · obtain ⟨c, hc⟩ : ∃ c, c = s.getD i 0 := ⟨_, rfl⟩
      have hlc : m.getD i 0 = c := by
        rw [hm, hc]
        simp only [List.getD]
        rw [List.getElem?_append_right (by simp [lowOf]; omega)]
        simp [lowOf, Nat.min_eq_left hi]
      have hnext : ∀ (E : Env) (m' : Bs), m' = m.set i (lowC c) → E 3 = .ms (st.boxes.length + 1) 0 s.length → E 16 = .ms (st.boxes.length + 1) 0 s.length → E 17 = .int .i64 (s.length : Int) → E 18 = .int .i64 ((i + 1 : Nat) : Int) → ∃ k, k < s.length - i ∧ I k E (bst2 st (cA n l d) m') := by
        intro E m' k0 k1 k2 k3 k4
        refine ⟨s.length - (i + 1), by omega, ?_⟩
        rw [hI]
        refine ⟨i + 1, m', rfl, by omega, ?_, rfl, k1, k2, k3, k4⟩
        rw [k0, hm, take_getD hlt, ← hc, drop_getD hlt]
        have hn : (lowOf (s.take i)).length = i := by simp [lowOf]; omega
        rw [List.set_append_right _ _ (by omega), hn]
        simp [lowOf]
      have hsm : m.set i c = m := by
        rw [← hlc, List.getD, List.getElem?_eq_getElem (by omega)]; simp
      simp (maxSteps := 1000000) (disch := omega) only [h3, h16, h17, h18, hlt, iaddr_ms, load_bst2 (st := st) (l := m) (i := i) (by omega), hlc, add_8, store_bst2 (st := st) (l := m) (i := i) (by omega), add_n, loopQ_normal, qaaz, qabz, qacz, qadz, qaez, qagz, qajz, qclz, qcmz, qcnz, qcqz, qcrz, qcwz, forall_const, qalz, evOp, qaoz, qapz, qarz, qatz, qauz, qavz,
 ↓reduceIte, Nat.reduceEqDiff, Option.map_some, qazz, qbbz, qbdz, qbfz, qbjz, qbpz, qbyz, qcaz, decide_eq_true_eq, decide_eq_false_iff_not, decide_true, Int.toNat_natCast, Int.ofNat_lt, Bool.false_eq_true, Bool.true_eq_false, Int.reduceToNat, true_and, and_true]
      clear hI hm hlc hc
      refine ⟨fun q1 => ⟨fun q2 => ?_, fun q2 => ?_⟩, fun q1 => ?_⟩
      · exact hnext _ (m.set i (c + 32)) (by rw [lowC, if_pos ⟨q1, q2⟩]) h3 h16 h17 rfl
      · exact hnext _ m (by rw [lowC, if_neg (fun h => q2 h.2), hsm]) h3 h16 h17 rfl
      · exact hnext _ m (by rw [lowC, if_neg (fun h => q1 h.1), hsm]) h3 h16 h17 rfl
    · obtain rfl : i = s.length := by omega
      have hml2 : s.length = m.length := hml.symm
      simp (maxSteps := 1000000) (disch := omega) only [h3, h16, h17, h18, hlt, b2s_bst2 (st := st) (l := m) hml2, qaaz, qabz, qacz, qadz, qaez, qagz, qaiz, qajz, qcrz, qcwz, forall_const, qalz, evOp, qaoz, qarz, qatz, qavz,
 ↓reduceIte, Nat.reduceEqDiff, Option.map_some, qazz, qbbz, qbfz, qbjz, qblz, qbpz, decide_false,
 Int.ofNat_lt, Bool.false_eq_true, true_and]
      refine retS rfl Kept.bst2 ?_
      rw [hm, List.take_length, List.drop_length, List.append_nil, hs]
      simp [normalA, hr, atA]

end Go.Ab
/-
  Persons, roles, needs and marks, walked.
-/
namespace Go.Ab
set_option maxRecDepth 20000
variable {st s : St} {e : Env}

theorem plain_at0 {s : Bs} (h : (plainA s).2 = 0) : (plainA s).1.1 = [] ∧ atA (plainA s).1 = s ∧ rightA (plainA s).1 = true := by
  unfold plainA at h ⊢
  by_cases hr : rightA (cutA s) = true
  · rw [if_pos hr] at h ⊢
    refine ⟨by unfold cutA; split <;> rfl, ?_, hr⟩
    rcases chr_split 64 s with ⟨-, h2⟩ | ⟨n, r, rfl, hn⟩
    · exfalso
      have hc : cutA s = ([], s, []) := by unfold cutA; rw [h2]; rfl
      rw [hc] at hr
      simp only [rightA] at hr
      have : partsB 46 labB [] = false := by decide
      rw [this] at hr
      simp at hr
    · have hi := index_chr (k := 64) n r hn
      have hc : cutA (n ++ 64 :: r) = ([], n, r) := by
        unfold cutA
        rw [hi]
        have e1 : (0 : Int) ≤ (n.length : Int) := by omega
        rw [if_pos e1]
        simp
      rw [hc]; rfl
  · rw [if_neg hr] at h; simp at h
theorem plain_ok {s : Bs} (h : s.length ≤ 1000000) : okA (plainA s).1 := by
  rcases plain_good (s := s) with ⟨h1, h2, h3⟩ | h1
  · obtain ⟨a, b, -⟩ := plain_at0 h1
    have hl : (atA (plainA s).1).length = s.length := by rw [b]
    simp only [atA, List.length_append, List.length_cons] at hl
    exact ⟨by rw [a]; simp, by omega, by omega⟩
  · rw [h1]; exact ⟨by simp [noA], by simp [noA], by simp [noA]⟩
theorem normal_low {s : Bs} (h : (plainA s).2 = 0) : normalA (plainA s).1 = lowOf s := by
  obtain ⟨-, a, b⟩ := plain_at0 h
  unfold normalA
  rw [if_pos b, a]

abbrev mkV (a b : Int) : PV := .agg [.int .i64 a, .int .i64 b]
end Go.Ab
/-
  Dates are written; the law DatePrints.
-/
namespace Go.Ab
set_option maxRecDepth 20000
variable {st s : St} {e : Env}

def okP (t z : Int) : Prop := (0 ≤ t ∧ t ≤ 253402300799) ∧ shiftOK z = true ∧ (0 ≤ t + z ∧ t + z ≤ 253402300799)
def clkT (c : Nat) : Bs := twoT (c / 3600) ++ [58] ++ twoT (c / 60 % 60) ++ [58] ++ twoT (c % 60)
def frontT (y m d w c : Nat) : Bs := dayT w ++ [44, 32] ++ twoT d ++ [32] ++ monT m ++ [32] ++ twoT (y / 100) ++ twoT y ++ [32] ++ clkT c ++ [32]
def zoneT (z : Int) : Bs := (if z < 0 then [45] else [43]) ++ twoT (z.natAbs / 3600) ++ twoT (z.natAbs / 60 % 60)
def dateT (y m d w c : Nat) (z : Int) : Bs := frontT y m d w c ++ zoneT z

theorem dayT_len {w : Nat} (h : w < 7) : (dayT w).length = 3 := by
  have := List.all_eq_true.1 (show (List.range 7).all (fun n => (dayT n).length == 3) = true by kernel_rfl) w (List.mem_range.2 h)
  simpa only [beq_iff_eq] using this
theorem monT_len {m : Nat} (h0 : 1 ≤ m) (h : m ≤ 12) : (monT m).length = 3 := by
  have := List.all_eq_true.1 (show (List.range 13).all (fun n => n == 0 || (monT n).length == 3) = true by kernel_rfl) m (List.mem_range.2 (by omega))
  simp only [Bool.or_eq_true, beq_iff_eq] at this
  omega
theorem twoT_len {n : Nat} : (twoT n).length = 2 := rfl

theorem shift_bound {z : Int} (h : shiftOK z = true) : -86340 ≤ z ∧ z ≤ 86340 ∧ z.tmod 60 = 0 := by
  simp only [shiftOK, Bool.and_eq_true, decide_eq_true_eq] at h
  exact ⟨h.1.1, h.1.2, h.2⟩
theorem neg_i {z : Int} (h1 : -9223372036854775808 < z) (h2 : z < 9223372036854775808) : unPV .neg (.int .i64 z) = some (.int .i64 (-z)) := by
  simp only [unPV, Option.some.injEq]
  rw [wrap64 (by omega) (by omega)]; congr 1; omega

theorem Print_bad {t z : Int} (h : ¬ okP t z) : call prog (.fn 256 []) [.int .i64 t, .int .i64 z] st = some (.tup [.str [], .int .i64 110], st) := by
  refine call_of_W prog_256 ?_
  unfold F_date_Print; dsimp only
  have hR := fun (t : Int) (S : St) => Right_w (st := S) (t := t)
  have hS := fun S : St => isShift_spec (st := S) (n := z)
  by_cases h1 : 0 ≤ t ∧ t ≤ 253402300799
  · cases h2 : shiftOK z with
    | true =>
      have h3 : ¬ (0 ≤ t + z ∧ t + z ≤ 253402300799) := fun q => h ⟨h1, h2, q⟩
      have hb := shift_bound h2
      rw [h2] at hS
      simp (maxSteps := 1000000) (disch := omega) only [hR, hS, decide_eq_true h1, decide_eq_false h3, add_i, qaaz, qabz, qacz, qaiz, qajz, qakz, qalz, qamz, qanz, evOp, qaoz, qapz, qaqz, qarz, qatz, qavz,
 ↓reduceIte, Nat.reduceEqDiff, List.append_nil, List.map_cons, List.map_nil, qawz, qaxz, Option.map_some, qazz, qbaz, qbhz, qblz, qcfz, beq_false, Bool.false_eq_true, reduceCtorEq, Bool.not_true, Bool.not_false]
      exact retTI rfl rfl Kept.start rfl rfl
    | false =>
      rw [h2] at hS
      simp (maxSteps := 1000000) (disch := omega) only [hR, hS, decide_eq_true h1, qaaz, qabz, qacz, qaiz, qajz, qakz, qalz, qamz, qanz, evOp, qaoz, qapz, qaqz, qarz, qatz, qavz,
 ↓reduceIte, Nat.reduceEqDiff, List.append_nil, List.map_cons, List.map_nil, qawz, qaxz, Option.map_some, qazz, qbaz, qbhz, qblz, qcfz, beq_false, Bool.false_eq_true, reduceCtorEq, Bool.not_true, Bool.not_false]
      exact retTI rfl rfl Kept.start rfl rfl
  · simp (maxSteps := 1000000) (disch := omega) only [hR, decide_eq_false h1, qaaz, qabz, qacz, qaiz, qajz, qakz, qalz, qamz, qanz, evOp, qaoz, qapz, qaqz, qarz, qatz, qavz,
 ↓reduceIte, Nat.reduceEqDiff, List.append_nil, List.map_cons, List.map_nil, qawz, Option.map_some, qazz, qbaz, qbhz, qblz, qcfz, beq_false, Bool.false_eq_true, reduceCtorEq, Bool.not_true, Bool.not_false]
    exact retTI rfl rfl Kept.start rfl rfl
theorem wk_nat {n : Nat} (h : n ≤ 2932896) : wkOf (n : Int) = ((((n + 3) % 7 : Nat) : Int), 0) := by
  unfold wkOf; rw [if_neg (by omega)]
  congr 1

set_option maxHeartbeats 4000000 in
theorem Print_good {t z : Int} {L y m d : Nat} (h : okP t z) (hL : t + z = (L : Int)) (hci : Ci (L / 86400) y m d) :
    call prog (.fn 256 []) [.int .i64 t, .int .i64 z] st = some (.tup [.str (dateT y m d ((L / 86400 + 3) % 7) (L % 86400) z), .int .i64 0], st) := by
  refine call_of_W prog_256 ?_
  unfold F_date_Print; dsimp only
  obtain ⟨h1, h2, h3⟩ := h
  have hb := shift_bound h2
  have hn := ci_le hci
  have hR := fun (t : Int) (S : St) => Right_w (st := S) (t := t)
  have hS := fun S : St => isShift_spec (st := S) (n := z)
  rw [h2] at hS
  have ha : binPV .add .no (.int .i64 t) (.int .i64 z) = some (.int .i64 (L : Int)) := by rw [add_i (by omega) (by omega), hL]
  have hRL : decide (0 ≤ (L : Int) ∧ (L : Int) ≤ 253402300799) = true := decide_eq_true (by omega)
  have q1 : ∀ a : Nat, a < 9223372036854775808 → binPV .quo .no (.int .i64 (a : Int)) (.int .i64 86400) = some (.int .i64 ((a / 86400 : Nat) : Int)) := fun a ha => quo_n (c := 86400) (by omega) ha
  have q2 : ∀ a : Nat, a < 9223372036854775808 → binPV .quo .no (.int .i64 (a : Int)) (.int .i64 3600) = some (.int .i64 ((a / 3600 : Nat) : Int)) := fun a ha => quo_n (c := 3600) (by omega) ha
  have q3 : ∀ a : Nat, a < 9223372036854775808 → binPV .quo .no (.int .i64 (a : Int)) (.int .i64 60) = some (.int .i64 ((a / 60 : Nat) : Int)) := fun a ha => quo_n (c := 60) (by omega) ha
  have q4 : ∀ a : Nat, a < 9223372036854775808 → binPV .quo .no (.int .i64 (a : Int)) (.int .i64 100) = some (.int .i64 ((a / 100 : Nat) : Int)) := fun a ha => quo_n (c := 100) (by omega) ha
  have r1 : ∀ a : Nat, binPV .rem .no (.int .i64 (a : Int)) (.int .i64 86400) = some (.int .i64 ((a % 86400 : Nat) : Int)) := fun a => rem_n (c := 86400) (by omega)
  have r3 : ∀ a : Nat, binPV .rem .no (.int .i64 (a : Int)) (.int .i64 60) = some (.int .i64 ((a % 60 : Nat) : Int)) := fun a => rem_n (c := 60) (by omega)
  have hC := fun S : St => Civil_spec (st := S) hci
  have hW := fun S : St => Weekday_spec (st := S) (d := ((L / 86400 : Nat) : Int))
  rw [wk_nat hn] at hW
  simp only at hW
  obtain ⟨w, hw⟩ : ∃ w, w = (L / 86400 + 3) % 7 := ⟨_, rfl⟩
  have hw7 : w < 7 := by rw [hw]; exact Nat.mod_lt _ (by omega)
  rw [← hw] at hW ⊢
  obtain ⟨c, hc⟩ : ∃ c, c = L % 86400 := ⟨_, rfl⟩
  have hc8 : c < 86400 := by rw [hc]; exact Nat.mod_lt _ (by omega)
  have hD := fun S : St => dayName_spec (st := S) hw7
  have hM := fun S : St => monthName_spec (st := S) (n := m) (by have := hci.m2; omega)
  have ld := dayT_len hw7
  have lm := monT_len hci.m1 hci.m2
  have hy := hci.y2
  have hd := hci.d2
  have hmd := md_bound y m
  have lt : ∀ n, (twoT n).length = 2 := fun _ => rfl
  have l1 : ∀ c : UInt8, ([c] : Bs).length = 1 := fun _ => rfl
  have l2 : ∀ c d : UInt8, ([c, d] : Bs).length = 2 := fun _ _ => rfl
  by_cases hz : z < 0
  · obtain ⟨za, rfl⟩ : ∃ za : Nat, z = -(za : Int) := ⟨z.natAbs, by omega⟩
    have hneg : unPV .neg (.int .i64 (-(za : Int))) = some (.int .i64 (za : Int)) := by rw [neg_i (by omega) (by omega)]; simp
    simp (maxSteps := 1000000) (disch := first | omega | (simp only [List.length_append, ld, lm, lt, l1, l2]; omega)) only [hR, hS, ha, decide_eq_true h1, hRL, q1, q2, q3, q4, r1, r3, hC, hW, hz, hneg, two_spec, hD, hM, adds, ← hc, qaaz, qabz, qacz, qaez, qaiz, qajz, qakz, qalz, qamz, qanz, evOp, qaoz, qapz, qaqz, qarz, qatz, qavz,
 ↓reduceIte, Nat.reduceEqDiff, List.append_nil, List.map_cons, List.map_nil, qawz, qaxz, Option.map_some, qazz, qbhz, qblz, qbpz, qcfz, beq_false, decide_true, Bool.false_eq_true, qcjz, List.getElem?_cons_zero, List.getElem?_cons_succ, reduceCtorEq, Bool.not_true, Bool.not_false]
    refine retTI rfl rfl Kept.start ?_ rfl
    have e1 : (-(za : Int)).natAbs = za := by omega
    have e2 : 0 < za := by omega
    simp [dateT, frontT, zoneT, clkT, e1, e2]
  · obtain ⟨za, rfl⟩ : ∃ za : Nat, z = (za : Int) := ⟨z.natAbs, by omega⟩
    simp (maxSteps := 1000000) (disch := first | omega | (simp only [List.length_append, ld, lm, lt, l1, l2]; omega)) only [hR, hS, ha, decide_eq_true h1, hRL, q1, q2, q3, q4, r1, r3, hC, hW, hz, two_spec, hD, hM, adds, ← hc, qaaz, qabz, qacz, qaez, qaiz, qajz, qakz, qalz, qamz, qanz, evOp, qaoz, qapz, qaqz, qarz, qatz, qavz,
 ↓reduceIte, Nat.reduceEqDiff, List.append_nil, List.map_cons, List.map_nil, qawz, qaxz, Option.map_some, qazz, qbhz, qblz, qbpz, qcfz, beq_false, decide_false,
 Bool.false_eq_true, qcjz, List.getElem?_cons_zero, List.getElem?_cons_succ, reduceCtorEq, Bool.not_true, Bool.not_false]
    refine retTI rfl rfl Kept.start ?_ rfl
    have e1 : ((za : Int)).natAbs = za := by omega
    simp [dateT, frontT, zoneT, clkT, hz, e1]
end Go.Ab
/-
  Dates are read: small letters, digits.
-/
namespace Go.Ab
set_option maxRecDepth 20000
variable {st s : St} {e : Env}

theorem dlower_spec {s : List UInt8} (h : s.length ≤ 1000000) : call prog (.fn 311 []) [.str s] st = some (.str (lowOf s), st) := by
  rw [← lower_spec (st := st) h, call_fn prog_311, call_fn prog_167]
  rfl

def isDg (c : UInt8) : Bool := !decide (c < 48) && !decide (57 < c)
def valD (s : Bs) : Nat := s.foldl (fun n c => 10 * n + (c - 48).toNat) 0
def digD (s : Bs) (least most : Nat) : Int := if s.all isDg = true ∧ least ≤ s.length ∧ s.length ≤ most then (valD s : Int) else -1

theorem valD_snoc (a : Bs) (c : UInt8) : valD (a ++ [c]) = 10 * valD a + (c - 48).toNat := by simp [valD]
theorem dg_lt {c : UInt8} (h : isDg c = true) : (c - 48).toNat ≤ 9 := by
  have := all8 (p := fun c => !isDg c || decide ((c - 48).toNat ≤ 9)) (by kernel_rfl) c
  rw [h] at this
  simpa only [Bool.not_true, Bool.false_or, decide_eq_true_eq] using this
theorem valD_lt (n : Nat) : ∀ a : Bs, a.length = n → a.all isDg = true → valD a < 10 ^ n := by
  induction n with
  | zero => intro a h _; rw [List.length_eq_zero_iff.1 h]; decide
  | succ n ih =>
    intro a h hd
    have hne : a ≠ [] := fun q => by rw [q] at h; simp at h
    have e1 := List.dropLast_concat_getLast hne
    have hl : a.dropLast.length = n := by simp [h]
    rw [← e1, List.all_append] at hd
    simp only [Bool.and_eq_true, List.all_cons, List.all_nil, Bool.and_true] at hd
    have h1 := ih _ hl hd.1
    have h2 := dg_lt hd.2
    rw [← e1, valD_snoc, Nat.pow_succ]; omega

theorem cI8t {c : UInt8} : cIntPV .i64 (.b8 c) = some (.int .i64 ((c.toNat : Nat) : Int)) := rfl
theorem sub_8 {ek : EK} {a c : UInt8} : binPV .sub ek (.b8 a) (.b8 c) = some (.b8 (a - c)) := rfl

set_option maxHeartbeats 1000000 in
theorem digits_spec {l : Bs} {least most : Nat} (hl : l.length ≤ 100000000) (hm : most ≤ 16) (hle : least ≤ 16) : call prog (.fn 287 []) [.str l, .int .i64 (least : Int), .int .i64 (most : Int)] st = some (.int .i64 (digD l least most), st) := by
  refine call_of_W prog_287 ?_
  unfold F_date_digits; dsimp only
  simp (maxSteps := 1000000) (disch := omega) only [len_s, qaaz, qabz, qadz, qajz, qalz, evOp, qaoz, qapz, qarz, qatz, qavz,
 ↓reduceIte, List.append_nil, qawz, Option.map_some, qazz, reduceCtorEq]
  obtain ⟨Q0, hQ0⟩ : ∃ Q0 : Ex → Env → St → Prop, Q0 = endQ st [.tmp 6] (.int .i64 (digD l least most), st) := ⟨_, rfl⟩
  rw [← hQ0]
  obtain ⟨I, hI⟩ : ∃ I : Nat → Env → St → Prop, I = fun k E S => ∃ (i : Nat), k = l.length - i ∧ i ≤ l.length ∧ i ≤ most ∧ Kept st S ∧ (l.take i).all isDg = true ∧ E 0 = .str l ∧ E 1 = .int .i64 (least : Int) ∧ E 2 = .int .i64 (most : Int) ∧ E 7 = .int .i64 ((valD (l.take i) : Nat) : Int) ∧ E 10 = .int .i64 (l.length : Int) ∧ E 11 = .int .i64 (i : Int) := ⟨_, rfl⟩
  refine W_loop I ?_ (n := l.length) (by
    rw [hI]
    exact ⟨0, rfl, by omega, by omega, Kept.start, rfl, rfl, rfl, rfl, rfl, rfl, rfl⟩)
  intro k E S hh
  rw [hI] at hh
  obtain ⟨i, rfl, hi, him, hk, hall, h0, h1, h2, h7, h10, h11⟩ := hh
  have bad : digD l least most = -1 → ∀ E : Env, E 6 = .int .i64 (-1) → Q0 .ret E S := fun h E k6 => by
    rw [hQ0, qblz, h]
    exact retI k6 hk rfl
  by_cases hlt : i < l.length
  · obtain ⟨c, hc⟩ : ∃ c, c = l.getD i 0 := ⟨_, rfl⟩
    have htk : l.take (i + 1) = l.take i ++ [c] := by rw [List.take_add_one, hc]; simp [List.getD, hlt]
    have hbad1 : isDg c = false → digD l least most = -1 := fun h => by
      unfold digD
      rw [if_neg]
      rintro ⟨q, _⟩
      rw [List.all_eq_true] at q
      have : c ∈ l := by rw [hc]; simp [List.getD, hlt]
      rw [q c this] at h; cases h
    by_cases c1 : c < 48
    · simp (maxSteps := 1000000) (disch := omega) only [h0, h10, h11, hlt, idx_s, ← hc, c1, qaaz, qabz, qacz, qadz, qaez, qaiz, qajz, qakz, qalz, qamz, qanz, evOp, qaoz, qapz, qarz, qatz, qavz,
 ↓reduceIte, Nat.reduceEqDiff, Option.map_some, qazz, qbaz, qbez, qbhz, qbiz, qbpz, qbxz, beq_false, decide_true, Int.toNat_natCast, Int.ofNat_lt, Bool.false_eq_true, reduceCtorEq, Bool.not_true]
      exact bad (hbad1 (by simp only [isDg, c1, decide_true, Bool.false_and, Bool.not_true])) _ rfl
    · by_cases c2 : 57 < c
      · simp (maxSteps := 1000000) (disch := omega) only [h0, h10, h11, hlt, idx_s, ← hc, c1, c2, qaaz, qabz, qacz, qadz, qaez, qaiz, qajz, qakz, qalz, qamz, qanz, evOp, qaoz, qapz, qarz, qatz, qavz,
 ↓reduceIte, Nat.reduceEqDiff, Option.map_some, qazz, qbaz, qbez, qbhz, qbiz, qbpz, qbxz, qbzz, beq_false, decide_true, decide_false,
 Int.toNat_natCast, Int.ofNat_lt, Bool.false_eq_true, reduceCtorEq, Bool.not_false]
        exact bad (hbad1 (by simp only [isDg, c1, c2, decide_true, decide_false, Bool.and_false, Bool.not_true, Bool.not_false])) _ rfl
      · have hdg : isDg c = true := by simp only [isDg, c1, c2, decide_false, Bool.and_true, Bool.not_false]
        have hv := valD_lt i (l.take i) (by simp; omega) hall
        have hp : (10 : Nat) ^ i ≤ 10 ^ 16 := Nat.pow_le_pow_right (by decide) (by omega)
        have hp2 : (10 : Nat) ^ 16 = 10000000000000000 := by decide
        have h9 := dg_lt hdg
        have m10 : binPV .mul .no (.int .i64 10) (.int .i64 ((valD (l.take i) : Nat) : Int)) = some (.int .i64 ((10 * valD (l.take i) : Nat) : Int)) := mul_n (c := 10) (by omega)
        by_cases c3 : most ≤ i
        · simp (maxSteps := 1000000) (disch := omega) only [h0, h2, h7, h10, h11, hlt, idx_s, ← hc, c1, c2, m10, sub_8, cI8t, add_n, c3, qaaz, qabz, qacz, qadz, qaez, qaiz, qajz, qakz, qalz, qamz, qanz, evOp, qaoz, qapz, qarz, qatz, qavz,
 ↓reduceIte, Nat.reduceEqDiff, Option.map_some, qazz, qbaz, qbez, qbhz, qbiz, qbpz, qbsz, qbxz, qbzz, beq_false, decide_true, decide_false,
 Int.toNat_natCast, Int.ofNat_lt, Int.ofNat_le, Bool.false_eq_true, reduceCtorEq, Bool.not_false]
          refine bad ?_ _ rfl
          unfold digD
          rw [if_neg]
          rintro ⟨_, _, q⟩
          omega
        · simp (maxSteps := 1000000) (disch := omega) only [h0, h2, h7, h10, h11, hlt, idx_s, ← hc, c1, c2, m10, sub_8, cI8t, add_n, c3, loopQ_normal, qaaz, qabz, qacz, qadz, qaez, qajz, qakz, qalz, qamz, qanz, evOp, qaoz, qapz, qarz, qatz, qavz,
 ↓reduceIte, Nat.reduceEqDiff, Option.map_some, qazz, qbdz, qbhz, qbpz, qbsz, qbxz, qbzz, beq_false, decide_true, decide_false,
 Int.toNat_natCast, Int.ofNat_lt, Int.ofNat_le, Bool.false_eq_true, Int.reduceToNat, reduceCtorEq, Bool.not_false]
          refine ⟨l.length - (i + 1), by omega, ?_⟩
          rw [hI]
          exact ⟨i + 1, rfl, by omega, by omega, hk, by rw [htk, List.all_append, hall]; simp [hdg], h0, h1, h2, by rw [htk, valD_snoc]; rfl, h10, rfl⟩
  · obtain rfl : i = l.length := by omega
    rw [List.take_length] at hall h7
    by_cases c4 : l.length < least
    · simp (maxSteps := 1000000) (disch := omega) only [h0, h1, h10, h11, hlt, len_s, c4, qaaz, qabz, qacz, qagz, qaiz, qajz, qalz, evOp, qaoz, qapz, qarz, qatz, qavz,
 ↓reduceIte, Nat.reduceEqDiff, Option.map_some, qazz, qbaz, qbbz, qbfz, qbhz, qbjz, qbpz, decide_true, decide_false,
 Int.ofNat_lt, Bool.false_eq_true, reduceCtorEq]
      refine bad ?_ _ rfl
      unfold digD
      rw [if_neg]
      rintro ⟨_, q, _⟩
      omega
    · simp (maxSteps := 1000000) (disch := omega) only [h0, h1, h7, h10, h11, hlt, len_s, c4, qaaz, qabz, qacz, qaez, qagz, qaiz, qajz, qalz, evOp, qaoz, qarz, qatz, qavz,
 ↓reduceIte, Nat.reduceEqDiff, Option.map_some, qazz, qbbz, qbfz, qbhz, qbjz, qbpz, decide_false,
 Int.ofNat_lt, Bool.false_eq_true, reduceCtorEq]
      rw [hQ0, qblz]
      refine retI rfl hk ?_
      unfold digD
      rw [if_pos ⟨hall, by omega, him⟩]
end Go.Ab
/-
  Dates are read: names, years.
-/
namespace Go.Ab
set_option maxRecDepth 20000
variable {st s : St} {e : Env}

theorem find_at {n i : Nat} {m : Nat → Bool} (hi : i < n) (h : ∀ j, j < i → m j = false) (hm : m i = true) : (List.range n).find? m = some i := by
  induction n with
  | zero => omega
  | succ n ih =>
    rw [List.range_succ, List.find?_append]
    by_cases hn : i < n
    · rw [ih hn]; rfl
    · obtain rfl : i = n := by omega
      have : (List.range i).find? m = none := List.find?_eq_none.2 fun x hx => by rw [h x (List.mem_range.1 hx)]; simp
      rw [this]; simp [hm]
theorem find_no {n : Nat} {m : Nat → Bool} (h : ∀ j, j < n → m j = false) : (List.range n).find? m = none :=
  List.find?_eq_none.2 fun x hx => by rw [h x (List.mem_range.1 hx)]; simp

def nmM (s : Bs) (tab : Nat → Bs) (i : Nat) : Bool := decide (lowOf (tab i) = lowOf s) && !decide (s = [])
def nmD (s : Bs) (n : Nat) (tab : Nat → Bs) : Int := match (List.range n).find? (nmM s tab) with
  | some i => i
  | none => -1

set_option maxHeartbeats 1000000 in
theorem name_spec {l : Bs} {n f : Nat} {tab : Nat → Bs} (hl : l.length ≤ 1000000) (hn : n ≤ 100) (hf : ∀ (S : St) (i : Nat), i < n → call prog (.fn f []) [.int .i64 (i : Int)] S = some (.str (tab i), S)) (ht : ∀ i, i < n → (tab i).length ≤ 1000000) :
    call prog (.fn 288 []) [.str l, .int .i64 (n : Int), .fn f []] st = some (.int .i64 (nmD l n tab), st) := by
  refine call_of_W prog_288 ?_
  unfold F_date_name; dsimp only
  simp (maxSteps := 1000000) (disch := omega) only [qaaz, qabz, qadz, qajz, qalz, evOp, qaoz, qapz, qarz, qatz, qavz,
 ↓reduceIte, Nat.reduceEqDiff, List.append_nil, qawz, qaxz, qazz]
  obtain ⟨Q0, hQ0⟩ : ∃ Q0 : Ex → Env → St → Prop, Q0 = endQ st [.tmp 6] (.int .i64 (nmD l n tab), st) := ⟨_, rfl⟩
  rw [← hQ0]
  have hll := fun S : St => dlower_spec (st := S) hl
  obtain ⟨I, hI⟩ : ∃ I : Nat → Env → St → Prop, I = fun k E S => ∃ (i : Nat), k = n - i ∧ i ≤ n ∧ Kept st S ∧ (∀ j, j < i → nmM l tab j = false) ∧ E 0 = .str l ∧ E 2 = .fn f [] ∧ E 8 = .int .i64 (n : Int) ∧ E 9 = .int .i64 (i : Int) := ⟨_, rfl⟩
  refine W_loop I ?_ (n := n) (by
    rw [hI]
    exact ⟨0, rfl, by omega, Kept.start, fun j h => by omega, rfl, rfl, rfl, rfl⟩)
  intro k E S hh
  rw [hI] at hh
  obtain ⟨i, rfl, hi, hk, hall, h0, h2, h8, h9⟩ := hh
  by_cases hlt : i < n
  · have hfi := fun S : St => hf S i hlt
    have htl := fun S : St => dlower_spec (st := S) (ht i hlt)
    have next : nmM l tab i = false → ∀ E : Env, E 0 = .str l → E 2 = .fn f [] → E 8 = .int .i64 (n : Int) → E 9 = .int .i64 ((i + 1 : Nat) : Int) → ∃ m, m < n - i ∧ I m E S := fun h E k0 k2 k8 k9 =>
      ⟨n - (i + 1), by omega, by
        rw [hI]
        refine ⟨i + 1, rfl, by omega, hk, fun j hj => ?_, k0, k2, k8, k9⟩
        by_cases hji : j = i
        · subst hji; exact h
        · exact hall j (by omega)⟩
    by_cases c1 : lowOf (tab i) = lowOf l
    · by_cases c2 : l = []
      · simp (maxSteps := 1000000) (disch := omega) only [h0, h2, h8, h9, hlt, hfi, htl, hll, eq_true c1, eq_true c2, add_n, loopQ_normal, qaaz, qabz, qacz, qadz, qaez, qajz, qakz, qalz, qamz, qanz, evOp, qaoz, qapz, qaqz, qarz, qatz, qavz,
 ↓reduceIte, Nat.reduceEqDiff, List.map_cons, List.map_nil, Option.map_some, qazz, qbdz, qbhz, qbpz, qcbz, qccz, beq_true, decide_true, decide_false,
 Int.ofNat_lt, Bool.false_eq_true, Int.reduceToNat, reduceCtorEq, ne_eq, not_true_eq_false]
        exact next (by simp [nmM, c2]) _ h0 h2 h8 rfl
      · simp (maxSteps := 1000000) (disch := omega) only [h0, h2, h8, h9, hlt, hfi, htl, hll, eq_true c1, c2, qaaz, qabz, qacz, qadz, qaez, qaiz, qajz, qakz, qalz, qamz, qanz, evOp, qaoz, qapz, qaqz, qarz, qatz, qavz,
 ↓reduceIte, Nat.reduceEqDiff, List.map_cons, List.map_nil, Option.map_some, qazz, qbaz, qbez, qbhz, qbiz, qbpz, qcbz, qccz, beq_true, decide_true, Int.ofNat_lt, reduceCtorEq, ne_eq, not_false_eq_true]
        rw [hQ0, qblz]
        refine retI rfl hk ?_
        unfold nmD
        rw [find_at hlt hall (by simp [nmM, c1, c2])]
    · simp (maxSteps := 1000000) (disch := omega) only [h0, h2, h8, h9, hlt, hfi, htl, hll, c1, add_n, loopQ_normal, qaaz, qabz, qacz, qadz, qaez, qajz, qakz, qalz, qamz, qanz, evOp, qaoz, qapz, qaqz, qarz, qatz, qavz,
 ↓reduceIte, Nat.reduceEqDiff, List.map_cons, List.map_nil, Option.map_some, qazz, qbdz, qbhz, qbpz, qcbz, beq_true, decide_true, decide_false,
 Int.ofNat_lt, Bool.false_eq_true, Int.reduceToNat, reduceCtorEq]
      exact next (by simp [nmM, c1]) _ h0 h2 h8 rfl
  · obtain rfl : i = n := by omega
    simp (maxSteps := 1000000) (disch := omega) only [h8, h9, hlt, qaaz, qabz, qacz, qagz, qaiz, qajz, qalz, evOp, qaoz, qapz, qarz, qatz, qavz,
 ↓reduceIte, Option.map_some, qazz, qbbz, qbfz, qbhz, qbjz, qbpz, decide_false,
 Int.ofNat_lt, Bool.false_eq_true]
    rw [hQ0, qblz]
    refine retI rfl hk ?_
    unfold nmD
    rw [find_no hall]

theorem day_spec {l : Bs} (hl : l.length ≤ 1000000) : call prog (.fn 288 []) [.str l, .int .i64 7, .fn 277 []] st = some (.int .i64 (nmD l 7 dayT), st) :=
  name_spec (n := 7) hl (by omega) (fun S i hi => dayName_spec hi) (fun i hi => by rw [dayT_len hi]; omega)
theorem mon_len {i : Nat} (h : i < 13) : (monT i).length ≤ 3 := by
  by_cases h0 : i = 0
  · subst h0; decide
  · rw [monT_len (by omega) (by omega)]; omega
theorem mon_spec {l : Bs} (hl : l.length ≤ 1000000) : call prog (.fn 288 []) [.str l, .int .i64 13, .fn 278 []] st = some (.int .i64 (nmD l 13 monT), st) :=
  name_spec (n := 13) hl (by omega) (fun S i hi => monthName_spec hi) (fun i hi => by have := mon_len hi; omega)

def yrD (s : Bs) : Int := if s.length = 4 then digD s 4 4 else if digD s 2 2 < 0 then -1 else if digD s 2 2 < 50 then 2000 + digD s 2 2 else 1900 + digD s 2 2
theorem digD_bound {s : Bs} {a b : Nat} (hb : b ≤ 4) : -1 ≤ digD s a b ∧ digD s a b < 10000 := by
  unfold digD
  split
  · rename_i h
    have h1 := valD_lt s.length s rfl h.1
    have h2 : (10 : Nat) ^ s.length ≤ 10 ^ 4 := Nat.pow_le_pow_right (by decide) (by omega)
    have h3 : (10 : Nat) ^ 4 = 10000 := by decide
    omega
  · omega
theorem year_spec {l : Bs} (hl : l.length ≤ 1000000) : call prog (.fn 289 []) [.str l] st = some (.int .i64 (yrD l), st) := by
  refine call_of_W prog_289 ?_
  unfold F_date_year; dsimp only
  have d4 := fun S : St => digits_spec (st := S) (l := l) (least := 4) (most := 4) (by omega) (by omega) (by omega)
  have d2 := fun S : St => digits_spec (st := S) (l := l) (least := 2) (most := 2) (by omega) (by omega) (by omega)
  rw [show (((4 : Nat) : Int)) = 4 from rfl] at d4
  rw [show (((2 : Nat) : Int)) = 2 from rfl] at d2
  have hb := digD_bound (s := l) (a := 2) (b := 2) (by omega)
  by_cases h4 : l.length = 4
  · have e4 : ((l.length : Int) = 4) := by omega
    simp (maxSteps := 1000000) (disch := omega) only [len_s, eq_true e4, d4, qaaz, qabz, qacz, qaiz, qajz, qalz, evOp, qaoz, qapz, qaqz, qarz, qatz, qavz,
 ↓reduceIte, List.append_nil, List.map_cons, List.map_nil, qawz, Option.map_some, qazz, qbaz, qbhz, qblz, qbtz, decide_true, reduceCtorEq]
    exact retI rfl Kept.start (by simp [yrD, h4])
  · have e4 : ¬ ((l.length : Int) = 4) := by omega
    obtain ⟨n, hn⟩ : ∃ n, n = digD l 2 2 := ⟨_, rfl⟩
    rw [← hn] at d2 hb
    by_cases c1 : n < 0
    · simp (maxSteps := 1000000) (disch := omega) only [len_s, e4, d2, c1, qaaz, qabz, qacz, qadz, qaez, qaiz, qajz, qalz, evOp, qaoz, qapz, qaqz, qarz, qatz, qavz,
 ↓reduceIte, List.append_nil, List.map_cons, List.map_nil, qawz, Option.map_some, qazz, qbaz, qbez, qbhz, qblz, qbpz, qbtz, decide_true, decide_false,
 Bool.false_eq_true, reduceCtorEq]
      exact retI rfl Kept.start (by simp [yrD, h4, ← hn, c1])
    · by_cases c2 : n < 50
      · simp (maxSteps := 1000000) (disch := omega) only [len_s, e4, d2, c1, c2, add_i, qaaz, qabz, qacz, qadz, qaez, qaiz, qajz, qalz, evOp, qaoz, qapz, qaqz, qarz, qatz, qavz,
 ↓reduceIte, Nat.reduceEqDiff, List.append_nil, List.map_cons, List.map_nil, qawz, Option.map_some, qazz, qbaz, qbez, qbhz, qblz, qbpz, qbtz, decide_true, decide_false,
 Bool.false_eq_true, reduceCtorEq]
        exact retI rfl Kept.start (by simp [yrD, h4, ← hn, c1, c2])
      · simp (maxSteps := 1000000) (disch := omega) only [len_s, e4, d2, c1, c2, add_i, qaaz, qabz, qacz, qadz, qaez, qaiz, qajz, qalz, evOp, qaoz, qapz, qaqz, qarz, qatz, qavz,
 ↓reduceIte, Nat.reduceEqDiff, List.append_nil, List.map_cons, List.map_nil, qawz, Option.map_some, qazz, qbdz, qbhz, qblz, qbpz, qbtz, decide_false,
 Bool.false_eq_true, reduceCtorEq]
        exact retI rfl Kept.start (by simp [yrD, h4, ← hn, c1, c2])
end Go.Ab
/-
  Dates are read: days, clocks, zones.
-/
namespace Go.Ab
set_option maxRecDepth 20000
variable {st s : St} {e : Env}

def daysD (y m d : Int) : Int × Int := if 1970 ≤ y ∧ y ≤ 9999 ∧ 1 ≤ m ∧ m ≤ 12 ∧ 1 ≤ d ∧ d ≤ (mdY y.toNat m.toNat : Int) then ((befY y.toNat + cumY y.toNat m.toNat : Nat) + d - 1, 0) else (0, 110)

set_option maxHeartbeats 1000000 in
theorem Days_spec {y m d : Int} : call prog (.fn 292 []) [.int .i64 y, .int .i64 m, .int .i64 d] st = some (.tup [.int .i64 (daysD y m d).1, .int .i64 (daysD y m d).2], st) := by
  refine call_of_W prog_292 ?_
  unfold F_when_Days; dsimp only
  have bad : (¬ (1970 ≤ y ∧ y ≤ 9999 ∧ 1 ≤ m ∧ m ≤ 12 ∧ 1 ≤ d ∧ d ≤ (mdY y.toNat m.toNat : Int))) → ∀ E : Env, E 6 = .int .i64 0 → E 7 = .int .i64 110 → ∃ rv, resOf E { boxes := st.boxes, toks := st.toks, loops := st.loops, low := st.boxes.length } [.tmp 6, .tmp 7] = some rv ∧ leave st { boxes := st.boxes, toks := st.toks, loops := st.loops, low := st.boxes.length } rv = (.tup [.int .i64 (daysD y m d).1, .int .i64 (daysD y m d).2], st) := fun h E k6 k7 => by
    unfold daysD
    rw [if_neg h]
    exact retII k6 k7 Kept.start rfl rfl
  by_cases a1 : y < 1970
  · simp (maxSteps := 1000000) (disch := omega) only [a1, qaaz, qabz, qacz, qaiz, qajz, qakz, qalz, qamz, qanz, evOp, qaoz, qapz, qarz, qatz, qavz,
 ↓reduceIte, Nat.reduceEqDiff, List.append_nil, qawz, Option.map_some, qazz, qbaz, qbhz, qblz, qbpz, beq_false, decide_true, Bool.false_eq_true, reduceCtorEq, Bool.not_true]
    exact bad (by omega) _ rfl rfl
  by_cases a2 : 9999 < y
  · simp (maxSteps := 1000000) (disch := omega) only [a1, a2, qaaz, qabz, qacz, qaiz, qajz, qakz, qalz, qamz, qanz, evOp, qaoz, qapz, qarz, qatz, qavz,
 ↓reduceIte, Nat.reduceEqDiff, List.append_nil, qawz, Option.map_some, qazz, qbaz, qbhz, qblz, qbpz, qbrz, beq_false, decide_true, decide_false,
 Bool.false_eq_true, reduceCtorEq, Bool.not_true, Bool.not_false]
    exact bad (by omega) _ rfl rfl
  by_cases a3 : m < 1
  · simp (maxSteps := 1000000) (disch := omega) only [a1, a2, a3, qaaz, qabz, qacz, qaiz, qajz, qakz, qalz, qamz, qanz, evOp, qaoz, qapz, qarz, qatz, qavz,
 ↓reduceIte, Nat.reduceEqDiff, List.append_nil, qawz, qaxz, Option.map_some, qazz, qbaz, qbhz, qblz, qbpz, qbrz, beq_false, decide_true, decide_false,
 Bool.false_eq_true, reduceCtorEq, Bool.not_true, Bool.not_false]
    exact bad (by omega) _ rfl rfl
  by_cases a4 : 12 < m
  · simp (maxSteps := 1000000) (disch := omega) only [a1, a2, a3, a4, qaaz, qabz, qacz, qaiz, qajz, qakz, qalz, qamz, qanz, evOp, qaoz, qapz, qarz, qatz, qavz,
 ↓reduceIte, Nat.reduceEqDiff, List.append_nil, qawz, qaxz, Option.map_some, qazz, qbaz, qbhz, qblz, qbpz, qbrz, beq_false, decide_true, decide_false,
 Bool.false_eq_true, reduceCtorEq, Bool.not_true, Bool.not_false]
    exact bad (by omega) _ rfl rfl
  by_cases a5 : d < 1
  · simp (maxSteps := 1000000) (disch := omega) only [a1, a2, a3, a4, a5, qaaz, qabz, qacz, qaiz, qajz, qakz, qalz, qamz, qanz, evOp, qaoz, qapz, qarz, qatz, qavz,
 ↓reduceIte, Nat.reduceEqDiff, List.append_nil, qawz, qaxz, Option.map_some, qazz, qbaz, qbhz, qblz, qbpz, qbrz, beq_false, decide_true, decide_false,
 Bool.false_eq_true, reduceCtorEq, Bool.not_true, Bool.not_false]
    exact bad (by omega) _ rfl rfl
  obtain ⟨Y, rfl⟩ : ∃ n : Nat, y = (n : Int) := ⟨y.toNat, by omega⟩
  obtain ⟨M, rfl⟩ : ∃ n : Nat, m = (n : Int) := ⟨m.toNat, by omega⟩
  have hm := fun S : St => month_spec (st := S) (y := Y) (m := M) (by omega) (by omega)
  by_cases a6 : (mdY Y M : Int) < d
  · simp (maxSteps := 1000000) (disch := omega) only [a1, a2, a3, a4, a5, hm, a6, qaaz, qabz, qacz, qaiz, qajz, qakz, qalz, qamz, qanz, evOp, qaoz, qapz, qaqz, qarz, qatz, qavz,
 ↓reduceIte, Nat.reduceEqDiff, List.append_nil, List.map_cons, List.map_nil, qawz, qaxz, Option.map_some, qazz, qbaz, qbhz, qblz, qbpz, qbrz, beq_false, decide_true, decide_false,
 Bool.false_eq_true, reduceCtorEq, Bool.not_false]
    exact bad (by simp only [Int.toNat_natCast]; omega) _ rfl rfl
  obtain ⟨D, rfl⟩ : ∃ n : Nat, d = (n : Int) := ⟨d.toNat, by omega⟩
  have a6' : ¬ mdY Y M < D := by omega
  have hb := fun S : St => before_spec (st := S) (y := Y) (by omega) (by omega)
  have hbl : befY Y ≤ 2932897 := by
    have := bef_mono (a := Y) (b := 10000) (by omega) (by omega)
    have := bef_10000; omega
  have hmd := md_bound Y M
  have hcum : ∀ i, i ≤ 13 → cumY Y i ≤ 400 := fun i hi => by
    have := cum_mono Y (a := i) (b := 13) hi
    have := cum_13 Y; have := yd_bound Y; omega
  simp (maxSteps := 1000000) (disch := omega) only [a1, a2, a3, a4, a5, hm, a6', hb, add_n, sub_n, qaaz, qabz, qacz, qadz, qaez, qajz, qakz, qalz, qamz, qanz, evOp, qaoz, qapz, qaqz, qarz, qatz, qavz,
 ↓reduceIte, Nat.reduceEqDiff, List.append_nil, List.map_cons, List.map_nil, qawz, qaxz, Option.map_some, qazz, qbhz, qbpz, qbrz, beq_false, decide_false,
 Int.toNat_natCast, Int.ofNat_lt, Bool.false_eq_true, Int.reduceToNat, reduceCtorEq, Bool.not_false]
  obtain ⟨Q0, hQ0⟩ : ∃ Q0 : Ex → Env → St → Prop, Q0 = endQ st [.tmp 6, .tmp 7] (.tup [.int .i64 (daysD (Y : Int) (M : Int) (D : Int)).1, .int .i64 (daysD (Y : Int) (M : Int) (D : Int)).2], st) := ⟨_, rfl⟩
  rw [← hQ0]
  obtain ⟨I, hI⟩ : ∃ I : Nat → Env → St → Prop, I = fun k E S => ∃ (i : Nat), k = M - i ∧ i ≤ M ∧ Kept st S ∧ E 0 = .int .i64 (Y : Int) ∧ E 8 = .int .i64 ((befY Y + D - 1 + cumY Y i : Nat) : Int) ∧ E 40 = .int .i64 (M : Int) ∧ E 41 = .int .i64 (i : Int) := ⟨_, rfl⟩
  refine W_loop I ?_ (n := M) (by
    rw [hI]
    exact ⟨0, rfl, by omega, Kept.start, rfl, by rw [show cumY Y 0 = 0 from rfl, Nat.add_zero]; rfl, rfl, rfl⟩)
  intro k E S hh
  rw [hI] at hh
  obtain ⟨i, rfl, hi, hk, h0, h8, h40, h41⟩ := hh
  by_cases hlt : i < M
  · have hc1 := hcum i (by omega)
    by_cases hz : 0 < i
    · have hmi := fun S : St => month_spec (st := S) (y := Y) (m := i) (by omega) (by omega)
      have hmdi := md_bound Y i
      have e0 : (0 : Int) < (i : Int) := by omega
      simp (maxSteps := 1000000) (disch := omega) only [h0, h8, h40, h41, hlt, eq_true e0, hmi, add_n, loopQ_normal, qaaz, qabz, qacz, qadz, qaez, qajz, qalz, evOp, qaoz, qapz, qaqz, qarz, qatz, qavz,
 ↓reduceIte, Nat.reduceEqDiff, List.map_cons, List.map_nil, Option.map_some, qazz, qbdz, qbhz, qbpz, qbrz, decide_true, Int.toNat_natCast, Int.ofNat_lt, Int.reduceToNat, reduceCtorEq]
      refine ⟨M - (i + 1), by omega, ?_⟩
      rw [hI]
      refine ⟨i + 1, rfl, by omega, hk, h0, ?_, h40, rfl⟩
      rw [cum_succ Y (by omega)]
      rw [← Nat.add_assoc]; rfl
    · have e0 : ¬ (0 : Int) < (i : Int) := by omega
      have i0 : i = 0 := by omega
      simp (maxSteps := 1000000) (disch := omega) only [h40, h41, hlt, e0, add_n, loopQ_normal, qaaz, qabz, qacz, qadz, qaez, qajz, qalz, evOp, qaoz, qapz, qarz, qatz, qavz,
 ↓reduceIte, Nat.reduceEqDiff, Option.map_some, qazz, qbdz, qbhz, qbpz, qbrz, decide_true, decide_false,
 Int.ofNat_lt, Bool.false_eq_true, Int.reduceToNat]
      refine ⟨M - (i + 1), by omega, ?_⟩
      rw [hI]
      refine ⟨i + 1, rfl, by omega, hk, h0, ?_, h40, rfl⟩
      subst i0
      exact h8
  · obtain rfl : i = M := by omega
    simp (maxSteps := 1000000) (disch := omega) only [h8, h40, h41, hlt, qaaz, qabz, qacz, qagz, qaiz, qajz, qalz, evOp, qaoz, qapz, qarz, qatz, qavz,
 ↓reduceIte, Nat.reduceEqDiff, Option.map_some, qazz, qbbz, qbfz, qbhz, qbjz, qbpz, decide_false,
 Int.ofNat_lt, Bool.false_eq_true]
    rw [hQ0, qblz]
    unfold daysD
    rw [if_pos (by simp only [Int.toNat_natCast]; omega)]
    exact retII rfl rfl hk (by simp only [Int.toNat_natCast]; omega) rfl
end Go.Ab
/-
  Dates are read: clocks.
-/
namespace Go.Ab
set_option maxRecDepth 20000
variable {st s : St} {e : Env}

def hmsD (h m c : Int) : Int := if h < 0 ∨ 23 < h ∨ m < 0 ∨ 59 < m ∨ c < 0 ∨ 60 < c then -1 else h * 3600 + m * 60 + min c 59
def clkD (s : Bs) : Int :=
  if (splitOn 58 [] s).length < 2 ∨ 3 < (splitOn 58 [] s).length then -1
  else hmsD (digD ((splitOn 58 [] s).getD 0 []) 2 2) (digD ((splitOn 58 [] s).getD 1 []) 2 2) (if (splitOn 58 [] s).length = 3 then digD ((splitOn 58 [] s).getD 2 []) 2 2 else 0)

theorem mn_i {a b : Int} : mnmxPV false [.int .i64 a, .int .i64 b] = some (.int .i64 (min a b)) := by simp [mnmxPV]

set_option maxHeartbeats 2000000 in
theorem clock_spec {l : Bs} (hl : l.length ≤ 1000000) : call prog (.fn 290 []) [.str l] st = some (.int .i64 (clkD l), st) := by
  refine call_of_W prog_290 ?_
  unfold F_date_clock; dsimp only
  obtain ⟨xs, hxs⟩ : ∃ xs, xs = splitOn 58 [] l := ⟨_, rfl⟩
  have hsp : ∀ S : St, call prog (.fn 133 []) [.str l, .str [58]] S = some (.sl 1 .no (xs.map .str), S) := fun S => by rw [hxs]; exact Split_spec (by omega)
  have hlen : lenPV false (.sl 1 .no (xs.map .str)) = some (.int .i64 (xs.length : Int)) := by simp [lenPV]
  have hvs : (PV.sl 1 .no (xs.map .str)).vs 1 = some (xs.map .str) := by simp [PV.vs]
  have hxl : ∀ j, (xs.getD j []).length ≤ 1000000 := fun j => by
    by_cases hj : j < xs.length
    · have hm : xs.getD j [] ∈ splitOn 58 [] l := by rw [← hxs]; simp [List.getD, hj]
      have := split_len l [] _ hm
      simp at this ⊢; omega
    · have : xs[j]? = none := List.getElem?_eq_none (by omega)
      simp [List.getD, this]
  have hclk : clkD l = if xs.length < 2 ∨ 3 < xs.length then -1 else hmsD (digD (xs.getD 0 []) 2 2) (digD (xs.getD 1 []) 2 2) (if xs.length = 3 then digD (xs.getD 2 []) 2 2 else 0) := by rw [hxs]; rfl
  rw [hclk]
  by_cases n2 : xs.length < 2
  · have e2 : (xs.length : Int) < 2 := by omega
    simp (maxSteps := 1000000) (disch := omega) only [hsp, hlen, e2, qaaz, qabz, qacz, qaiz, qajz, qakz, qalz, qamz, qanz, evOp, qaoz, qapz, qaqz, qarz, qatz, qavz,
 ↓reduceIte, Nat.reduceEqDiff, List.append_nil, List.map_cons, List.map_nil, qawz, Option.map_some, qazz, qbaz, qbhz, qblz, qbpz, beq_false, decide_true, Bool.false_eq_true, reduceCtorEq, Bool.not_true]
    exact retI rfl Kept.start (by simp [n2])
  have e2 : ¬ (xs.length : Int) < 2 := by omega
  by_cases n3 : 3 < xs.length
  · have e3 : (3 : Int) < (xs.length : Int) := by omega
    simp (maxSteps := 1000000) (disch := omega) only [hsp, hlen, e2, e3, qaaz, qabz, qacz, qaiz, qajz, qakz, qalz, qamz, qanz, evOp, qaoz, qapz, qaqz, qarz, qatz, qavz,
 ↓reduceIte, Nat.reduceEqDiff, List.append_nil, List.map_cons, List.map_nil, qawz, Option.map_some, qazz, qbaz, qbhz, qblz, qbpz, qbrz, beq_false, decide_true, decide_false,
 Bool.false_eq_true, reduceCtorEq, Bool.not_false]
    exact retI rfl Kept.start (by simp [n3])
  have e3 : ¬ (3 : Int) < (xs.length : Int) := by omega
  rw [if_neg (by omega)]
  have z0 : iaddrPV 1 (.sl 1 .no (xs.map .str)) (.int .i64 0) = some (.cp [.str (xs.getD 0 [])]) := by rw [iaddr_t hvs (by decide) (by simp; omega)]; rfl
  have z1 : iaddrPV 1 (.sl 1 .no (xs.map .str)) (.int .i64 1) = some (.cp [.str (xs.getD 1 [])]) := by rw [iaddr_t hvs (by decide) (by simp; omega)]; rfl
  have c0 : ∀ v : PV, loadcPV false 1 (.cp [v]) = some v := fun _ => rfl
  have d2 := fun (j : Nat) (S : St) => digits_spec (st := S) (l := xs.getD j []) (least := 2) (most := 2) (by have := hxl j; omega) (by omega) (by omega)
  rw [show (((2 : Nat) : Int)) = 2 from rfl] at d2
  have hb := fun j => digD_bound (s := xs.getD j []) (a := 2) (b := 2) (by omega)
  have hb0 := hb 0; have hb1 := hb 1; have hb2 := hb 2
  obtain ⟨h, hh⟩ : ∃ h, h = digD (xs.getD 0 []) 2 2 := ⟨_, rfl⟩
  obtain ⟨m, hm⟩ : ∃ m, m = digD (xs.getD 1 []) 2 2 := ⟨_, rfl⟩
  have d20 := d2 0; have d21 := d2 1; have d22 := d2 2
  rw [← hh] at d20 hb0 ⊢
  rw [← hm] at d21 hb1 ⊢
  -- what is reckoned in the end
  have key : ∀ (c : Int) (E : Env) (R : (Ex → Env → St → Prop)), True := fun _ _ _ => trivial
  have m1 : ∀ a : Int, 0 ≤ a → a < 100000 → binPV .mul .no (.int .i64 a) (.int .i64 3600) = some (.int .i64 (a * 3600)) := fun a h1 h2 => by
    obtain ⟨n, rfl⟩ : ∃ n : Nat, a = (n : Int) := ⟨a.toNat, by omega⟩
    exact mul_n (c := n) (a := 3600) (by omega)
  have m2 : ∀ a : Int, 0 ≤ a → a < 100000 → binPV .mul .no (.int .i64 a) (.int .i64 60) = some (.int .i64 (a * 60)) := fun a h1 h2 => by
    obtain ⟨n, rfl⟩ : ∃ n : Nat, a = (n : Int) := ⟨a.toNat, by omega⟩
    exact mul_n (c := n) (a := 60) (by omega)
  by_cases n4 : xs.length = 3
  · have e4 : (xs.length : Int) = 3 := by omega
    have z2 : iaddrPV 1 (.sl 1 .no (xs.map .str)) (.int .i64 2) = some (.cp [.str (xs.getD 2 [])]) := by rw [iaddr_t hvs (by decide) (by simp; omega)]; rfl
    obtain ⟨c, hc⟩ : ∃ c, c = digD (xs.getD 2 []) 2 2 := ⟨_, rfl⟩
    rw [← hc] at d22 hb2 ⊢
    rw [if_pos n4]
    by_cases a1 : h < 0
    · simp (maxSteps := 1000000) (disch := omega) only [hsp, hlen, e2, e3, eq_true e4, z0, z1, z2, c0, d20, d21, d22, a1, qaaz, qabz, qacz, qaez, qaiz, qajz, qakz, qalz, qamz, qanz, evOp, qaoz, qapz, qaqz, qarz, qatz, qavz,
 ↓reduceIte, Nat.reduceEqDiff, List.append_nil, List.map_cons, List.map_nil, qawz, Option.map_some, qazz, qbaz, qbhz, qblz, qbpz, qbrz, qbtz, beq_false, decide_true, decide_false,
 Bool.false_eq_true, reduceCtorEq, Bool.not_true, Bool.not_false]
      exact retI rfl Kept.start (by simp [hmsD, a1])
    by_cases a2 : 23 < h
    · simp (maxSteps := 1000000) (disch := omega) only [hsp, hlen, e2, e3, eq_true e4, z0, z1, z2, c0, d20, d21, d22, a1, a2, qaaz, qabz, qacz, qaez, qaiz, qajz, qakz, qalz, qamz, qanz, evOp, qaoz, qapz, qaqz, qarz, qatz, qavz,
 ↓reduceIte, Nat.reduceEqDiff, List.append_nil, List.map_cons, List.map_nil, qawz, Option.map_some, qazz, qbaz, qbhz, qblz, qbpz, qbrz, qbtz, beq_false, decide_true, decide_false,
 Bool.false_eq_true, reduceCtorEq, Bool.not_true, Bool.not_false]
      exact retI rfl Kept.start (by simp [hmsD, a2])
    by_cases a3 : m < 0
    · simp (maxSteps := 1000000) (disch := omega) only [hsp, hlen, e2, e3, eq_true e4, z0, z1, z2, c0, d20, d21, d22, a1, a2, a3, qaaz, qabz, qacz, qaez, qaiz, qajz, qakz, qalz, qamz, qanz, evOp, qaoz, qapz, qaqz, qarz, qatz, qavz,
 ↓reduceIte, Nat.reduceEqDiff, List.append_nil, List.map_cons, List.map_nil, qawz, Option.map_some, qazz, qbaz, qbhz, qblz, qbpz, qbrz, qbtz, beq_false, decide_true, decide_false,
 Bool.false_eq_true, reduceCtorEq, Bool.not_true, Bool.not_false]
      exact retI rfl Kept.start (by simp [hmsD, a3])
    by_cases a4 : 59 < m
    · simp (maxSteps := 1000000) (disch := omega) only [hsp, hlen, e2, e3, eq_true e4, z0, z1, z2, c0, d20, d21, d22, a1, a2, a3, a4, qaaz, qabz, qacz, qaez, qaiz, qajz, qakz, qalz, qamz, qanz, evOp, qaoz, qapz, qaqz, qarz, qatz, qavz,
 ↓reduceIte, Nat.reduceEqDiff, List.append_nil, List.map_cons, List.map_nil, qawz, Option.map_some, qazz, qbaz, qbhz, qblz, qbpz, qbrz, qbtz, beq_false, decide_true, decide_false,
 Bool.false_eq_true, reduceCtorEq, Bool.not_true, Bool.not_false]
      exact retI rfl Kept.start (by simp [hmsD, a4])
    by_cases a5 : c < 0
    · simp (maxSteps := 1000000) (disch := omega) only [hsp, hlen, e2, e3, eq_true e4, z0, z1, z2, c0, d20, d21, d22, a1, a2, a3, a4, a5, qaaz, qabz, qacz, qaez, qaiz, qajz, qakz, qalz, qamz, qanz, evOp, qaoz, qapz, qaqz, qarz, qatz, qavz,
 ↓reduceIte, Nat.reduceEqDiff, List.append_nil, List.map_cons, List.map_nil, qawz, Option.map_some, qazz, qbaz, qbhz, qblz, qbpz, qbrz, qbtz, beq_false, decide_true, decide_false,
 Bool.false_eq_true, reduceCtorEq, Bool.not_true, Bool.not_false]
      exact retI rfl Kept.start (by simp [hmsD, a5])
    by_cases a6 : 60 < c
    · simp (maxSteps := 1000000) (disch := omega) only [hsp, hlen, e2, e3, eq_true e4, z0, z1, z2, c0, d20, d21, d22, a1, a2, a3, a4, a5, a6, qaaz, qabz, qacz, qaez, qaiz, qajz, qakz, qalz, qamz, qanz, evOp, qaoz, qapz, qaqz, qarz, qatz, qavz,
 ↓reduceIte, Nat.reduceEqDiff, List.append_nil, List.map_cons, List.map_nil, qawz, Option.map_some, qazz, qbaz, qbhz, qblz, qbpz, qbrz, qbtz, beq_false, decide_true, decide_false,
 Bool.false_eq_true, reduceCtorEq, Bool.not_false]
      exact retI rfl Kept.start (by simp [hmsD, a6])
    simp (maxSteps := 1000000) (disch := omega) only [hsp, hlen, e2, e3, eq_true e4, z0, z1, z2, c0, d20, d21, d22, a1, a2, a3, a4, a5, a6, m1, m2, mn_i, add_i, qaaz, qabz, qacz, qaez, qaiz, qajz, qakz, qalz, qamz, qanz, evOp, qaoz, qapz, qaqz, qarz, qatz, qavz,
 ↓reduceIte, Nat.reduceEqDiff, List.append_nil, List.map_cons, List.map_nil, qawz, Option.map_some, qazz, qbhz, qblz, qbpz, qbrz, qbtz, beq_false, decide_true, decide_false,
 Bool.false_eq_true, reduceCtorEq, Bool.not_false]
    exact retI rfl Kept.start (by simp [hmsD, a1, a2, a3, a4, a5, a6])
  · have e4 : ¬ (xs.length : Int) = 3 := by omega
    rw [if_neg n4]
    have p0 : ¬ (0 : Int) < 0 := by omega
    have p60 : ¬ (60 : Int) < 0 := by omega
    by_cases a1 : h < 0
    · simp (maxSteps := 1000000) (disch := omega) only [hsp, hlen, e2, e3, e4, z0, z1, c0, d20, d21, a1, qaaz, qabz, qacz, qaez, qaiz, qajz, qakz, qalz, qamz, qanz, evOp, qaoz, qapz, qaqz, qarz, qatz, qavz,
 ↓reduceIte, Nat.reduceEqDiff, List.append_nil, List.map_cons, List.map_nil, qawz, Option.map_some, qazz, qbaz, qbhz, qblz, qbpz, qbrz, qbtz, beq_false, decide_true, decide_false,
 Bool.false_eq_true, reduceCtorEq, Bool.not_true, Bool.not_false]
      exact retI rfl Kept.start (by simp [hmsD, a1])
    by_cases a2 : 23 < h
    · simp (maxSteps := 1000000) (disch := omega) only [hsp, hlen, e2, e3, e4, z0, z1, c0, d20, d21, a1, a2, qaaz, qabz, qacz, qaez, qaiz, qajz, qakz, qalz, qamz, qanz, evOp, qaoz, qapz, qaqz, qarz, qatz, qavz,
 ↓reduceIte, Nat.reduceEqDiff, List.append_nil, List.map_cons, List.map_nil, qawz, Option.map_some, qazz, qbaz, qbhz, qblz, qbpz, qbrz, qbtz, beq_false, decide_true, decide_false,
 Bool.false_eq_true, reduceCtorEq, Bool.not_true, Bool.not_false]
      exact retI rfl Kept.start (by simp [hmsD, a2])
    by_cases a3 : m < 0
    · simp (maxSteps := 1000000) (disch := omega) only [hsp, hlen, e2, e3, e4, z0, z1, c0, d20, d21, a1, a2, a3, qaaz, qabz, qacz, qaez, qaiz, qajz, qakz, qalz, qamz, qanz, evOp, qaoz, qapz, qaqz, qarz, qatz, qavz,
 ↓reduceIte, Nat.reduceEqDiff, List.append_nil, List.map_cons, List.map_nil, qawz, Option.map_some, qazz, qbaz, qbhz, qblz, qbpz, qbrz, qbtz, beq_false, decide_true, decide_false,
 Bool.false_eq_true, reduceCtorEq, Bool.not_true, Bool.not_false]
      exact retI rfl Kept.start (by simp [hmsD, a3])
    by_cases a4 : 59 < m
    · simp (maxSteps := 1000000) (disch := omega) only [hsp, hlen, e2, e3, e4, z0, z1, c0, d20, d21, a1, a2, a3, a4, qaaz, qabz, qacz, qaez, qaiz, qajz, qakz, qalz, qamz, qanz, evOp, qaoz, qapz, qaqz, qarz, qatz, qavz,
 ↓reduceIte, Nat.reduceEqDiff, List.append_nil, List.map_cons, List.map_nil, qawz, Option.map_some, qazz, qbaz, qbhz, qblz, qbpz, qbrz, qbtz, beq_false, decide_true, decide_false,
 Bool.false_eq_true, reduceCtorEq, Bool.not_true, Bool.not_false]
      exact retI rfl Kept.start (by simp [hmsD, a4])
    simp (maxSteps := 1000000) (disch := omega) only [hsp, hlen, e2, e3, e4, z0, z1, c0, d20, d21, a1, a2, a3, a4, m1, m2, mn_i, add_i, qaaz, qabz, qacz, qaez, qaiz, qajz, qakz, qalz, qamz, qanz, evOp, qaoz, qapz, qaqz, qarz, qatz, qavz,
 ↓reduceIte, Nat.reduceEqDiff, List.append_nil, List.map_cons, List.map_nil, qawz, Option.map_some, qazz, qbhz, qblz, qbpz, qbrz, qbtz, beq_false, decide_false,
 Bool.false_eq_true, reduceCtorEq, Bool.not_false, Int.reduceLT]
    exact retI rfl Kept.start (by simp [hmsD, a1, a2, a3, a4])
end Go.Ab
/-
  Dates are read: zones.
-/
namespace Go.Ab
set_option maxRecDepth 20000
variable {st s : St} {e : Env}

def zoneTab : List (Bs × Int) := [([117, 116], 0), ([103, 109, 116], 0), ([122], 0), ([], 0), ([101, 100, 116], (-14400)), ([101, 115, 116], (-18000)), ([99, 100, 116], (-18000)), ([99, 115, 116], (-21600)), ([109, 100, 116], (-21600)), ([109, 115, 116], (-25200)), ([112, 100, 116], (-25200)), ([112, 115, 116], (-28800))]
def zoneN (s : Bs) : Int × Bool :=
  if (s.getD 0 0 ≠ 43 ∧ s.getD 0 0 ≠ 45) ∨ digD (s.drop 1) 4 4 < 0 then (0, false)
  else ((if s.getD 0 0 = 45 then -(digD ((s.take 3).drop 1) 2 2 * 3600 + digD (s.drop 3) 2 2 * 60) else digD ((s.take 3).drop 1) 2 2 * 3600 + digD (s.drop 3) 2 2 * 60), decide (digD ((s.take 3).drop 1) 2 2 < 24) && decide (digD (s.drop 3) 2 2 < 60))
def zoneD (s : Bs) : Int × Bool := match zoneTab.find? (fun q => decide (lowOf s = q.1)) with
  | some q => (q.2, true)
  | none => zoneN s

theorem retIB {a b : Nat} {t u : Int} {p q : Bool} (ha : e a = .int .i64 t) (hb : e b = .bool p) (hk : Kept st s) (h1 : t = u) (h2 : p = q) : ∃ rv, resOf e s [.tmp a, .tmp b] = some rv ∧ leave st s rv = (.tup [.int .i64 u, .bool q], st) := by
  subst h1 h2; exact retV2 ha hb rfl rfl hk ⟨fun _ => rfl, fun _ _ => rfl⟩

set_option maxHeartbeats 4000000 in
theorem zone_spec {l : Bs} (hl : l.length ≤ 1000000) : call prog (.fn 291 []) [.str l] st = some (.tup [.int .i64 (zoneD l).1, .bool (zoneD l).2], st) := by
  refine call_of_W prog_291 ?_
  unfold F_date_zone; dsimp only
  have hlo := fun S : St => dlower_spec (st := S) hl
  obtain ⟨x, hx⟩ : ∃ x, x = lowOf l := ⟨_, rfl⟩
  rw [← hx] at hlo
  by_cases k0 : x = [117, 116]
  · simp (maxSteps := 1000000) (disch := omega) only [hlo, eq_true k0, qaaz, qabz, qacz, qadz, qaez, qaiz, qajz, qalz, evOp, qaoz, qapz, qaqz, qarz, qatz, qavz,
 ↓reduceIte, List.append_nil, List.map_cons, List.map_nil, qawz, Option.map_some, qazz, qbaz, qbez, qbhz, qblz, qcbz, decide_true, reduceCtorEq]
    exact retIB rfl rfl Kept.start (by simp [zoneD, zoneTab, ← hx, k0]) (by simp [zoneD, zoneTab, ← hx, k0])
  by_cases k1 : x = [103, 109, 116]
  · simp (maxSteps := 1000000) (disch := omega) only [hlo, k0, eq_true k1, qaaz, qabz, qacz, qadz, qaez, qaiz, qajz, qalz, evOp, qaoz, qapz, qaqz, qarz, qatz, qavz,
 ↓reduceIte, Nat.reduceEqDiff, List.append_nil, List.map_cons, List.map_nil, qawz, Option.map_some, qazz, qbaz, qbez, qbhz, qblz, qcbz, decide_true, decide_false,
 Bool.false_eq_true, reduceCtorEq]
    exact retIB rfl rfl Kept.start (by simp [zoneD, zoneTab, ← hx, k1]) (by simp [zoneD, zoneTab, ← hx, k1])
  by_cases k2 : x = [122]
  · simp (maxSteps := 1000000) (disch := omega) only [hlo, k0, k1, eq_true k2, qaaz, qabz, qacz, qadz, qaez, qaiz, qajz, qalz, evOp, qaoz, qapz, qaqz, qarz, qatz, qavz,
 ↓reduceIte, Nat.reduceEqDiff, List.append_nil, List.map_cons, List.map_nil, qawz, Option.map_some, qazz, qbaz, qbez, qbhz, qblz, qcbz, decide_true, decide_false,
 Bool.false_eq_true, reduceCtorEq]
    exact retIB rfl rfl Kept.start (by simp [zoneD, zoneTab, ← hx, k2]) (by simp [zoneD, zoneTab, ← hx, k2])
  by_cases k3 : x = []
  · simp (maxSteps := 1000000) (disch := omega) only [hlo, k0, k1, k2, eq_true k3, qaaz, qabz, qacz, qadz, qaiz, qajz, qalz, evOp, qaoz, qapz, qaqz, qarz, qatz, qavz,
 ↓reduceIte, Nat.reduceEqDiff, List.append_nil, List.map_cons, List.map_nil, qawz, Option.map_some, qazz, qbaz, qbez, qbhz, qblz, qcbz, decide_true, decide_false,
 Bool.false_eq_true, reduceCtorEq]
    exact retIB rfl rfl Kept.start (by simp [zoneD, zoneTab, ← hx, k3]) (by simp [zoneD, zoneTab, ← hx, k3])
  by_cases k4 : x = [101, 100, 116]
  · simp (maxSteps := 1000000) (disch := omega) only [hlo, k0, k1, k2, k3, eq_true k4, qaaz, qabz, qacz, qadz, qaiz, qajz, qalz, evOp, qaoz, qapz, qaqz, qarz, qatz, qavz,
 ↓reduceIte, Nat.reduceEqDiff, List.append_nil, List.map_cons, List.map_nil, qawz, Option.map_some, qazz, qbaz, qbez, qbhz, qblz, qcbz, decide_true, decide_false,
 Bool.false_eq_true, reduceCtorEq]
    exact retIB rfl rfl Kept.start (by simp [zoneD, zoneTab, ← hx, k4]) (by simp [zoneD, zoneTab, ← hx, k4])
  by_cases k5 : x = [101, 115, 116]
  · simp (maxSteps := 1000000) (disch := omega) only [hlo, k0, k1, k2, k3, k4, eq_true k5, qaaz, qabz, qacz, qadz, qaez, qaiz, qajz, qalz, evOp, qaoz, qapz, qaqz, qarz, qatz, qavz,
 ↓reduceIte, Nat.reduceEqDiff, List.append_nil, List.map_cons, List.map_nil, qawz, Option.map_some, qazz, qbaz, qbez, qbhz, qblz, qcbz, decide_true, decide_false,
 Bool.false_eq_true, reduceCtorEq]
    exact retIB rfl rfl Kept.start (by simp [zoneD, zoneTab, ← hx, k5]) (by simp [zoneD, zoneTab, ← hx, k5])
  by_cases k6 : x = [99, 100, 116]
  · simp (maxSteps := 1000000) (disch := omega) only [hlo, k0, k1, k2, k3, k4, k5, eq_true k6, qaaz, qabz, qacz, qadz, qaiz, qajz, qalz, evOp, qaoz, qapz, qaqz, qarz, qatz, qavz,
 ↓reduceIte, Nat.reduceEqDiff, List.append_nil, List.map_cons, List.map_nil, qawz, Option.map_some, qazz, qbaz, qbez, qbhz, qblz, qcbz, decide_true, decide_false,
 Bool.false_eq_true, reduceCtorEq]
    exact retIB rfl rfl Kept.start (by simp [zoneD, zoneTab, ← hx, k6]) (by simp [zoneD, zoneTab, ← hx, k6])
  by_cases k7 : x = [99, 115, 116]
  · simp (maxSteps := 1000000) (disch := omega) only [hlo, k0, k1, k2, k3, k4, k5, k6, eq_true k7, qaaz, qabz, qacz, qadz, qaez, qaiz, qajz, qalz, evOp, qaoz, qapz, qaqz, qarz, qatz, qavz,
 ↓reduceIte, Nat.reduceEqDiff, List.append_nil, List.map_cons, List.map_nil, qawz, Option.map_some, qazz, qbaz, qbez, qbhz, qblz, qcbz, decide_true, decide_false,
 Bool.false_eq_true, reduceCtorEq]
    exact retIB rfl rfl Kept.start (by simp [zoneD, zoneTab, ← hx, k7]) (by simp [zoneD, zoneTab, ← hx, k7])
  by_cases k8 : x = [109, 100, 116]
  · simp (maxSteps := 1000000) (disch := omega) only [hlo, k0, k1, k2, k3, k4, k5, k6, k7, eq_true k8, qaaz, qabz, qacz, qadz, qaiz, qajz, qalz, evOp, qaoz, qapz, qaqz, qarz, qatz, qavz,
 ↓reduceIte, Nat.reduceEqDiff, List.append_nil, List.map_cons, List.map_nil, qawz, Option.map_some, qazz, qbaz, qbez, qbhz, qblz, qcbz, decide_true, decide_false,
 Bool.false_eq_true, reduceCtorEq]
    exact retIB rfl rfl Kept.start (by simp [zoneD, zoneTab, ← hx, k8]) (by simp [zoneD, zoneTab, ← hx, k8])
  by_cases k9 : x = [109, 115, 116]
  · simp (maxSteps := 1000000) (disch := omega) only [hlo, k0, k1, k2, k3, k4, k5, k6, k7, k8, eq_true k9, qaaz, qabz, qacz, qadz, qaez, qaiz, qajz, qalz, evOp, qaoz, qapz, qaqz, qarz, qatz, qavz,
 ↓reduceIte, Nat.reduceEqDiff, List.append_nil, List.map_cons, List.map_nil, qawz, Option.map_some, qazz, qbaz, qbez, qbhz, qblz, qcbz, decide_true, decide_false,
 Bool.false_eq_true, reduceCtorEq]
    exact retIB rfl rfl Kept.start (by simp [zoneD, zoneTab, ← hx, k9]) (by simp [zoneD, zoneTab, ← hx, k9])
  by_cases k10 : x = [112, 100, 116]
  · simp (maxSteps := 1000000) (disch := omega) only [hlo, k0, k1, k2, k3, k4, k5, k6, k7, k8, k9, eq_true k10, qaaz, qabz, qacz, qadz, qaiz, qajz, qalz, evOp, qaoz, qapz, qaqz, qarz, qatz, qavz,
 ↓reduceIte, Nat.reduceEqDiff, List.append_nil, List.map_cons, List.map_nil, qawz, Option.map_some, qazz, qbaz, qbez, qbhz, qblz, qcbz, decide_true, decide_false,
 Bool.false_eq_true, reduceCtorEq]
    exact retIB rfl rfl Kept.start (by simp [zoneD, zoneTab, ← hx, k10]) (by simp [zoneD, zoneTab, ← hx, k10])
  by_cases k11 : x = [112, 115, 116]
  · simp (maxSteps := 1000000) (disch := omega) only [hlo, k0, k1, k2, k3, k4, k5, k6, k7, k8, k9, k10, eq_true k11, qaaz, qabz, qacz, qadz, qaiz, qajz, qalz, evOp, qaoz, qapz, qaqz, qarz, qatz, qavz,
 ↓reduceIte, Nat.reduceEqDiff, List.append_nil, List.map_cons, List.map_nil, qawz, Option.map_some, qazz, qbaz, qbez, qbhz, qblz, qcbz, decide_true, decide_false,
 Bool.false_eq_true, reduceCtorEq]
    exact retIB rfl rfl Kept.start (by simp [zoneD, zoneTab, ← hx, k11]) (by simp [zoneD, zoneTab, ← hx, k11])
  have hz : zoneD l = zoneN l := by
    have : zoneTab.find? (fun q => decide (lowOf l = q.1)) = none := by simp [zoneTab, ← hx, k0, k1, k2, k3, k4, k5, k6, k7, k8, k9, k10, k11]
    unfold zoneD; rw [this]
  rw [hz]
  have hne : l ≠ [] := fun h => k3 (by rw [hx, h]; rfl)
  have hpos := List.length_pos_iff.2 hne
  obtain ⟨a, ha⟩ : ∃ a, a = l.getD 0 0 := ⟨_, rfl⟩
  have i0 : idxSPV (.str l) (.int .i64 0) = some (.b8 a) := by rw [idx_s (by omega) (by simpa using hpos), ha]; rfl
  have s1 : slcPV 0 (.str l) (some (.int .i64 1)) none none = some (.str (l.drop 1)) := by rw [slc_s_lo (by omega) (by simp; omega)]; rfl
  have d4 := fun S : St => digits_spec (st := S) (l := l.drop 1) (least := 4) (most := 4) (by simp; omega) (by omega) (by omega)
  rw [show (((4 : Nat) : Int)) = 4 from rfl] at d4
  have d2 := fun (y : Bs) (hy : y.length ≤ 1000000) (S : St) => digits_spec (st := S) (l := y) (least := 2) (most := 2) (by omega) (by omega) (by omega)
  rw [show (((2 : Nat) : Int)) = 2 from rfl] at d2
  obtain ⟨n, hn⟩ : ∃ n, n = digD (l.drop 1) 4 4 := ⟨_, rfl⟩
  rw [← hn] at d4
  have bad : (a ≠ 43 ∧ a ≠ 45) ∨ n < 0 → ∀ E : Env, E 2 = .int .i64 0 → E 3 = .bool false → ∃ rv, resOf E { boxes := st.boxes, toks := st.toks, loops := st.loops, low := st.boxes.length } [.tmp 2, .tmp 3] = some rv ∧ leave st { boxes := st.boxes, toks := st.toks, loops := st.loops, low := st.boxes.length } rv = (.tup [.int .i64 (zoneN l).1, .bool (zoneN l).2], st) := fun h E q2 q3 => by
    have hz0 : zoneN l = (0, false) := by unfold zoneN; rw [← ha, ← hn, if_pos h]
    rw [hz0]
    exact retIB q2 q3 Kept.start rfl rfl
  have mulc : ∀ (h c : Int), -100000 < h → h < 100000 → 0 ≤ c → c ≤ 3600 → binPV .mul .no (.int .i64 h) (.int .i64 c) = some (.int .i64 (h * c)) := fun h c h1 h2 h3 h4 => by
    simp only [binPV, binI, reduceIte, Option.some.injEq]
    have e1 : h * c ≤ 100000 * 3600 := by
      rcases Int.lt_or_le h 0 with g | g
      · have := Int.mul_nonneg (show 0 ≤ -h by omega) h3
        rw [Int.neg_mul] at this; omega
      · exact Int.mul_le_mul (by omega) h4 h3 (by omega)
    have e2 : -(100000 * 3600) ≤ h * c := by
      rcases Int.lt_or_le h 0 with g | g
      · have := Int.mul_le_mul (show -h ≤ 100000 by omega) h4 h3 (by omega)
        rw [Int.neg_mul] at this; omega
      · have := Int.mul_nonneg g h3; omega
    rw [wrap64 (by omega) (by omega)]
  have fin : 0 ≤ n → l.length = 5 := fun h => by
    rw [hn] at h
    unfold digD at h
    split at h
    · rename_i q; simp at q; omega
    · omega
  by_cases c1 : a = 43
  · have c2 : ¬ a = 45 := by rw [c1]; decide
    by_cases c3 : n < 0
    · simp (maxSteps := 1000000) (disch := omega) only [hlo, k0, k1, k2, k3, k4, k5, k6, k7, k8, k9, k10, k11, i0, eq_true c1, s1, d4, c3, qaaz, qabz, qacz, qadz, qaez, qaiz, qajz, qakz, qalz, qamz, qanz, evOp, qaoz, qapz, qaqz, qarz, qatz, qavz,
 ↓reduceIte, Nat.reduceEqDiff, List.append_nil, List.map_cons, List.map_nil, qawz, Option.map_some, Option.map_none, qazz, qbaz, qbdz, qbhz, qblz, qbpz, qbwz, qcbz, beq_true, beq_false, decide_true, decide_false,
 Bool.false_eq_true, reduceCtorEq, Bool.not_false, ne_eq, not_true_eq_false]
      exact bad (.inr c3) _ rfl rfl
    · have h5 := fin (by omega)
      have s13 : slcPV 0 (.str l) (some (.int .i64 1)) (some (.int .i64 3)) none = some (.str ((l.take 3).drop 1)) := by rw [slc_s (by omega) (by omega) (by simp; omega)]; rfl
      have s3 : slcPV 0 (.str l) (some (.int .i64 3)) none none = some (.str (l.drop 3)) := by rw [slc_s_lo (by omega) (by simp; omega)]; rfl
      have dh := d2 ((l.take 3).drop 1) (by simp; omega)
      have dm := d2 (l.drop 3) (by simp; omega)
      have bh := digD_bound (s := (l.take 3).drop 1) (a := 2) (b := 2) (by omega)
      have bm := digD_bound (s := l.drop 3) (a := 2) (b := 2) (by omega)
      have hzz : zoneN l = (digD ((l.take 3).drop 1) 2 2 * 3600 + digD (l.drop 3) 2 2 * 60, decide (digD ((l.take 3).drop 1) 2 2 < 24) && decide (digD (l.drop 3) 2 2 < 60)) := by
        unfold zoneN; rw [← ha, ← hn, if_neg (by simp [c1]; omega)]; simp [c1]
      rw [hzz]
      obtain ⟨h, hh⟩ : ∃ h, h = digD ((l.take 3).drop 1) 2 2 := ⟨_, rfl⟩
      obtain ⟨m, hm⟩ : ∃ m, m = digD (l.drop 3) 2 2 := ⟨_, rfl⟩
      rw [← hh] at dh bh ⊢
      rw [← hm] at dm bm ⊢
      have mh := mulc h 3600 (by omega) (by omega) (by omega) (by omega)
      have mm := mulc m 60 (by omega) (by omega) (by omega) (by omega)
      by_cases g : h < 24
      · simp (maxSteps := 1000000) (disch := omega) only [hlo, k0, k1, k2, k3, k4, k5, k6, k7, k8, k9, k10, k11, i0, eq_true c1, c2, s1, d4, c3, s13, s3, dh, dm, mh, mm, add_i, g, qaaz, qabz, qacz, qadz, qaez, qaiz, qajz, qakz, qalz, qamz, qanz, evOp, qaoz, qapz, qaqz, qarz, qatz, qavz,
 ↓reduceIte, Nat.reduceEqDiff, List.append_nil, List.map_cons, List.map_nil, qawz, Option.map_some, Option.map_none, qazz, qbdz, qbhz, qblz, qbpz, qbvz, qbwz, qcbz, beq_true, beq_false, decide_true, decide_false,
 Bool.false_eq_true, reduceCtorEq, Bool.not_false, ne_eq, not_true_eq_false]
        exact retIB rfl rfl Kept.start rfl (by simp [])
      · simp (maxSteps := 1000000) (disch := omega) only [hlo, k0, k1, k2, k3, k4, k5, k6, k7, k8, k9, k10, k11, i0, eq_true c1, c2, s1, d4, c3, s13, s3, dh, dm, mh, mm, add_i, g, qaaz, qabz, qacz, qadz, qaez, qaiz, qajz, qakz, qalz, qamz, qanz, evOp, qaoz, qapz, qaqz, qarz, qatz, qavz,
 ↓reduceIte, Nat.reduceEqDiff, List.append_nil, List.map_cons, List.map_nil, qawz, Option.map_some, Option.map_none, qazz, qbdz, qbhz, qblz, qbpz, qbvz, qbwz, qcbz, beq_true, beq_false, decide_false,
 Bool.false_eq_true, reduceCtorEq, Bool.not_false, ne_eq, not_true_eq_false]
        exact retIB rfl rfl Kept.start rfl (by simp [])
  · by_cases c2 : a = 45
    · by_cases c3 : n < 0
      · simp (maxSteps := 1000000) (disch := omega) only [hlo, k0, k1, k2, k3, k4, k5, k6, k7, k8, k9, k10, k11, i0, c1, eq_true c2, s1, d4, c3, qaaz, qabz, qacz, qadz, qaez, qaiz, qajz, qakz, qalz, qamz, qanz, evOp, qaoz, qapz, qaqz, qarz, qatz, qavz,
 ↓reduceIte, Nat.reduceEqDiff, List.append_nil, List.map_cons, List.map_nil, qawz, Option.map_some, Option.map_none, qazz, qbaz, qbdz, qbhz, qblz, qbpz, qbwz, qcbz, beq_true, beq_false, decide_true, decide_false,
 Bool.false_eq_true, reduceCtorEq, Bool.not_false, ne_eq, not_true_eq_false, not_false_eq_true]
        exact bad (.inr c3) _ rfl rfl
      · have h5 := fin (by omega)
        have s13 : slcPV 0 (.str l) (some (.int .i64 1)) (some (.int .i64 3)) none = some (.str ((l.take 3).drop 1)) := by rw [slc_s (by omega) (by omega) (by simp; omega)]; rfl
        have s3 : slcPV 0 (.str l) (some (.int .i64 3)) none none = some (.str (l.drop 3)) := by rw [slc_s_lo (by omega) (by simp; omega)]; rfl
        have dh := d2 ((l.take 3).drop 1) (by simp; omega)
        have dm := d2 (l.drop 3) (by simp; omega)
        have bh := digD_bound (s := (l.take 3).drop 1) (a := 2) (b := 2) (by omega)
        have bm := digD_bound (s := l.drop 3) (a := 2) (b := 2) (by omega)
        have hzz : zoneN l = (-(digD ((l.take 3).drop 1) 2 2 * 3600 + digD (l.drop 3) 2 2 * 60), decide (digD ((l.take 3).drop 1) 2 2 < 24) && decide (digD (l.drop 3) 2 2 < 60)) := by
          unfold zoneN; rw [← ha, ← hn, if_neg (by simp [c2]; omega)]; simp [c2]
        rw [hzz]
        obtain ⟨h, hh⟩ : ∃ h, h = digD ((l.take 3).drop 1) 2 2 := ⟨_, rfl⟩
        obtain ⟨m, hm⟩ : ∃ m, m = digD (l.drop 3) 2 2 := ⟨_, rfl⟩
        rw [← hh] at dh bh ⊢
        rw [← hm] at dm bm ⊢
        have mh := mulc h 3600 (by omega) (by omega) (by omega) (by omega)
        have mm := mulc m 60 (by omega) (by omega) (by omega) (by omega)
        by_cases g : h < 24
        · simp (maxSteps := 1000000) (disch := omega) only [hlo, k0, k1, k2, k3, k4, k5, k6, k7, k8, k9, k10, k11, i0, c1, eq_true c2, s1, d4, c3, s13, s3, dh, dm, mh, mm, add_i, neg_i, g, qaaz, qabz, qacz, qadz, qaez, qaiz, qajz, qakz, qalz, qamz, qanz, evOp, qaoz, qapz, qaqz, qarz, qatz, qavz,
 ↓reduceIte, Nat.reduceEqDiff, List.append_nil, List.map_cons, List.map_nil, qawz, Option.map_some, Option.map_none, qazz, qbdz, qbhz, qblz, qbpz, qbvz, qbwz, qcbz, beq_true, beq_false, decide_true, decide_false,
 Bool.false_eq_true, reduceCtorEq, Bool.not_false, ne_eq, not_true_eq_false, not_false_eq_true]
          exact retIB rfl rfl Kept.start rfl (by simp [])
        · simp (maxSteps := 1000000) (disch := omega) only [hlo, k0, k1, k2, k3, k4, k5, k6, k7, k8, k9, k10, k11, i0, c1, eq_true c2, s1, d4, c3, s13, s3, dh, dm, mh, mm, add_i, neg_i, g, qaaz, qabz, qacz, qadz, qaez, qaiz, qajz, qakz, qalz, qamz, qanz, evOp, qaoz, qapz, qaqz, qarz, qatz, qavz,
 ↓reduceIte, Nat.reduceEqDiff, List.append_nil, List.map_cons, List.map_nil, qawz, Option.map_some, Option.map_none, qazz, qbdz, qbhz, qblz, qbpz, qbvz, qbwz, qcbz, beq_true, beq_false, decide_true, decide_false,
 Bool.false_eq_true, reduceCtorEq, Bool.not_false, ne_eq, not_true_eq_false, not_false_eq_true]
          exact retIB rfl rfl Kept.start rfl (by simp [])
    · simp (maxSteps := 1000000) (disch := omega) only [hlo, k0, k1, k2, k3, k4, k5, k6, k7, k8, k9, k10, k11, i0, c1, c2, qaaz, qabz, qacz, qadz, qaez, qaiz, qajz, qakz, qalz, qamz, qanz, evOp, qaoz, qapz, qaqz, qarz, qatz, qavz,
 ↓reduceIte, Nat.reduceEqDiff, List.append_nil, List.map_cons, List.map_nil, qawz, Option.map_some, qazz, qbaz, qbdz, qbhz, qblz, qbwz, qcbz, beq_true, beq_false, decide_true, decide_false,
 Bool.false_eq_true, reduceCtorEq, Bool.not_true, ne_eq, not_false_eq_true]
      exact bad (.inl ⟨c1, c2⟩) _ rfl rfl
end Go.Ab
/-
  Dates are read: what stands between ( and ) is left out.
-/
namespace Go.Ab
set_option maxRecDepth 20000
variable {st s : St} {e : Env} {b : Nat} {x : PV} {l : List UInt8}

theorem WriteString_spec2 {m : List UInt8} (h : Bu s b x l) (hl : l.length + m.length ≤ room) : ∃ x' s', call prog (.fn 58 []) [.ptr b 0, .str m] s = some (.tup [.int .i64 (m.length : Int), .nili], s') ∧ BuStep s s' b x x' (l ++ m) ∧ (x = .nils → m = [] → x' = .nils) := by
  have hlt := h.lt
  obtain ⟨s1, c1, c2⟩ := copyCheck_spec (s := { s with low := s.boxes.length }) ⟨h.bx, h.lv.move fun _ _ => rfl⟩
  have ld : loadPV s1 false 1 (.ptr b 1) = some x := by simp [c2, loadPV, hlt, readCells]
  obtain ⟨x', s2, s3, a1, a2, a3⟩ := bu_app (s := s) (s0 := s1) (b := b) (y := .str m) (m := m) h.lv hlt (by rw [c2]) (by rw [c2]) (by rw [c2]; exact Nat.le_refl _) (fun i hi => by rw [c2]) rfl hl (by rw [c2])
  obtain ⟨s', k1, k2⟩ := a3 (.tup [.int .i64 (m.length : Int), .nili]) rfl (fun _ _ => rfl)
  refine ⟨x', s', call_of_W prog_58 ?_, k2, fun hx hm => ?_⟩
  · unfold F_P_strings_Builder_WriteString; dsimp only
    have c1' : call prog (.fn 73 []) [.ptr b 0] { boxes := s.boxes, toks := s.toks, loops := s.loops, low := s.boxes.length } = some (.tup [], s1) := by
      rw [call_primS prog_73]; exact c1
    have hlen : lenPV true (.str m) = some (.int .i64 (m.length : Int)) := rfl
    simp (maxSteps := 1000000) (disch := omega) only [c1', faddrPV, Nat.zero_add, ld, a1, a2, hlen, qaaz, qabz, qaiz, qajz, qalz, evOp, qaoz, qapz, qaqz, qarz, qatz, qauz, qavz,
 ↓reduceIte, Nat.reduceEqDiff, List.append_nil, List.map_cons, List.map_nil, qawz, qaxz, Option.map_some, qazz, qblz, qckz, reduceCtorEq]
    exact ⟨.tup [.int .i64 (m.length : Int), .nili], rfl, k1⟩
  · subst hx hm
    simp [app8, src8] at a1
    exact a1.1.symm

def bareD : Nat → Bs → Bs
  | 0, _ => []
  | n + 1, s =>
    if Lib.index s [40] < 0 then s
    else if Lib.index (s.drop ((Lib.index s [40]).toNat + 1)) [41] < 0 then s.take (Lib.index s [40]).toNat ++ [40]
    else s.take (Lib.index s [40]).toNat ++ 32 :: bareD n ((s.drop ((Lib.index s [40]).toNat + 1)).drop ((Lib.index (s.drop ((Lib.index s [40]).toNat + 1)) [41]).toNat + 1))
def bareT (s : Bs) : Bs := bareD (s.length + 1) s

theorem bare_no {s : Bs} {n : Nat} (h : Lib.index s [40] = -1) : bareD (n + 1) s = s := by
  rw [bareD, h, if_pos (by decide)]
theorem bare_open {a t : Bs} {n : Nat} (ha : ∀ c ∈ a, c ≠ 40) (h : Lib.index t [41] = -1) : bareD (n + 1) (a ++ 40 :: t) = a ++ [40] := by
  have h1 := index_chr (k := 40) a t ha
  have e : (a ++ 40 :: t).drop (a.length + 1) = t := by simp [List.drop_append]
  rw [bareD, h1, if_neg (by omega), Int.toNat_natCast, e, h, if_pos (by decide), List.take_left]
theorem bare_shut {a p u : Bs} {n : Nat} (ha : ∀ c ∈ a, c ≠ 40) (hp : ∀ c ∈ p, c ≠ 41) : bareD (n + 1) (a ++ 40 :: (p ++ 41 :: u)) = a ++ 32 :: bareD n u := by
  have h1 := index_chr (k := 40) a (p ++ 41 :: u) ha
  have h2 := index_chr (k := 41) p u hp
  have e : (a ++ 40 :: (p ++ 41 :: u)).drop (a.length + 1) = p ++ 41 :: u := by simp [List.drop_append]
  have e2 : (p ++ 41 :: u).drop (p.length + 1) = u := by simp [List.drop_append]
  rw [bareD, h1, if_neg (by omega), Int.toNat_natCast, e, h2, if_neg (by omega), Int.toNat_natCast, e2, List.take_left]

set_option maxHeartbeats 2000000 in
theorem bare_spec {s : Bs} (hl : s.length ≤ 1000000) : call prog (.fn 284 []) [.str s] st = some (.str (bareT s), st) := by
  refine call_of_W prog_284 ?_
  unfold F_date_bare; dsimp only
  obtain ⟨T, hT⟩ : ∃ T, T = bareT s := ⟨_, rfl⟩
  rw [← hT]
  simp (maxSteps := 1000000) (disch := omega) only [allocPV, qaaz, qabz, qadz, qajz, qalz, evOp, qapz, qarz, qatz, List.append_nil, qazz]
  obtain ⟨Q0, hQ0⟩ : ∃ Q0 : Ex → Env → St → Prop, Q0 = endQ st [.tmp 2] (.str T, st) := ⟨_, rfl⟩
  rw [← hQ0]
  obtain ⟨I, hI⟩ : ∃ I : Nat → Env → St → Prop, I = fun k E S => ∃ (r acc : Bs) (x : PV) (j : Nat), k = r.length ∧ Kept st S ∧ Bu S st.boxes.length x acc ∧ (∀ t, tokOf x = some t → st.toks.length ≤ t) ∧ (acc = [] → x = .nils) ∧ acc.length + r.length ≤ s.length ∧ T = acc ++ bareD (r.length + j + 1) r ∧ E 0 = .str r ∧ E 3 = .ptr st.boxes.length 0 := ⟨_, rfl⟩
  refine W_loop I ?_ (n := s.length) (by
    rw [hI]
    exact ⟨s, [], .nils, 0, rfl, Kept.start.alloc, ⟨.inl (by simp), .inl ⟨rfl, rfl⟩⟩, fun t h => (by cases h), fun _ => rfl, by simp, hT, rfl, rfl⟩)
  intro k E S hh
  rw [hI] at hh
  obtain ⟨r, acc, x, j, rfl, hk, hb, hm, hz, hal, hTT, h0, h3⟩ := hh
  have hcut := fun (q : Bs) (c : UInt8) (hq : q.length ≤ 1000000) (S : St) => Cut_spec (st := S) (a := q) (b := [c]) (by omega) (by simp)
  have hc1 := hcut r 40 (by omega)
  rcases chr_split 40 r with ⟨q1, q2⟩ | ⟨n, t, q1, q2⟩
  · have hcc : cutAt r [40] = .tup [.str r, .str [], .bool false] := by unfold cutAt; rw [q2, if_neg (by decide)]
    rw [hcc] at hc1
    rw [bare_no q2] at hTT
    obtain ⟨y, s2, a1, a2, a3⟩ := WriteString_spec2 (m := r) hb (by simp only [room]; omega)
    obtain ⟨k1, k2⟩ := hk.step a2 (Nat.le_refl _) hm
    have hz2 : acc ++ r = [] → y = .nils := fun h => by
      obtain ⟨h1, h2⟩ := List.append_eq_nil_iff.1 h
      exact a3 (hz h1) h2
    obtain ⟨s3, b1, k3⟩ := k1.string (BString_spec (a2.bu hb.lt) hz2 (by simp only [room, List.length_append]; omega)) k2
    simp (maxSteps := 1000000) (disch := omega) only [h0, h3, hc1, a1, b1, qaaz, qabz, qacz, qadz, qaiz, qajz, qalz, evOp, qaoz, qapz, qaqz, qarz, qatz, qavz,
 ↓reduceIte, Nat.reduceEqDiff, List.map_cons, List.map_nil, Option.map_some, qazz, qbaz, qbez, qbhz, qbiz, qcfz, qcjz, List.getElem?_cons_zero, List.getElem?_cons_succ, Bool.not_false]
    rw [hQ0, qblz, hTT]
    exact retS rfl k3 rfl
  · have hix := index_chr (k := 40) n t q2
    have hcc : cutAt r [40] = .tup [.str n, .str t, .bool true] := by
      unfold cutAt
      rw [q1, hix, if_pos (by omega), Int.toNat_natCast]
      simp [List.drop_append]
    rw [hcc] at hc1
    have hrl : n.length + 1 + t.length = r.length := by rw [q1]; simp; omega
    obtain ⟨y, s2, a1, a2, a3⟩ := WriteString_spec2 (m := n) hb (by simp only [room]; omega)
    obtain ⟨k1, k2⟩ := hk.step a2 (Nat.le_refl _) hm
    have hz2 : acc ++ n = [] → y = .nils := fun h => by
      obtain ⟨h1, h2⟩ := List.append_eq_nil_iff.1 h
      exact a3 (hz h1) h2
    have hc2 := hcut t 41 (by omega)
    rcases chr_split 41 t with ⟨p1, p2⟩ | ⟨p, u, p1, p2⟩
    · have hcc2 : cutAt t [41] = .tup [.str t, .str [], .bool false] := by unfold cutAt; rw [p2, if_neg (by decide)]
      rw [hcc2] at hc2
      rw [q1, bare_open q2 p2] at hTT
      obtain ⟨s3, b1, k3⟩ := k1.string (BString_spec (a2.bu hb.lt) hz2 (by simp only [room, List.length_append]; omega)) k2
      have had : binPV .add .no (.str (acc ++ n)) (.str [40]) = some (.str (acc ++ n ++ [40])) := adds (by simp; omega)
      simp (maxSteps := 1000000) (disch := omega) only [h0, h3, hc1, a1, hc2, b1, had, qaaz, qabz, qacz, qadz, qaez, qaiz, qajz, qalz, evOp, qaoz, qapz, qaqz, qarz, qatz, qavz,
 ↓reduceIte, Nat.reduceEqDiff, List.map_cons, List.map_nil, Option.map_some, qazz, qbaz, qbez, qbhz, qbiz, qcfz, Bool.false_eq_true, qcjz, List.getElem?_cons_zero, List.getElem?_cons_succ, reduceCtorEq, Bool.not_true, Bool.not_false]
      rw [hQ0, qblz, hTT]
      exact retS rfl k3 (by simp)
    · have hix2 := index_chr (k := 41) p u p2
      have hcc2 : cutAt t [41] = .tup [.str p, .str u, .bool true] := by
        unfold cutAt
        rw [p1, hix2, if_pos (by omega), Int.toNat_natCast]
        simp [List.drop_append]
      rw [hcc2] at hc2
      have htl : p.length + 1 + u.length = t.length := by rw [p1]; simp; omega
      rw [q1, p1, bare_shut q2 p2] at hTT
      obtain ⟨z, s3, b1, b2⟩ := WriteByte_spec (c := 32) (a2.bu hb.lt) (by simp only [room, List.length_append]; omega)
      obtain ⟨k3, k4⟩ := k1.step b2 (Nat.le_refl _) k2
      have hlt2 : st.boxes.length < s2.boxes.length := by rw [a2.bx]; simpa using hb.lt
      simp (maxSteps := 1000000) (disch := omega) only [h0, h3, hc1, a1, hc2, b1, loopQ_normal, qaaz, qabz, qacz, qadz, qaez, qajz, qalz, evOp, qaoz, qapz, qaqz, qarz, qatz, qavz,
 ↓reduceIte, Nat.reduceEqDiff, List.map_cons, List.map_nil, Option.map_some, qazz, qbdz, qbhz, qcfz, Bool.false_eq_true, qcjz, List.getElem?_cons_zero, List.getElem?_cons_succ, reduceCtorEq, Bool.not_true]
      refine ⟨u.length, by omega, ?_⟩
      rw [hI]
      refine ⟨u, acc ++ n ++ [32], z, r.length + j - u.length - 1, rfl, k3, b2.bu hlt2, k4, fun h => by simp at h, by simp; omega, ?_, rfl, h3⟩
      rw [hTT]
      have : (n ++ 40 :: (p ++ 41 :: u)).length + j = u.length + (r.length + j - u.length - 1) + 1 := by simp; omega
      rw [this]; simp
end Go.Ab
/-
  Dates are read: words, plain.
-/
namespace Go.Ab
set_option maxRecDepth 20000

def wordsG : Bs → Bs → List Bs
  | [], acc => if acc = [] then [] else [acc]
  | c :: r, acc => if c = 32 ∨ c = 9 then (if acc = [] then wordsG r [] else acc :: wordsG r []) else wordsG r (acc ++ [c])
def noBl (w : Bs) : Prop := ∀ c ∈ w, c ≠ 32 ∧ c ≠ 9

theorem words_pass {r : Bs} : ∀ (w acc : Bs), noBl w → wordsG (w ++ r) acc = wordsG r (acc ++ w)
  | [], acc, _ => by simp
  | c :: w, acc, h => by
    have hc := h c (by simp)
    rw [List.cons_append, wordsG, if_neg (by simp [hc.1, hc.2]), words_pass w _ fun x hx => h x (by simp [hx])]
    simp
theorem words_bl {r acc : Bs} {c : UInt8} (hc : c = 32 ∨ c = 9) (ha : acc ≠ []) : wordsG (c :: r) acc = acc :: wordsG r [] := by
  rw [wordsG, if_pos hc, if_neg ha]
theorem words_bl0 {r : Bs} {c : UInt8} (hc : c = 32 ∨ c = 9) : wordsG (c :: r) [] = wordsG r [] := by
  rw [wordsG, if_pos hc, if_pos rfl]
theorem words_end {acc : Bs} (ha : acc ≠ []) : wordsG [] acc = [acc] := by rw [wordsG, if_neg ha]
theorem words_one {w r : Bs} (h : noBl w) (hw : w ≠ []) : wordsG (w ++ 32 :: r) [] = w :: wordsG r [] := by
  rw [words_pass w [] h, List.nil_append, words_bl (.inl rfl) hw]
theorem words_last {w : Bs} (h : noBl w) (hw : w ≠ []) : wordsG w [] = [w] := by
  have := words_pass (r := []) w [] h
  rw [List.append_nil] at this
  rw [this, List.nil_append, words_end hw]
end Go.Ab
/-
  Dates are read: the iterator over words.
-/
namespace Go.Ab
set_option maxRecDepth 20000
variable {st s : St} {e : Env}

theorem words_spec {l : Bs} : call prog (.fn 285 []) [.str l] st = some (.fn 310 [.ptr st.boxes.length 0], { boxes := st.boxes ++ [[.str l]], toks := st.toks, loops := st.loops, low := min st.low st.boxes.length }) := by
  refine call_of_W prog_285 ?_
  unfold F_date_words; dsimp only
  have h1 : (PV.str l).inB st.boxes.length = true := rfl
  have h2 : (PV.str l).cells = [.str l] := rfl
  have h3 : leafOk (.str l) = true := rfl
  simp (maxSteps := 1000000) (disch := omega) only [h1, h2, h3, and_self, allocPV, capOk, List.all_cons, List.all_nil, Bool.and_true, qaaz, qabz, qaiz, qajz, qalz, evOp, qaoz, qapz, qarz, qatz, qavz,
 ↓reduceIte, Nat.reduceEqDiff, List.append_nil, List.map_cons, List.map_nil, qawz, qazz, qblz]
  exact ⟨.fn 310 [.ptr st.boxes.length 0], rfl, by simp [leave, PV.inB, PV.inB.inBAll]⟩

set_option maxHeartbeats 2000000 in
theorem words_iter {l : Bs} (hl : l.length ≤ 1000000) {b k : Nat} {P : List Bs → St → Prop} {D : St → Prop}
    (hbox : ∀ r s, P r s → s.boxes[b]? = some [.str l])
    (hY : ∀ w r s, P (w :: r) s → ∃ s', call prog (.yld k) [.str w] s = some (.bool true, s') ∧ P r s')
    (hD : ∀ s, P [] s → D s)
    (h0 : P (wordsG l []) { st with low := st.boxes.length }) : ∃ s1, D s1 ∧ call prog (.fn 310 [.ptr b 0]) [.yld k] st = some (leave st s1 (.tup [])) := by
  have key : W prog F_date_words_c1.body (env0 ([.yld k] ++ [.ptr b 0])) { st with low := st.boxes.length } (fun xx e1 s1 => (xx = .normal ∨ xx = .ret) ∧ D s1) := by
    obtain ⟨QQ, hQQ⟩ : ∃ QQ : Ex → Env → St → Prop, QQ = fun xx e1 s1 => (xx = .normal ∨ xx = .ret) ∧ D s1 := ⟨_, rfl⟩
    rw [← hQQ]
    unfold F_date_words_c1; dsimp only
    have hb0 := hbox _ _ h0
    have hld0 : loadPV { st with low := st.boxes.length } false 1 (.ptr b 0) = some (.str l) := by
      simp only at hb0
      simp [loadPV, hb0, readCells]
    simp (maxSteps := 1000000) (disch := omega) only [hld0, len_s, qaaz, qabz, qadz, qajz, qalz, evOp, qaoz, qapz, qarz, qatz, qavz,
 ↓reduceIte, Nat.reduceEqDiff, List.nil_append, List.cons_append, qawz, qaxz, Option.map_some, qazz]
    obtain ⟨I, hI⟩ : ∃ I : Nat → Env → St → Prop, I = fun n E s => ∃ (i : Nat) (now : Bs), n = l.length - i ∧ i ≤ l.length ∧ now.length ≤ i ∧ P (wordsG (l.drop i) now) s ∧ E 0 = .yld k ∧ E 1 = .ptr b 0 ∧ E 3 = .str now ∧ E 6 = .int .i64 (l.length : Int) ∧ E 7 = .int .i64 (i : Int) := ⟨_, rfl⟩
    refine W_loop I ?_ (n := l.length) (by rw [hI]; exact ⟨0, [], rfl, by omega, by simp, h0, rfl, rfl, rfl, rfl, rfl⟩)
    intro n E s h
    rw [hI] at h
    obtain ⟨i, now, rfl, hi, hno, hP, e0, e1, e3, e6, e7⟩ := h
    have hb := hbox _ _ hP
    have hld : loadPV s false 1 (.ptr b 0) = some (.str l) := by simp [loadPV, hb, readCells]
    by_cases hlt : i < l.length
    · obtain ⟨c, hc⟩ : ∃ c, c = l.getD i 0 := ⟨_, rfl⟩
      have hd : l.drop i = c :: l.drop (i + 1) := by rw [List.drop_eq_getElem_cons hlt, hc]; simp [List.getD, hlt]
      have next : ∀ (now' : Bs) (s' : St), now'.length ≤ i + 1 → P (wordsG (l.drop (i + 1)) now') s' → ∀ E : Env, E 0 = .yld k → E 1 = .ptr b 0 → E 3 = .str now' → E 6 = .int .i64 (l.length : Int) → E 7 = .int .i64 ((i + 1 : Nat) : Int) → ∃ m, m < l.length - i ∧ I m E s' := fun now' s' q1 q2 E k0 k1 k3 k6 k7 =>
        ⟨l.length - (i + 1), by omega, by rw [hI]; exact ⟨i + 1, now', rfl, by omega, q1, q2, k0, k1, k3, k6, k7⟩⟩
      rw [hd] at hP
      by_cases hw : c = 32 ∨ c = 9
      · by_cases hn : now = []
        · subst hn
          rw [words_bl0 hw] at hP
          by_cases c1 : c = 32
          · simp (maxSteps := 1000000) (disch := omega) only [e1, e3, e6, e7, hlt, hld, idx_s, ← hc, eq_true c1, add_n, loopQ_normal, qaaz, qabz, qacz, qadz, qaez, qajz, qakz, qalz, qamz, qanz, evOp, qaoz, qapz, qarz, qatz, qavz,
 ↓reduceIte, Nat.reduceEqDiff, Option.map_some, qazz, qbdz, qbhz, qbpz, qbwz, qccz, beq_true, decide_true, decide_false,
 Int.toNat_natCast, Int.ofNat_lt, Bool.false_eq_true, Int.reduceToNat, ne_eq, not_true_eq_false]
            exact next [] s (by simp) hP _ e0 e1 rfl e6 rfl
          · have c2 : c = 9 := hw.resolve_left c1
            simp (maxSteps := 1000000) (disch := omega) only [e1, e3, e6, e7, hlt, hld, idx_s, ← hc, c1, eq_true c2, add_n, loopQ_normal, qaaz, qabz, qacz, qadz, qaez, qajz, qakz, qalz, qamz, qanz, evOp, qaoz, qapz, qarz, qatz, qavz,
 ↓reduceIte, Nat.reduceEqDiff, Option.map_some, qazz, qbdz, qbhz, qbpz, qbwz, qccz, beq_true, decide_true, decide_false,
 Int.toNat_natCast, Int.ofNat_lt, Bool.false_eq_true, Int.reduceToNat, ne_eq, not_true_eq_false, not_false_eq_true]
            exact next [] s (by simp) hP _ e0 e1 rfl e6 rfl
        · rw [words_bl hw hn] at hP
          obtain ⟨s', y1, y2⟩ := hY _ _ _ hP
          by_cases c1 : c = 32
          · simp (maxSteps := 1000000) (disch := omega) only [e0, e1, e3, e6, e7, hlt, hld, idx_s, ← hc, eq_true c1, hn, y1, add_n, loopQ_normal, qaaz, qabz, qacz, qadz, qaez, qajz, qakz, qalz, qamz, qanz, evOp, qaoz, qapz, qarz, qatz, qavz,
 ↓reduceIte, Nat.reduceEqDiff, List.map_cons, List.map_nil, Option.map_some, qazz, qbdz, qbhz, qbpz, qbwz, qccz, qcfz, beq_true, decide_true, decide_false,
 Int.toNat_natCast, Int.ofNat_lt, Bool.false_eq_true, Int.reduceToNat, reduceCtorEq, Bool.not_true, ne_eq, not_true_eq_false, not_false_eq_true]
            exact next [] s' (by simp) y2 _ e0 e1 rfl e6 rfl
          · have c2 : c = 9 := hw.resolve_left c1
            simp (maxSteps := 1000000) (disch := omega) only [e0, e1, e3, e6, e7, hlt, hld, idx_s, ← hc, c1, eq_true c2, hn, y1, add_n, loopQ_normal, qaaz, qabz, qacz, qadz, qaez, qajz, qakz, qalz, qamz, qanz, evOp, qaoz, qapz, qarz, qatz, qavz,
 ↓reduceIte, Nat.reduceEqDiff, List.map_cons, List.map_nil, Option.map_some, qazz, qbdz, qbhz, qbpz, qbwz, qccz, qcfz, beq_true, decide_true, decide_false,
 Int.toNat_natCast, Int.ofNat_lt, Bool.false_eq_true, Int.reduceToNat, reduceCtorEq, Bool.not_true, ne_eq, not_true_eq_false, not_false_eq_true]
            exact next [] s' (by simp) y2 _ e0 e1 rfl e6 rfl
      · have n1 : ¬ c = 32 := fun h => hw (.inl h)
        have n2 : ¬ c = 9 := fun h => hw (.inr h)
        rw [wordsG, if_neg hw] at hP
        have hs : slcPV 0 (.str l) (some (.int .i64 (i : Int))) (some (.int .i64 ((i + 1 : Nat) : Int))) none = some (.str [c]) := by
          rw [slc_s (by omega) (by omega) (by omega), Int.toNat_natCast, Int.toNat_natCast, hc]
          congr 2
          rw [List.take_add_one, List.drop_append_of_le_length (by simp; omega), List.drop_of_length_le (by simp; omega)]
          simp [List.getD, hlt]
        have ha : binPV .add .no (.str now) (.str [c]) = some (.str (now ++ [c])) := adds (by simp; omega)
        simp (maxSteps := 1000000) (disch := omega) only [e1, e3, e6, e7, hlt, hld, idx_s, ← hc, n1, n2, hs, ha, add_n, loopQ_normal, qaaz, qabz, qacz, qadz, qaez, qagz, qajz, qakz, qalz, qamz, qanz, evOp, qaoz, qapz, qarz, qatz, qavz,
 ↓reduceIte, Nat.reduceEqDiff, Option.map_some, Option.map_none, qazz, qbbz, qbfz, qbhz, qbpz, qbwz, beq_true, decide_true, Int.toNat_natCast, Int.ofNat_lt, Int.reduceToNat, ne_eq, not_false_eq_true]
        exact next (now ++ [c]) s (by simp; omega) hP _ e0 e1 rfl e6 rfl
    · obtain rfl : i = l.length := by omega
      rw [List.drop_length] at hP
      by_cases hn : now = []
      · subst hn
        have hP0 : P [] s := by simpa [wordsG] using hP
        simp (maxSteps := 1000000) (disch := omega) only [e3, e6, e7, hlt, qaaz, qabz, qacz, qaez, qagz, qajz, qalz, evOp, qaoz, qapz, qarz, qatz, qavz,
 ↓reduceIte, Nat.reduceEqDiff, Option.map_some, qazz, qbbz, qbfz, qbhz, qbjz, qbpz, qccz, decide_false,
 Int.ofNat_lt, Bool.false_eq_true, ne_eq, not_true_eq_false]
        rw [hQQ]; exact ⟨.inl rfl, hD _ hP0⟩
      · rw [words_end hn] at hP
        obtain ⟨s', y1, y2⟩ := hY _ _ _ hP
        simp (maxSteps := 1000000) (disch := omega) only [e0, e3, e6, e7, hlt, hn, y1, qaaz, qabz, qacz, qagz, qajz, qalz, evOp, qaoz, qapz, qarz, qatz, qavz,
 ↓reduceIte, Nat.reduceEqDiff, List.map_cons, List.map_nil, Option.map_some, qazz, qbbz, qbfz, qbhz, qbjz, qbpz, qccz, decide_true, decide_false,
 Int.ofNat_lt, Bool.false_eq_true, reduceCtorEq, ne_eq, not_false_eq_true]
        rw [hQQ]; exact ⟨.inl rfl, hD _ y2⟩
  obtain ⟨⟨xx, e1, s1⟩, h1, h2, h3⟩ := key
  refine ⟨s1, h3, ?_⟩
  rw [call_fn prog_310, h1]
  have hr : resOf e1 s1 F_date_words_c1.results = some (.tup []) := rfl
  rcases h2 with rfl | rfl <;> simp [finish, hr]
end Go.Ab
/-
  Dates are read: a day's name ahead of the words, plain; a written date's words.
-/
namespace Go.Ab
set_option maxRecDepth 20000

def wdGo (first rest : Bs) (r : List Bs) : Int × List Bs := if nmD first 7 dayT < 0 then (-2, []) else (nmD first 7 dayT, if rest = [] then r else rest :: r)
def wdD : List Bs → Int × List Bs
  | [] => (-2, [])
  | w :: r =>
    if 0 ≤ Lib.index w [44] then wdGo (w.take (Lib.index w [44]).toNat) (w.drop ((Lib.index w [44]).toNat + 1)) r
    else match r with
      | v :: r' => if v.head? = some 44 then wdGo w (v.drop 1) r' else (-1, w :: r)
      | [] => (-1, w :: r)

theorem nm_day {w : Nat} (h : w < 7) : nmD (dayT w) 7 dayT = w := by
  have := List.all_eq_true.1 (show (List.range 7).all (fun w => nmD (dayT w) 7 dayT == (w : Int)) = true by kernel_rfl) w (List.mem_range.2 h)
  simpa only [beq_iff_eq] using this
theorem nm_mon {m : Nat} (h0 : 1 ≤ m) (h : m ≤ 12) : nmD (monT m) 13 monT = m := by
  have := List.all_eq_true.1 (show (List.range 13).all (fun m => m == 0 || nmD (monT m) 13 monT == (m : Int)) = true by kernel_rfl) m (List.mem_range.2 (by omega))
  simp only [Bool.or_eq_true, beq_iff_eq] at this
  rcases this with h1 | h1
  · omega
  · exact h1
theorem dg_fact (n : Nat) : isDg (dg n) = true ∧ ((dg n - 48).toNat) = n % 10 ∧ dg n ≠ 32 ∧ dg n ≠ 9 ∧ dg n ≠ 40 ∧ dg n ≠ 58 := by
  have := List.all_eq_true.1 (show (List.range 10).all (fun n => isDg (UInt8.ofNat (48 + n)) && (UInt8.ofNat (48 + n) - 48).toNat == n && UInt8.ofNat (48 + n) != 32 && UInt8.ofNat (48 + n) != 9 && UInt8.ofNat (48 + n) != 40 && UInt8.ofNat (48 + n) != 58) = true by kernel_rfl) (n % 10) (List.mem_range.2 (Nat.mod_lt _ (by omega)))
  simp only [Bool.and_eq_true, beq_iff_eq, bne_iff_ne, and_assoc] at this
  exact this
end Go.Ab
/-
  Dates are read: a written date is read as it was, plain.
-/
namespace Go.Ab
set_option maxRecDepth 20000

def finD (wd : Int) (n : Int × Int) (c : Int) (z : Int × Bool) : Int × Int × Int :=
  if n.2 ≠ 0 ∨ c < 0 ∨ z.2 = false ∨ ¬ (0 ≤ n.1 * 86400 + c - z.1 ∧ n.1 * 86400 + c - z.1 ≤ 253402300799) then (0, 0, 110)
  else if 0 ≤ wd ∧ wd ≠ (wkOf n.1).1 then (0, 0, 110) else (n.1 * 86400 + c - z.1, z.1, 0)
def lstD (wd : Int) (l : List Bs) : Int × Int × Int :=
  if wd = -2 ∨ l.length < 4 ∨ 5 < l.length then (0, 0, 110)
  else finD wd (daysD (yrD (l.getD 2 [])) (nmD (l.getD 1 []) 13 monT) (digD (l.getD 0 []) 1 2)) (clkD (l.getD 3 [])) (zoneD (l.getD 4 []))
def parseD (s : Bs) : Int × Int × Int := lstD (wdD (wordsG (bareT s) [])).1 (wdD (wordsG (bareT s) [])).2

def clW (w : Bs) : Prop := ∀ c ∈ w, c ≠ 32 ∧ c ≠ 9 ∧ c ≠ 40
theorem clW.app {a b : Bs} (h : clW a) (k : clW b) : clW (a ++ b) := fun c hc => by
  rcases List.mem_append.1 hc with h1 | h1
  · exact h c h1
  · exact k c h1
theorem clW.bl {a : Bs} (h : clW a) : noBl a := fun c hc => ⟨(h c hc).1, (h c hc).2.1⟩
theorem clW_two (n : Nat) : clW (twoT n) := by
  intro c hc
  simp only [twoT, List.mem_cons, List.not_mem_nil, or_false] at hc
  rcases hc with rfl | rfl
  · have := dg_fact (n / 10); exact ⟨this.2.2.1, this.2.2.2.1, this.2.2.2.2.1⟩
  · have := dg_fact n; exact ⟨this.2.2.1, this.2.2.2.1, this.2.2.2.2.1⟩
theorem clW_one {c : UInt8} (h : c ≠ 32 ∧ c ≠ 9 ∧ c ≠ 40) : clW [c] := fun d hd => by
  rw [List.mem_singleton.1 hd]; exact h
theorem day_cl {w : Nat} (h : w < 7) : clW (dayT w) ∧ ∀ c ∈ dayT w, c ≠ 44 := by
  have := List.all_eq_true.1 (show (List.range 7).all (fun w => (dayT w).all fun c => c != 32 && c != 9 && c != 40 && c != 44) = true by kernel_rfl) w (List.mem_range.2 h)
  rw [List.all_eq_true] at this
  simp only [Bool.and_eq_true, bne_iff_ne, and_assoc] at this
  exact ⟨fun c hc => ⟨(this c hc).1, (this c hc).2.1, (this c hc).2.2.1⟩, fun c hc => (this c hc).2.2.2⟩
theorem mon_cl {m : Nat} (h : m ≤ 12) : clW (monT m) := by
  have := List.all_eq_true.1 (show (List.range 13).all (fun w => (monT w).all fun c => c != 32 && c != 9 && c != 40) = true by kernel_rfl) m (List.mem_range.2 (by omega))
  rw [List.all_eq_true] at this
  simp only [Bool.and_eq_true, bne_iff_ne, and_assoc] at this
  exact this
theorem clk_cl (c : Nat) : clW (clkT c) :=
  ((((clW_two _).app (clW_one (by decide))).app (clW_two _)).app (clW_one (by decide))).app (clW_two _)
theorem zone_cl (z : Int) : clW (zoneT z) := by
  refine (clW.app ?_ (clW_two _)).app (clW_two _)
  split
  · exact clW_one (by decide)
  · exact clW_one (by decide)

def dateW (y m d w c : Nat) (z : Int) : List Bs := [dayT w ++ [44], twoT d, monT m, twoT (y / 100) ++ twoT y, clkT c, zoneT z]
theorem date_eq (y m d w c : Nat) (z : Int) (u : Bs) : dateT y m d w c z ++ u = (dayT w ++ [44]) ++ 32 :: (twoT d ++ 32 :: (monT m ++ 32 :: ((twoT (y / 100) ++ twoT y) ++ 32 :: (clkT c ++ 32 :: (zoneT z ++ u))))) := by
  simp [dateT, frontT]
theorem zone_ne (z : Int) : zoneT z ≠ [] := by unfold zoneT; split <;> simp
theorem words_date5 {y m d w c : Nat} {z : Int} (hw : w < 7) (hm0 : 1 ≤ m) (hm : m ≤ 12) (u : Bs) :
    wordsG (dateT y m d w c z ++ u) [] = (dayT w ++ [44]) :: twoT d :: monT m :: (twoT (y / 100) ++ twoT y) :: clkT c :: wordsG (zoneT z ++ u) [] := by
  rw [date_eq]
  rw [words_one ((day_cl hw).1.app (clW_one (by decide))).bl (by simp)]
  rw [words_one (clW_two d).bl (by simp [twoT])]
  rw [words_one (mon_cl hm).bl (by intro h; have := monT_len hm0 hm; rw [h] at this; simp at this)]
  rw [words_one ((clW_two _).app (clW_two _)).bl (by simp [twoT])]
  rw [words_one (clk_cl c).bl (by simp [clkT, twoT])]
theorem words_date {y m d w c : Nat} {z : Int} (hw : w < 7) (hm0 : 1 ≤ m) (hm : m ≤ 12) : wordsG (dateT y m d w c z) [] = dateW y m d w c z := by
  have := words_date5 (y := y) (d := d) (c := c) (z := z) hw hm0 hm []
  rw [List.append_nil, List.append_nil, words_last (zone_cl z).bl (zone_ne z)] at this
  exact this
theorem date_cl {y m d w c : Nat} {z : Int} (hw : w < 7) (hm : m ≤ 12) : ∀ x ∈ dateT y m d w c z, x ≠ 40 := by
  have h1 := (day_cl hw).1; have h2 := clW_two d; have h3 := mon_cl hm; have h4 := (clW_two (y / 100)).app (clW_two y); have h5 := clk_cl c; have h6 := zone_cl z
  have he := date_eq y m d w c z []
  rw [List.append_nil, List.append_nil] at he
  rw [he]
  intro x hx
  simp only [List.mem_append, List.mem_cons, List.not_mem_nil, or_false] at hx
  rcases hx with (hx | rfl) | rfl | hx | rfl | hx | rfl | (hx | hx) | rfl | hx | rfl | hx
  · exact (h1 x hx).2.2
  · decide
  · decide
  · exact (h2 x hx).2.2
  · decide
  · exact (h3 x hx).2.2
  · decide
  · exact (clW_two _ x hx).2.2
  · exact (clW_two _ x hx).2.2
  · decide
  · exact (h5 x hx).2.2
  · decide
  · exact (h6 x hx).2.2
theorem index_none1 {k : UInt8} : ∀ (n : Bs), (∀ c ∈ n, c ≠ k) → Lib.index n [k] = -1 := by
  intro n h
  rcases chr_split k n with ⟨_, h1⟩ | ⟨a, r, rfl, _⟩
  · exact h1
  · exact absurd rfl (h k (by simp))
theorem bare_date {y m d w c : Nat} {z : Int} (hw : w < 7) (hm : m ≤ 12) : bareT (dateT y m d w c z) = dateT y m d w c z :=
  bare_no (index_none1 _ (date_cl hw hm))
theorem wd_date {y m d w c : Nat} {z : Int} (hw : w < 7) : wdD (dateW y m d w c z) = ((w : Int), [twoT d, monT m, twoT (y / 100) ++ twoT y, clkT c, zoneT z]) := by
  have hi := index_chr (k := 44) (dayT w) [] (day_cl hw).2
  unfold dateW wdD
  have hl := dayT_len hw
  dsimp only
  rw [if_pos (by rw [hi]; omega), hi, Int.toNat_natCast]
  have e1 : (dayT w ++ [44]).take (dayT w).length = dayT w := List.take_left
  have e2 : (dayT w ++ [44]).drop ((dayT w).length + 1) = [] := List.drop_of_length_le (by simp)
  rw [e1, e2]
  unfold wdGo
  rw [nm_day hw, if_neg (by omega), if_pos rfl]

theorem two_digA {a : Nat} (n : Nat) (h : n < 100) (ha : a ≤ 2) : digD (twoT n) a 2 = n := by
  have h1 := dg_fact (n / 10); have h2 := dg_fact n
  unfold digD
  rw [if_pos ⟨by simp [twoT, h1.1, h2.1], by simp [twoT]; omega, by simp [twoT]⟩]
  simp only [valD, twoT, List.foldl_cons, List.foldl_nil, h1.2.1, h2.2.1]
  omega
theorem four_dig (a b : Nat) (ha : a < 100) (hb : b < 100) : digD (twoT a ++ twoT b) 4 4 = 100 * a + b := by
  have h1 := dg_fact (a / 10); have h2 := dg_fact a; have h3 := dg_fact (b / 10); have h4 := dg_fact b
  unfold digD
  rw [if_pos ⟨by simp [twoT, h1.1, h2.1, h3.1, h4.1], by simp [twoT], by simp [twoT]⟩]
  simp only [valD, twoT, List.cons_append, List.nil_append, List.foldl_cons, List.foldl_nil, h1.2.1, h2.2.1, h3.2.1, h4.2.1]
  omega
theorem twoT_mod (n : Nat) : twoT n = twoT (n % 100) := by
  simp only [twoT, dg]
  rw [show n % 100 / 10 % 10 = n / 10 % 10 by omega, show n % 100 % 10 = n % 10 by omega]
theorem yr_date {y : Nat} (h : y ≤ 9999) : yrD (twoT (y / 100) ++ twoT y) = y := by
  unfold yrD
  rw [if_pos (by simp [twoT]), twoT_mod y, four_dig _ _ (by omega) (Nat.mod_lt _ (by omega))]
  omega
theorem split_cutc {k : UInt8} {r : Bs} : ∀ (n acc : Bs), (∀ c ∈ n, c ≠ k) → splitOn k acc (n ++ k :: r) = (acc ++ n) :: splitOn k [] r := by
  intro n
  induction n with
  | nil => intro acc _; simp [splitOn]
  | cons d n ih =>
    intro acc h
    rw [List.cons_append, splitOn, if_neg (h d (by simp)), ih _ fun c hc => h c (by simp [hc])]; simp
theorem split_end {k : UInt8} : ∀ (n acc : Bs), (∀ c ∈ n, c ≠ k) → splitOn k acc n = [acc ++ n] := by
  intro n
  induction n with
  | nil => intro acc _; simp [splitOn]
  | cons d n ih =>
    intro acc h
    rw [splitOn, if_neg (h d (by simp)), ih _ fun c hc => h c (by simp [hc])]; simp
theorem two_no58 (n : Nat) : ∀ c ∈ twoT n, c ≠ 58 := by
  intro c hc
  simp only [twoT, List.mem_cons, List.not_mem_nil, or_false] at hc
  rcases hc with rfl | rfl
  · exact (dg_fact (n / 10)).2.2.2.2.2
  · exact (dg_fact n).2.2.2.2.2
theorem clk_date {c : Nat} (h : c < 86400) : clkD (clkT c) = c := by
  have e : clkT c = twoT (c / 3600) ++ 58 :: (twoT (c / 60 % 60) ++ 58 :: twoT (c % 60)) := by simp [clkT]
  have hs : splitOn 58 [] (clkT c) = [twoT (c / 3600), twoT (c / 60 % 60), twoT (c % 60)] := by
    rw [e, split_cutc _ _ (two_no58 _), split_cutc _ _ (two_no58 _), split_end _ _ (two_no58 _)]; rfl
  unfold clkD
  rw [hs, if_neg (by simp)]
  simp only [List.getD_cons_zero, List.getD_cons_succ, List.length_cons, List.length_nil, Nat.reduceAdd, if_true]
  rw [two_digA _ (by omega) (by omega), two_digA _ (by omega) (by omega), two_digA _ (by omega) (by omega)]
  unfold hmsD
  rw [if_neg (by omega)]
  omega
theorem zone_date {z : Int} (h : shiftOK z = true) : zoneD (zoneT z) = (z, true) := by
  obtain ⟨h1, h2, h3⟩ := shift_bound h
  obtain ⟨g, hg, hv⟩ : ∃ g : UInt8, (g = 45 ∧ z < 0 ∨ g = 43 ∧ ¬ z < 0) ∧ zoneT z = g :: (twoT (z.natAbs / 3600) ++ twoT (z.natAbs / 60 % 60)) := by
    by_cases hz : z < 0
    · exact ⟨45, .inl ⟨rfl, hz⟩, by simp [zoneT, hz]⟩
    · exact ⟨43, .inr ⟨rfl, hz⟩, by simp [zoneT, hz]⟩
  have hn : zoneTab.find? (fun q => decide (lowOf (zoneT z) = q.1)) = none := by
    rw [List.find?_eq_none]
    intro q hq
    have hh : ∀ q ∈ zoneTab, q.1.head? ≠ some 45 ∧ q.1.head? ≠ some 43 := by decide
    have := hh q hq
    simp only [decide_eq_true_eq]
    intro he
    rw [← he, hv] at this
    rcases hg with ⟨rfl, _⟩ | ⟨rfl, _⟩
    · exact this.1 rfl
    · exact this.2 rfl
  unfold zoneD
  rw [hn]
  simp only
  unfold zoneN
  rw [hv]
  have e1 : (g :: (twoT (z.natAbs / 3600) ++ twoT (z.natAbs / 60 % 60))).drop 1 = twoT (z.natAbs / 3600) ++ twoT (z.natAbs / 60 % 60) := rfl
  have e2 : ((g :: (twoT (z.natAbs / 3600) ++ twoT (z.natAbs / 60 % 60))).take 3).drop 1 = twoT (z.natAbs / 3600) := rfl
  have e3 : (g :: (twoT (z.natAbs / 3600) ++ twoT (z.natAbs / 60 % 60))).drop 3 = twoT (z.natAbs / 60 % 60) := rfl
  have e4 : (g :: (twoT (z.natAbs / 3600) ++ twoT (z.natAbs / 60 % 60))).getD 0 0 = g := rfl
  rw [e1, e2, e3, e4, four_dig _ _ (by omega) (by omega), two_digA _ (by omega) (by omega), two_digA _ (by omega) (by omega)]
  have h60 : (z.natAbs : Int) % 60 = 0 := by
    have := Int.tmod_def z 60
    omega
  rw [if_neg (by rcases hg with ⟨rfl, _⟩ | ⟨rfl, _⟩ <;> (simp; omega))]
  have d1 : decide (((z.natAbs / 3600 : Nat) : Int) < 24) = true := by simp; omega
  have d2 : decide (((z.natAbs / 60 % 60 : Nat) : Int) < 60) = true := by simp; omega
  rw [d1, d2]
  refine Prod.ext ?_ rfl
  simp only
  rcases hg with ⟨rfl, hz⟩ | ⟨rfl, hz⟩
  · rw [if_pos rfl]; omega
  · rw [if_neg (by decide)]; omega
theorem days_date {n y m d : Nat} (h : Ci n y m d) : daysD y m d = ((n : Int), 0) := by
  have := h.y1; have := h.y2; have := h.m1; have := h.m2; have := h.d1; have := h.d2; have := h.eq
  unfold daysD
  rw [if_pos (by simp only [Int.toNat_natCast]; omega)]
  simp only [Int.toNat_natCast]
  refine Prod.ext ?_ rfl
  simp only
  omega

theorem lst_date {t z : Int} {L y m d : Nat} (h : okP t z) (hL : t + z = (L : Int)) (hci : Ci (L / 86400) y m d) :
    lstD ((((L / 86400 + 3) % 7 : Nat) : Int)) [twoT d, monT m, twoT (y / 100) ++ twoT y, clkT (L % 86400), zoneT z] = (t, z, 0) := by
  obtain ⟨h1, h2, h3⟩ := h
  have hd2 := hci.d2
  have hmd : mdY y m ≤ 31 := by unfold mdY; split <;> (try split) <;> (try split) <;> omega
  unfold lstD
  rw [if_neg (by simp; omega)]
  simp only [List.getD_cons_zero, List.getD_cons_succ]
  rw [yr_date hci.y2, nm_mon hci.m1 hci.m2, two_digA _ (by omega) (by omega), days_date hci, clk_date (Nat.mod_lt _ (by omega)), zone_date h2]
  have hdm := Nat.div_add_mod L 86400
  have e : ((L / 86400 : Nat) : Int) * 86400 + ((L % 86400 : Nat) : Int) - z = t := by omega
  unfold finD
  simp only [e]
  rw [if_neg (by simp; omega)]
  rw [if_neg]
  have hlt : ¬ (((L / 86400 : Nat) : Int) < 0 ∨ 2932896 < ((L / 86400 : Nat) : Int)) := by omega
  simp only [wkOf, hlt, if_false]
  omega

theorem parse_date {t z : Int} {L y m d : Nat} (h : okP t z) (hL : t + z = (L : Int)) (hci : Ci (L / 86400) y m d) :
    parseD (dateT y m d ((L / 86400 + 3) % 7) (L % 86400) z) = (t, z, 0) := by
  have hw : (L / 86400 + 3) % 7 < 7 := Nat.mod_lt _ (by omega)
  unfold parseD
  rw [bare_date hw hci.m2, words_date hw hci.m1 hci.m2, wd_date hw]
  exact lst_date h hL hci
theorem date_len {y m d w c : Nat} {z : Int} (hw : w < 7) (hm0 : 1 ≤ m) (hm : m ≤ 12) : (dateT y m d w c z).length = 31 := by
  have h1 := dayT_len hw; have h2 := monT_len hm0 hm
  have h3 : (if z < 0 then [(45 : UInt8)] else [43]).length = 1 := by split <;> rfl
  simp [dateT, frontT, clkT, zoneT, twoT_len, h1, h2, h3]
end Go.Ab
/-
  Dates are read: a day's name ahead of the words, walked.
-/
namespace Go.Ab
set_option maxRecDepth 20000
variable {st s : St} {e : Env}

def rowV (t : Tok) (l : List Bs) : PV := .sl 1 t (l.map .str)
theorem rowV_vs {t : Tok} {l : List Bs} : (rowV t l).vs 1 = some (l.map .str) := by simp [rowV, PV.vs]
theorem len_row {t : Tok} {l : List Bs} : lenPV false (rowV t l) = some (.int .i64 (l.length : Int)) := by simp [rowV, lenPV]
theorem slc_row {t : Tok} {w : Bs} {l : List Bs} : slcPV 1 (rowV t (w :: l)) (some (.int .i64 1)) none none = some (rowV t l) := by
  have h1 : (1 : Int) ≤ (l.length : Int) + 1 := by omega
  have h2 : (l.map PV.str).take l.length = l.map .str := List.take_of_length_le (by simp)
  simp [rowV, slcPV, bnd, intOf, sufTok, h1, h2]
theorem keep_row {t : Tok} {l : List Bs} {n : Nat} {toks : List Bool} {acc : List Nat} (ht : ∀ i, t = .own i → i < n) : keepVal n toks acc (rowV t l) = (rowV t l, acc) := by
  cases t with
  | own i => simp [rowV, keepVal, keepLeaf, keepTok, ht i rfl]
  | no => simp [rowV, keepVal, keepLeaf, keepTok]
  | ex => simp [rowV, keepVal, keepLeaf, keepTok]
theorem retIrow {a b : Nat} {n m : Int} {t : Tok} {l : List Bs} (ha : e a = .int .i64 n) (hb : e b = rowV t l) (hk : Kept st s) (ht : ∀ i, t = .own i → i < st.toks.length) (hnm : n = m) :
    ∃ rv, resOf e s [.tmp a, .tmp b] = some rv ∧ leave st s rv = (.tup [.int .i64 m, rowV t l], st) := by
  subst hnm
  refine ⟨.tup [.int .i64 n, rowV t l], by simp [resOf, rvAll, rv1, ha, hb, packRes, notTup, rowV], ?_⟩
  have h1 := hk.bx; have h2 := hk.lp; have h3 := hk.lw; have h4 := hk.tk
  have h5 : (PV.tup [.int .i64 n, rowV t l]).inB st.boxes.length = true := rfl
  have h6 : keepRes st.toks.length s.toks (.tup [.int .i64 n, rowV t l]) = (.tup [.int .i64 n, rowV t l], []) := by
    simp only [keepRes, keepVals, keep_row ht]; rfl
  simp [leave, h5, h3, h6, h1, h2, h4]
theorem retInils {a b : Nat} {n m : Int} (ha : e a = .int .i64 n) (hb : e b = .nils) (hk : Kept st s) (hnm : n = m) :
    ∃ rv, resOf e s [.tmp a, .tmp b] = some rv ∧ leave st s rv = (.tup [.int .i64 m, .nils], st) := by
  subst hnm
  exact ⟨.tup [.int .i64 n, .nils], by simp [resOf, rvAll, rv1, ha, hb, packRes, notTup], hk.leave' ⟨fun _ => rfl, fun _ _ => rfl⟩⟩
theorem retIown {a b : Nat} {n m : Int} {i : Nat} {l : List Bs} (ha : e a = .int .i64 n) (hb : e b = rowV (.own i) l) (hk : Kept st s) (hi : st.toks.length ≤ i) (ht : s.toks[i]? = some true) (hnm : n = m) :
    ∃ rv, resOf e s [.tmp a, .tmp b] = some rv ∧ leave st s rv = (.tup [.int .i64 m, rowV (.own st.toks.length) l], st.tok1) := by
  subst hnm
  refine ⟨.tup [.int .i64 n, rowV (.own i) l], by simp [resOf, rvAll, rv1, ha, hb, packRes, notTup, rowV], ?_⟩
  have h1 := hk.bx; have h2 := hk.lp; have h3 := hk.lw; have h4 := hk.tk
  have h5 : (PV.tup [.int .i64 n, .sl 1 (.own i) (l.map .str)]).inB st.boxes.length = true := rfl
  simp [leave, h5, h3, rowV, keepRes, keepVals, keepVal, keepLeaf, keepTok, ht, show ¬ i < st.toks.length by omega, h1, h2, h4, St.tok1]
theorem app_row {w : Bs} {t : Tok} {l : List Bs} (hl : l.length + 1 ≤ room) : ∃ i T, appV 1 s.tok1 (.sl 1 (.own s.toks.length) [.str w]) (rowV t l) = some (rowV (.own i) (w :: l), ⟨s.boxes, s.toks ++ T, s.loops, s.low⟩) ∧ s.toks.length ≤ i ∧ (s.toks ++ T)[i]? = some true := by
  cases l with
  | nil => exact ⟨s.toks.length, [true], by simp [appV, rowV, srcV, St.tok1], Nat.le_refl _, by simp⟩
  | cons v l =>
    have hl2 : 1 + (l.length + 1) ≤ room := by simp only [List.length_cons] at hl; omega
    refine ⟨s.toks.length + 1, [false, true], ?_, by omega, by simp⟩
    have h1 : (s.toks ++ [true])[s.toks.length]? = some true := by simp
    have h2 : (s.toks ++ [true]).set s.toks.length false = s.toks ++ [false] := by simp
    simp [appV, rowV, srcV, St.tok1, appTok, freshT, h2, hl2]
theorem cut_hit {w : Bs} (h : 0 ≤ Lib.index w [44]) : cutAt w [44] = .tup [.str (w.take (Lib.index w [44]).toNat), .str (w.drop ((Lib.index w [44]).toNat + 1)), .bool true] := by simp [cutAt, h]
theorem cut_miss {w : Bs} (h : ¬ 0 ≤ Lib.index w [44]) : cutAt w [44] = .tup [.str w, .str [], .bool false] := by simp [cutAt, h]
theorem pre44 {v : Bs} : decide (([44] : Bs) <+: v) = decide (v.head? = some 44) := by
  cases v with
  | nil => simp
  | cons c v => simp [List.cons_prefix_cons, eq_comm]

set_option maxHeartbeats 4000000 in
theorem weekday_spec {t : Tok} {l : List Bs} (ht : ∀ i, t = .own i → i < st.toks.length) (hl : ∀ w ∈ l, w.length ≤ 1000000) (hn : l.length ≤ 1000000) :
    ∃ y s', call prog (.fn 286 []) [rowV t l] st = some (.tup [.int .i64 (wdD l).1, y], s') ∧ (y = .nils ∧ (wdD l).2 = [] ∨ ∃ u, y = rowV u (wdD l).2 ∧ ∀ i, u = .own i → i < s'.toks.length) ∧ (s' = st ∨ s' = st.tok1) := by
  have htk : ∀ i, t = .own i → i < st.tok1.toks.length := fun i hi => by have := ht i hi; simp [St.tok1]; omega
  match l, hl, hn with
  | [], _, _ =>
    refine ⟨.nils, st, ?_, .inl ⟨rfl, rfl⟩, .inl rfl⟩
    refine call_of_W prog_286 ?_
    unfold F_date_weekday; dsimp only
    simp (maxSteps := 1000000) (disch := omega) only [len_row, List.length_nil, Int.ofNat_zero, qaaz, qabz, qacz, qaiz, qajz, qalz, evOp, qaoz, qapz, qarz, qatz, qavz,
 ↓reduceIte, List.append_nil, qawz, Option.map_some, qazz, qbaz, qbhz, qblz, qbtz, decide_true, reduceCtorEq]
    exact retInils rfl rfl Kept.start rfl
  | w :: r, hl, hn =>
    have hlw := hl w (by simp)
    simp only [List.length_cons] at hn
    have hcut := fun S : St => Cut_spec (st := S) (a := w) (b := [44]) (by omega) (by simp)
    have e1 : ¬ (((r.length + 1 : Nat) : Int) = 0) := by omega
    have i0 : iaddrPV 1 (rowV t (w :: r)) (.int .i64 0) = some (.cp [.str w]) := iaddr_t rowV_vs (by omega) (by simp)
    by_cases hc : 0 ≤ Lib.index w [44]
    · obtain ⟨a, ha⟩ : ∃ a, a = w.take (Lib.index w [44]).toNat := ⟨_, rfl⟩
      obtain ⟨b, hb⟩ : ∃ b, b = w.drop ((Lib.index w [44]).toNat + 1) := ⟨_, rfl⟩
      have hal : a.length ≤ 1000000 := by rw [ha, List.length_take]; omega
      have hct := cut_hit hc
      rw [← ha, ← hb] at hct
      rw [hct] at hcut
      have hday := fun S : St => day_spec (st := S) hal
      have hD : wdD (w :: r) = wdGo a b r := by unfold wdD; dsimp only; rw [if_pos hc, ha, hb]
      rw [hD]
      by_cases hneg : nmD a 7 dayT < 0
      · have hg : wdGo a b r = (-2, []) := by rw [wdGo, if_pos hneg]
        rw [hg]
        refine ⟨.nils, st, ?_, .inl ⟨rfl, rfl⟩, .inl rfl⟩
        refine call_of_W prog_286 ?_
        unfold F_date_weekday; dsimp only
        simp (maxSteps := 1000000) (disch := omega) only [len_row, List.length_cons, e1, i0, hcut, hday, hneg, qaaz, qabz, qacz, qaez, qaiz, qajz, qakz, qalz, qamz, qanz, evOp, qaoz, qapz, qaqz, qarz, qatz, qavz,
 ↓reduceIte, Nat.reduceEqDiff, List.append_nil, List.map_cons, List.map_nil, qawz, Option.map_some, qazz, qbaz, qbhz, qblz, qbpz, qbtz, qcfz, qciz, beq_true, decide_true, decide_false,
 Bool.false_eq_true, qcjz, List.getElem?_cons_zero, List.getElem?_cons_succ, reduceCtorEq, Bool.not_true]
        exact retInils rfl rfl Kept.start rfl
      · by_cases hbn : b = []
        · have hg : wdGo a b r = (nmD a 7 dayT, r) := by rw [wdGo, if_neg hneg, if_pos hbn]
          rw [hg]
          refine ⟨rowV t r, st, ?_, .inr ⟨t, rfl, ht⟩, .inl rfl⟩
          refine call_of_W prog_286 ?_
          unfold F_date_weekday; dsimp only
          simp (maxSteps := 1000000) (disch := omega) only [len_row, List.length_cons, e1, i0, hcut, hday, hneg, slc_row, hbn, qaaz, qabz, qacz, qaez, qaiz, qajz, qakz, qalz, qamz, qanz, evOp, qaoz, qapz, qaqz, qarz, qatz, qavz,
 ↓reduceIte, Nat.reduceEqDiff, List.append_nil, List.map_cons, List.map_nil, qawz, Option.map_some, Option.map_none, qazz, qbhz, qblz, qbpz, qbtz, qccz, qcfz, qciz, beq_true, decide_false,
 Bool.false_eq_true, qcjz, List.getElem?_cons_zero, List.getElem?_cons_succ, reduceCtorEq, Bool.not_true, ne_eq, not_true_eq_false]
          exact retIrow rfl rfl Kept.start ht rfl
        · have hg : wdGo a b r = (nmD a 7 dayT, b :: r) := by rw [wdGo, if_neg hneg, if_neg hbn]
          rw [hg]
          refine ⟨rowV (.own st.toks.length) (b :: r), st.tok1, ?_, .inr ⟨_, rfl, fun i hi => by cases hi; simp [St.tok1]⟩, .inr rfl⟩
          refine call_of_W prog_286 ?_
          unfold F_date_weekday; dsimp only
          obtain ⟨i, T, q1, q2, q3⟩ := app_row (s := ⟨st.boxes, st.toks, st.loops, st.boxes.length⟩) (w := b) (t := t) (l := r) (by unfold room; omega)
          simp only [St.tok1] at q1
          simp (maxSteps := 1000000) (disch := omega) only [len_row, List.length_cons, e1, i0, hcut, hday, hneg, slc_row, hbn, lit_s, freshT, q1, qaaz, qabz, qacz, qaez, qaiz, qajz, qakz, qalz, qamz, qanz, evOp, qaoz, qapz, qaqz, qarz, qatz, qavz,
 ↓reduceIte, Nat.reduceEqDiff, List.append_nil, List.map_cons, List.map_nil, qawz, Option.map_some, Option.map_none, qazz, qbhz, qblz, qbpz, qbtz, qccz, qcfz, qciz, beq_true, decide_true, decide_false,
 Bool.false_eq_true, qcjz, List.getElem?_cons_zero, List.getElem?_cons_succ, reduceCtorEq, Bool.not_true, ne_eq, not_false_eq_true]
          exact retIown rfl rfl Kept.start.toks q2 q3 rfl
    · rw [cut_miss hc] at hcut
      match r, hl, hn with
      | [], hl, hn =>
        have hD : wdD [w] = (-1, [w]) := by unfold wdD; dsimp only; rw [if_neg hc]
        rw [hD]
        refine ⟨rowV t [w], st, ?_, .inr ⟨t, rfl, ht⟩, .inl rfl⟩
        refine call_of_W prog_286 ?_
        unfold F_date_weekday; dsimp only
        have e2 : ¬ ((1 : Int) < (([w].length : Nat) : Int)) := by simp
        have e3 : ¬ ((([w].length : Nat) : Int) = 0) := by simp
        simp (maxSteps := 1000000) (disch := omega) only [len_row, e2, e3, i0, hcut, qaaz, qabz, qacz, qaez, qaiz, qajz, qakz, qalz, qamz, qanz, evOp, qaoz, qapz, qaqz, qarz, qatz, qavz,
 ↓reduceIte, Nat.reduceEqDiff, List.append_nil, List.map_cons, List.map_nil, qawz, Option.map_some, qazz, qbaz, qbhz, qblz, qbrz, qbtz, qcfz, qciz, beq_true, decide_false,
 Bool.false_eq_true, qcjz, List.getElem?_cons_zero, List.getElem?_cons_succ, reduceCtorEq, Bool.not_false]
        exact retIrow rfl rfl Kept.start ht rfl
      | v :: r', hl, hn =>
        have hlv := hl v (by simp)
        have e2 : (1 : Int) < (((w :: v :: r').length : Nat) : Int) := by simp; omega
        have e3 : ¬ ((((w :: v :: r').length : Nat) : Int) = 0) := by simp; omega
        have i1 : iaddrPV 1 (rowV t (w :: v :: r')) (.int .i64 1) = some (.cp [.str v]) := iaddr_t rowV_vs (by omega) (by simp)
        have hpre : ∀ S : St, call prog (.fn 72 []) [.str v, .str [44]] S = some (.bool (decide (v.head? = some 44)), S) := fun S => by rw [sHasPrefix_spec, pre44]
        by_cases hv : v.head? = some 44
        · obtain ⟨b, hb⟩ : ∃ b, b = v.drop 1 := ⟨_, rfl⟩
          have hs : slcPV 0 (.str v) (some (.int .i64 1)) none none = some (.str b) := by
            rw [slc_s_lo (by omega) (by cases v with | nil => simp at hv | cons c v => simp)]; rw [hb]; rfl
          have hday := fun S : St => day_spec (st := S) hlw
          have hD : wdD (w :: v :: r') = wdGo w b r' := by unfold wdD; dsimp only; rw [if_neg hc, if_pos hv, hb]
          rw [hD]
          have hn' : r'.length ≤ 1000000 := by simp only [List.length_cons] at hn; omega
          by_cases hneg : nmD w 7 dayT < 0
          · have hg : wdGo w b r' = (-2, []) := by rw [wdGo, if_pos hneg]
            rw [hg]
            refine ⟨.nils, st, ?_, .inl ⟨rfl, rfl⟩, .inl rfl⟩
            refine call_of_W prog_286 ?_
            unfold F_date_weekday; dsimp only
            simp (maxSteps := 1000000) (disch := omega) only [len_row, e2, e3, i0, i1, hcut, hpre, eq_true hv, hs, slc_row, hday, hneg, qaaz, qabz, qacz, qaez, qaiz, qajz, qakz, qalz, qamz, qanz, evOp, qaoz, qapz, qaqz, qarz, qatz, qavz,
 ↓reduceIte, Nat.reduceEqDiff, List.append_nil, List.map_cons, List.map_nil, qawz, Option.map_some, Option.map_none, qazz, qbaz, qbhz, qblz, qbpz, qbrz, qbtz, qcfz, qciz, beq_true, decide_true, decide_false,
 Bool.false_eq_true, qcjz, List.getElem?_cons_zero, List.getElem?_cons_succ, reduceCtorEq, Bool.not_true, Bool.not_false]
            exact retInils rfl rfl Kept.start rfl
          · by_cases hbn : b = []
            · have hg : wdGo w b r' = (nmD w 7 dayT, r') := by rw [wdGo, if_neg hneg, if_pos hbn]
              rw [hg]
              refine ⟨rowV t r', st, ?_, .inr ⟨t, rfl, ht⟩, .inl rfl⟩
              refine call_of_W prog_286 ?_
              unfold F_date_weekday; dsimp only
              simp (maxSteps := 1000000) (disch := omega) only [len_row, e2, e3, i0, i1, hcut, hpre, eq_true hv, hs, slc_row, hday, hneg, hbn, qaaz, qabz, qacz, qaez, qaiz, qajz, qakz, qalz, qamz, qanz, evOp, qaoz, qapz, qaqz, qarz, qatz, qavz,
 ↓reduceIte, Nat.reduceEqDiff, List.append_nil, List.map_cons, List.map_nil, qawz, Option.map_some, Option.map_none, qazz, qbhz, qblz, qbpz, qbrz, qbtz, qccz, qcfz, qciz, beq_true, decide_true, decide_false,
 Bool.false_eq_true, qcjz, List.getElem?_cons_zero, List.getElem?_cons_succ, reduceCtorEq, Bool.not_true, Bool.not_false, ne_eq, not_true_eq_false]
              exact retIrow rfl rfl Kept.start ht rfl
            · have hg : wdGo w b r' = (nmD w 7 dayT, b :: r') := by rw [wdGo, if_neg hneg, if_neg hbn]
              rw [hg]
              refine ⟨rowV (.own st.toks.length) (b :: r'), st.tok1, ?_, .inr ⟨_, rfl, fun i hi => by cases hi; simp [St.tok1]⟩, .inr rfl⟩
              refine call_of_W prog_286 ?_
              unfold F_date_weekday; dsimp only
              obtain ⟨i, T, q1, q2, q3⟩ := app_row (s := ⟨st.boxes, st.toks, st.loops, st.boxes.length⟩) (w := b) (t := t) (l := r') (by unfold room; omega)
              simp only [St.tok1] at q1
              simp (maxSteps := 1000000) (disch := omega) only [len_row, e2, e3, i0, i1, hcut, hpre, eq_true hv, hs, slc_row, hday, hneg, hbn, lit_s, freshT, q1, qaaz, qabz, qacz, qaez, qaiz, qajz, qakz, qalz, qamz, qanz, evOp, qaoz, qapz, qaqz, qarz, qatz, qavz,
 ↓reduceIte, Nat.reduceEqDiff, List.append_nil, List.map_cons, List.map_nil, qawz, Option.map_some, Option.map_none, qazz, qbhz, qblz, qbpz, qbrz, qbtz, qccz, qcfz, qciz, beq_true, decide_true, decide_false,
 Bool.false_eq_true, qcjz, List.getElem?_cons_zero, List.getElem?_cons_succ, reduceCtorEq, Bool.not_true, Bool.not_false, ne_eq, not_false_eq_true]
              exact retIown rfl rfl Kept.start.toks q2 q3 rfl
        · have hD : wdD (w :: v :: r') = (-1, w :: v :: r') := by unfold wdD; dsimp only; rw [if_neg hc, if_neg hv]
          rw [hD]
          refine ⟨rowV t (w :: v :: r'), st, ?_, .inr ⟨t, rfl, ht⟩, .inl rfl⟩
          refine call_of_W prog_286 ?_
          unfold F_date_weekday; dsimp only
          simp (maxSteps := 1000000) (disch := omega) only [len_row, e2, e3, i0, i1, hcut, hpre, eq_false hv, qaaz, qabz, qacz, qaez, qaiz, qajz, qakz, qalz, qamz, qanz, evOp, qaoz, qapz, qaqz, qarz, qatz, qavz,
 ↓reduceIte, Nat.reduceEqDiff, List.append_nil, List.map_cons, List.map_nil, qawz, Option.map_some, qazz, qbaz, qbhz, qblz, qbrz, qbtz, qcfz, qciz, beq_true, decide_true, decide_false,
 Bool.false_eq_true, qcjz, List.getElem?_cons_zero, List.getElem?_cons_succ, reduceCtorEq, Bool.not_false]
          exact retIrow rfl rfl Kept.start ht rfl
end Go.Ab
