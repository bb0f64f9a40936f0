/-
  Slices that grow: what a function has made itself.
-/
import Derived.Test.YtemnjmphkmokmaaAbSimp
namespace Go.Ab
set_option linter.unusedVariables false
set_option linter.unusedSimpArgs false

/-- A state that has grown: its boxes and loops are these, its first tokens those. -/
structure GrewAt (B : List (List PV)) (T : List Bool) (L : List LoopS) (lo : Nat) (s : St) : Prop where
  bx : s.boxes = B
  lp : s.loops = L
  lw : s.low = lo
  tk : s.toks.take T.length = T
/-- A state of a function that was called in st and has laid no box. -/
abbrev Grew (st s : St) : Prop := GrewAt st.boxes st.toks st.loops st.boxes.length s

variable {B : List (List PV)} {T : List Bool} {L : List LoopS} {lo : Nat}
theorem GrewAt.len {s : St} (h : GrewAt B T L lo s) : T.length ≤ s.toks.length := by
  have := congrArg List.length h.tk
  simp at this; omega
theorem Grew.start {st : St} : Grew st { boxes := st.boxes, toks := st.toks, loops := st.loops, low := st.boxes.length } := ⟨rfl, rfl, rfl, by simp⟩
theorem GrewAt.start {ts : List Bool} : GrewAt B T L lo ⟨B, T ++ ts, L, lo⟩ := ⟨rfl, rfl, rfl, by simp⟩
/-- One more token. -/
def St.tok1 (s : St) : St := { s with toks := s.toks ++ [true] }
theorem GrewAt.tok1 {s : St} (h : GrewAt B T L lo s) : GrewAt B T L lo s.tok1 := ⟨h.bx, h.lp, h.lw, by
  show (s.toks ++ [true]).take T.length = T
  rw [List.take_append_of_le_length h.len]; exact h.tk⟩

/-- A slice that a function has made itself, or none. -/
def Own (st s : St) (esz : Nat) (v : PV) (xs : List PV) : Prop := (v = .nils ∧ xs = []) ∨ ∃ i, v = .sl esz (.own i) xs ∧ st.toks.length ≤ i ∧ s.toks[i]? = some true
def OwnB (st s : St) (v : PV) (l : List UInt8) : Prop := (v = .nils ∧ l = []) ∨ ∃ i, v = .bys (.own i) l ∧ st.toks.length ≤ i ∧ s.toks[i]? = some true

theorem Own.tok1 {st s : St} {esz : Nat} {v : PV} {xs : List PV} (h : Own st s esz v xs) : Own st s.tok1 esz v xs := by
  rcases h with h | ⟨i, h1, h2, h3⟩
  · exact .inl h
  · exact .inr ⟨i, h1, h2, by show (s.toks ++ [true])[i]? = some true; rw [List.getElem?_append_left (List.getElem?_eq_some_iff.1 h3).1]; exact h3⟩
theorem OwnB.tok1 {st s : St} {v : PV} {l : List UInt8} (h : OwnB st s v l) : OwnB st s.tok1 v l := by
  rcases h with h | ⟨i, h1, h2, h3⟩
  · exact .inl h
  · exact .inr ⟨i, h1, h2, by show (s.toks ++ [true])[i]? = some true; rw [List.getElem?_append_left (List.getElem?_eq_some_iff.1 h3).1]; exact h3⟩
theorem OwnB.by {st s : St} {v : PV} {l : List UInt8} (h : OwnB st s v l) : v.by = some l := by
  rcases h with ⟨rfl, rfl⟩ | ⟨i, rfl, _, _⟩ <;> rfl

/-- What append leaves of the tokens. -/
def appS (s : St) (v : PV) : St := match v with
  | .sl _ (.own i) _ => { s with toks := s.toks.set i false ++ [true] }
  | .bys (.own i) _ => { s with toks := s.toks.set i false ++ [true] }
  | _ => s.tok1
theorem appS_len {s : St} {v : PV} : (appS s v).toks.length = s.toks.length + 1 := by
  unfold appS; split <;> simp [St.tok1]

theorem appV_own {st s : St} {esz : Nat} {v u : PV} {xs : List PV} {t : Tok} (h : Own st s esz v xs) (hl : xs.length + 1 ≤ room) :
    appV esz s v (.sl esz t [u]) = some (.sl esz (.own s.toks.length) (xs ++ [u]), appS s v) := by
  rcases h with ⟨rfl, rfl⟩ | ⟨i, rfl, h2, h3⟩
  · simp [appV, srcV, freshT, room, appS, St.tok1]
  · simp [appV, srcV, freshT, appTok, appS, h3, hl]
theorem app8_ownS {st s : St} {v y : PV} {l m : List UInt8} (h : OwnB st s v l) (hy : src8 s y = some m) (hm : m ≠ []) (hl : l.length + m.length ≤ room) :
    app8 s v y = some (.bys (.own s.toks.length) (l ++ m), appS s v) := by
  rcases h with ⟨rfl, rfl⟩ | ⟨i, rfl, h2, h3⟩
  · simp at hl
    simp [app8, hy, hm, freshT, hl, appS, St.tok1]
  · simp [app8, hy, hm, freshT, appTok, appS, h3, hl]
theorem app8_own {st s : St} {v y : PV} {l m : List UInt8} (h : OwnB st s v l) (hy : y.by = some m) (hm : m ≠ []) (hl : l.length + m.length ≤ room) :
    app8 s v y = some (.bys (.own s.toks.length) (l ++ m), appS s v) := app8_ownS h (src8_by hy) hm hl
theorem app8_nil {s : St} {v y : PV} {l : List UInt8} (hv : v.by = some l) (hy : y.by = some []) : app8 s v y = some (v, s) := by
  rcases by_cases' hv with ⟨rfl, rfl⟩ | ⟨t, rfl⟩ <;> simp [app8, src8_by hy]

theorem Own.app {st s : St} {esz : Nat} {v : PV} {xs ys : List PV} (hg : GrewAt B st.toks L lo s) (h : Own st s esz v xs) : GrewAt B st.toks L lo (appS s v) ∧ Own st (appS s v) esz (.sl esz (.own s.toks.length) ys) ys := by
  have hlen := hg.len
  rcases h with ⟨rfl, rfl⟩ | ⟨i, rfl, h2, h3⟩
  · refine ⟨hg.tok1, .inr ⟨_, rfl, hlen, ?_⟩⟩
    simp [appS, St.tok1]
  · refine ⟨⟨hg.bx, hg.lp, hg.lw, ?_⟩, .inr ⟨_, rfl, hlen, ?_⟩⟩
    · show (s.toks.set i false ++ [true]).take st.toks.length = st.toks
      rw [List.take_append_of_le_length (by simpa using hlen), List.take_set_of_le h2]; exact hg.tk
    · show (s.toks.set i false ++ [true])[s.toks.length]? = some true
      rw [List.getElem?_append_right (by simp)]; simp
theorem OwnB.app {st s : St} {v : PV} {l m : List UInt8} (hg : GrewAt B st.toks L lo s) (h : OwnB st s v l) : GrewAt B st.toks L lo (appS s v) ∧ OwnB st (appS s v) (.bys (.own s.toks.length) m) m := by
  have hlen := hg.len
  rcases h with ⟨rfl, rfl⟩ | ⟨i, rfl, h2, h3⟩
  · refine ⟨hg.tok1, .inr ⟨_, rfl, hlen, ?_⟩⟩
    simp [appS, St.tok1]
  · refine ⟨⟨hg.bx, hg.lp, hg.lw, ?_⟩, .inr ⟨_, rfl, hlen, ?_⟩⟩
    · show (s.toks.set i false ++ [true]).take st.toks.length = st.toks
      rw [List.take_append_of_le_length (by simpa using hlen), List.take_set_of_le h2]; exact hg.tk
    · show (s.toks.set i false ++ [true])[s.toks.length]? = some true
      rw [List.getElem?_append_right (by simp)]; simp

/-- Bytes appended, whatever they are. -/
theorem app8_any {st s : St} {v y : PV} {l m : List UInt8} (hg : GrewAt B st.toks L lo s) (h : OwnB st s v l) (hy : y.by = some m) (hl : l.length + m.length ≤ room) :
    ∃ v' s', app8 s v y = some (v', s') ∧ GrewAt B st.toks L lo s' ∧ OwnB st s' v' (l ++ m) := by
  by_cases hm : m = []
  · subst hm
    exact ⟨v, s, app8_nil h.by hy, hg, by simpa using h⟩
  · obtain ⟨g2, o2⟩ := OwnB.app (m := l ++ m) hg h
    exact ⟨_, _, app8_own h hy hm hl, g2, o2⟩

/-- Bytes in a box of two's middle. -/
theorem GrewAt.loops {s : St} {L' : List LoopS} (h : GrewAt B T L lo s) : GrewAt B T L' lo { s with loops := L' } := ⟨h.bx, rfl, h.lw, h.tk⟩
theorem OwnB.loops {st s : St} {v : PV} {l : List UInt8} {L' : List LoopS} (h : OwnB st s v l) : OwnB st { s with loops := L' } v l := h
theorem store_own {st s : St} {v w : PV} {l : List UInt8} {c0 c2 : List PV} (hg : GrewAt (B ++ [c0, [w], c2]) T L lo s) (ho : OwnB st s v l) :
    ∃ lo' s', storePV s 1 (.ptr (B.length + 1) 0) v = some s' ∧ GrewAt (B ++ [c0, [v], c2]) T L lo' s' ∧ OwnB st s' v l ∧ (lo' = lo ∨ lo' = min lo (B.length + 1)) ∧ (v = .nils ∨ lo' ≤ B.length + 1) := by
  obtain ⟨bs, ts, ls, lo0⟩ := s
  obtain ⟨hb, hl, hw, ht⟩ := hg
  simp only at hb hl hw ht
  subst hb hl hw
  have hget : (B ++ [c0, [w], c2])[B.length + 1]? = some [w] := by
    rw [List.getElem?_append_right (by omega)]; simp
  have hset : ∀ u, (B ++ [c0, [w], c2]).set (B.length + 1) u = B ++ [c0, u, c2] := fun u => by
    rw [List.set_append_right _ _ (by omega)]; simp
  rcases ho with ⟨rfl, rfl⟩ | ⟨i, rfl, h2, h3⟩
  · refine ⟨lo0, ⟨B ++ [c0, [.nils], c2], ts, ls, lo0⟩, ?_, ⟨rfl, rfl, rfl, ht⟩, .inl ⟨rfl, rfl⟩, .inl rfl, .inl rfl⟩
    simp [storePV, hget, hset, PV.cells, PV.inB, leafOk, setCells, hasTok, tokOf]
  · refine ⟨min lo0 (B.length + 1), ⟨B ++ [c0, [.bys (.own i) l], c2], ts, ls, min lo0 (B.length + 1)⟩, ?_, ⟨rfl, rfl, rfl, ht⟩, .inr ⟨i, rfl, h2, h3⟩, .inr rfl, .inr (Nat.min_le_right _ _)⟩
    simp [storePV, hget, hset, PV.cells, PV.inB, leafOk, setCells, hasTok, tokOf]
theorem load_own {s : St} {w : PV} {c0 c2 : List PV} (hg : GrewAt (B ++ [c0, [w], c2]) T L lo s) : loadPV s false 1 (.ptr (B.length + 1) 0) = some w := by
  have hget : (B ++ [c0, [w], c2])[B.length + 1]? = some [w] := by
    rw [List.getElem?_append_right (by omega)]; simp
  simp [loadPV, hg.bx, hget, readCells]

/-- A slice of values, new to the caller. -/
def newSl (st : St) (esz : Nat) (xs : List PV) : PV := if xs = [] then .nils else .sl esz (.own st.toks.length) xs
def newB (st : St) (l : List UInt8) : PV := if l = [] then .nils else .bys (.own st.toks.length) l
def newS (st : St) (b : Bool) : St := if b then st else st.tok1
theorem newB_by {st : St} {l : List UInt8} : (newB st l).by = some l := by
  unfold newB; split
  · rename_i h; rw [h]; rfl
  · rfl

theorem Own.ne {st s : St} {esz : Nat} {v : PV} {xs : List PV} (h : Own st s esz v xs) (hne : v = .nils ↔ xs = []) : True := trivial

/-- A function's one result is what it has made. -/
theorem leave_own {st s : St} {esz : Nat} {v : PV} {xs : List PV} (hg : Grew st s) (h : Own st s esz v xs) (hne : xs = [] → v = .nils) : leave st s v = (newSl st esz xs, newS st xs.isEmpty) := by
  obtain ⟨hb, hl, hw, ht⟩ := hg
  obtain ⟨bs, ts, ls, lo⟩ := s
  simp only at hb hl hw ht
  subst hb hl hw
  rcases h with ⟨rfl, rfl⟩ | ⟨i, rfl, h2, h3⟩
  · simp [leave, PV.inB, keepRes, keepVal, keepLeaf, newSl, newS, ht]
  · by_cases hx : xs = []
    · have := hne hx; cases this
    · simp only at h3
      simp [leave, PV.inB, keepRes, keepVal, keepLeaf, keepTok, newSl, newS, hx, ht, h3, show ¬ i < st.toks.length by omega, St.tok1]
theorem leave_ownB {st s : St} {v : PV} {l : List UInt8} (hg : Grew st s) (h : OwnB st s v l) (hne : l = [] → v = .nils) : leave st s v = (newB st l, newS st l.isEmpty) := by
  obtain ⟨hb, hl, hw, ht⟩ := hg
  obtain ⟨bs, ts, ls, lo⟩ := s
  simp only at hb hl hw ht
  subst hb hl hw
  rcases h with ⟨rfl, rfl⟩ | ⟨i, rfl, h2, h3⟩
  · simp [leave, PV.inB, keepRes, keepVal, keepLeaf, newB, newS, ht]
  · by_cases hx : l = []
    · have := hne hx; cases this
    · simp only at h3
      simp [leave, PV.inB, keepRes, keepVal, keepLeaf, keepTok, newB, newS, hx, ht, h3, show ¬ i < st.toks.length by omega, St.tok1]
theorem lit1 {esz : Nat} {v u z : PV} (h : strip v = some u) (hc : u.cells.length = esz) : litFill esz (List.replicate 1 z) [(0, v)] = some [u] := by
  simp [litFill, h, hc]
/-- New bytes and a number are handed back. -/
theorem leave_ownB2 {st s : St} {v : PV} {l : List UInt8} {k : IntKind} {n : Int} {bs : List (List PV)} (hg : GrewAt (st.boxes ++ bs) st.toks st.loops st.boxes.length s) (h : OwnB st s v l) (hne : l ≠ []) :
    leave st s (.tup [v, .int k n]) = (.tup [.bys (.own st.toks.length) l, .int k n], st.tok1) := by
  obtain ⟨hb, hl, hw, ht⟩ := hg
  obtain ⟨b, ts, ls, lo⟩ := s
  simp only at hb hl hw ht
  subst hb hl hw
  rcases h with ⟨_, rfl⟩ | ⟨i, rfl, h2, h3⟩
  · exact absurd rfl hne
  · simp only at h3
    simp [leave, PV.inB, PV.inB.inBAll, keepRes, keepVals, keepVal, keepLeaf, keepTok, ht, h3, show ¬ i < st.toks.length by omega, St.tok1]
theorem freshT_eq {s : St} : freshT s = (.own s.toks.length, s.tok1) := rfl
theorem tok1_len {s : St} : s.tok1.toks.length = s.toks.length + 1 := by simp [St.tok1]

/-- A value of one cell. -/
def Leaf (v : PV) : Prop := v.cells = [v] ∧ leafOk v = true
theorem Leaf_by {x : PV} {l : List UInt8} (h : x.by = some l) : Leaf x := by
  rcases by_cases' h with ⟨rfl, rfl⟩ | ⟨t, rfl⟩ <;> exact ⟨rfl, rfl⟩
theorem Leaf_int {k : IntKind} {n : Int} : Leaf (.int k n) := ⟨rfl, rfl⟩
theorem Leaf_bool {b : Bool} : Leaf (.bool b) := ⟨rfl, rfl⟩
theorem Leaf_str {s : List UInt8} : Leaf (.str s) := ⟨rfl, rfl⟩
theorem build2 {z0 z1 v0 v1 : PV} (h0 : Leaf v0) (h1 : Leaf v1) : buildCells [z0, z1] [(0, 1, v0), (1, 1, v1)] = some [v0, v1] := by
  simp [buildCells, h0.1, h0.2, h1.1, h1.2, setCells]
theorem build3 {z0 z1 z2 v0 v1 v2 : PV} (h0 : Leaf v0) (h1 : Leaf v1) (h2 : Leaf v2) : buildCells [z0, z1, z2] [(0, 1, v0), (1, 1, v1), (2, 1, v2)] = some [v0, v1, v2] := by
  simp [buildCells, h0.1, h0.2, h1.1, h1.2, h2.1, h2.2, setCells]
end Go.Ab
