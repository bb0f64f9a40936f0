/-
  Slices that grow: what a function has made itself.
-/
import Derived.Test.YteblngbleioncaaDoorA2
import Derived.Test.YteblngbleioncaaDoorA3
import Derived.KernelRfl
namespace Go.Ab
set_option linter.unusedVariables false
set_option linter.unusedSimpArgs false

/-- A state that has grown: its boxes and loops are these, its first tokens those. -/
structure GrewAt (B : List (List PV)) (T : List Bool) (L : List LoopS) (lo : Nat) (s : St) : Prop where
  bx : s.boxes = B
  lp : s.loops = L
  lw : s.low = lo
  tk : s.toks.take T.length = T
/-- A state of a function that was called in st and has laid no box. -/
abbrev Grew (st s : St) : Prop := GrewAt st.boxes st.toks st.loops st.boxes.length s

variable {B : List (List PV)} {T : List Bool} {L : List LoopS} {lo : Nat}
theorem GrewAt.len {s : St} (h : GrewAt B T L lo s) : T.length ≤ s.toks.length := by
  have := congrArg List.length h.tk
  simp at this; omega
theorem Grew.start {st : St} : Grew st { boxes := st.boxes, toks := st.toks, loops := st.loops, low := st.boxes.length } := ⟨rfl, rfl, rfl, by simp⟩
theorem GrewAt.start {ts : List Bool} : GrewAt B T L lo ⟨B, T ++ ts, L, lo⟩ := ⟨rfl, rfl, rfl, by simp⟩
/-- One more token. -/
def St.tok1 (s : St) : St := { s with toks := s.toks ++ [true] }
theorem GrewAt.tok1 {s : St} (h : GrewAt B T L lo s) : GrewAt B T L lo s.tok1 := ⟨h.bx, h.lp, h.lw, by
  show (s.toks ++ [true]).take T.length = T
  rw [List.take_append_of_le_length h.len]; exact h.tk⟩

/-- A slice that a function has made itself, or none. -/
def Own (st s : St) (esz : Nat) (v : PV) (xs : List PV) : Prop := (v = .nils ∧ xs = []) ∨ ∃ i, v = .sl esz (.own i) xs ∧ st.toks.length ≤ i ∧ s.toks[i]? = some true
def OwnB (st s : St) (v : PV) (l : List UInt8) : Prop := (v = .nils ∧ l = []) ∨ ∃ i, v = .bys (.own i) l ∧ st.toks.length ≤ i ∧ s.toks[i]? = some true

theorem Own.tok1 {st s : St} {esz : Nat} {v : PV} {xs : List PV} (h : Own st s esz v xs) : Own st s.tok1 esz v xs := by
  rcases h with h | ⟨i, h1, h2, h3⟩
  · exact .inl h
  · exact .inr ⟨i, h1, h2, by show (s.toks ++ [true])[i]? = some true; rw [List.getElem?_append_left (List.getElem?_eq_some_iff.1 h3).1]; exact h3⟩
theorem OwnB.tok1 {st s : St} {v : PV} {l : List UInt8} (h : OwnB st s v l) : OwnB st s.tok1 v l := by
  rcases h with h | ⟨i, h1, h2, h3⟩
  · exact .inl h
  · exact .inr ⟨i, h1, h2, by show (s.toks ++ [true])[i]? = some true; rw [List.getElem?_append_left (List.getElem?_eq_some_iff.1 h3).1]; exact h3⟩
theorem OwnB.by {st s : St} {v : PV} {l : List UInt8} (h : OwnB st s v l) : v.by = some l := by
  rcases h with ⟨rfl, rfl⟩ | ⟨i, rfl, _, _⟩ <;> rfl

/-- What append leaves of the tokens. -/
def appS (s : St) (v : PV) : St := match v with
  | .sl _ (.own i) _ => { s with toks := s.toks.set i false ++ [true] }
  | .bys (.own i) _ => { s with toks := s.toks.set i false ++ [true] }
  | _ => s.tok1
theorem appS_len {s : St} {v : PV} : (appS s v).toks.length = s.toks.length + 1 := by
  unfold appS; split <;> simp [St.tok1]

theorem appV_own {st s : St} {esz : Nat} {v u : PV} {xs : List PV} {t : Tok} (h : Own st s esz v xs) (hl : xs.length + 1 ≤ room) :
    appV esz s v (.sl esz t [u]) = some (.sl esz (.own s.toks.length) (xs ++ [u]), appS s v) := by
  rcases h with ⟨rfl, rfl⟩ | ⟨i, rfl, h2, h3⟩
  · simp [appV, srcV, freshT, room, appS, St.tok1]
  · simp [appV, srcV, freshT, appTok, appS, h3, hl]
theorem app8_ownS {st s : St} {v y : PV} {l m : List UInt8} (h : OwnB st s v l) (hy : src8 s y = some m) (hm : m ≠ []) (hl : l.length + m.length ≤ room) :
    app8 s v y = some (.bys (.own s.toks.length) (l ++ m), appS s v) := by
  rcases h with ⟨rfl, rfl⟩ | ⟨i, rfl, h2, h3⟩
  · simp at hl
    simp [app8, hy, hm, freshT, hl, appS, St.tok1]
  · simp [app8, hy, hm, freshT, appTok, appS, h3, hl]
theorem app8_own {st s : St} {v y : PV} {l m : List UInt8} (h : OwnB st s v l) (hy : y.by = some m) (hm : m ≠ []) (hl : l.length + m.length ≤ room) :
    app8 s v y = some (.bys (.own s.toks.length) (l ++ m), appS s v) := app8_ownS h (src8_by hy) hm hl
theorem app8_nil {s : St} {v y : PV} {l : List UInt8} (hv : v.by = some l) (hy : y.by = some []) : app8 s v y = some (v, s) := by
  rcases by_cases' hv with ⟨rfl, rfl⟩ | ⟨t, rfl⟩ <;> simp [app8, src8_by hy]

theorem Own.app {st s : St} {esz : Nat} {v : PV} {xs ys : List PV} (hg : GrewAt B st.toks L lo s) (h : Own st s esz v xs) : GrewAt B st.toks L lo (appS s v) ∧ Own st (appS s v) esz (.sl esz (.own s.toks.length) ys) ys := by
  have hlen := hg.len
  rcases h with ⟨rfl, rfl⟩ | ⟨i, rfl, h2, h3⟩
  · refine ⟨hg.tok1, .inr ⟨_, rfl, hlen, ?_⟩⟩
    simp [appS, St.tok1]
  · refine ⟨⟨hg.bx, hg.lp, hg.lw, ?_⟩, .inr ⟨_, rfl, hlen, ?_⟩⟩
    · show (s.toks.set i false ++ [true]).take st.toks.length = st.toks
      rw [List.take_append_of_le_length (by simpa using hlen), List.take_set_of_le h2]; exact hg.tk
    · show (s.toks.set i false ++ [true])[s.toks.length]? = some true
      rw [List.getElem?_append_right (by simp)]; simp
theorem OwnB.app {st s : St} {v : PV} {l m : List UInt8} (hg : GrewAt B st.toks L lo s) (h : OwnB st s v l) : GrewAt B st.toks L lo (appS s v) ∧ OwnB st (appS s v) (.bys (.own s.toks.length) m) m := by
  have hlen := hg.len
  rcases h with ⟨rfl, rfl⟩ | ⟨i, rfl, h2, h3⟩
  · refine ⟨hg.tok1, .inr ⟨_, rfl, hlen, ?_⟩⟩
    simp [appS, St.tok1]
  · refine ⟨⟨hg.bx, hg.lp, hg.lw, ?_⟩, .inr ⟨_, rfl, hlen, ?_⟩⟩
    · show (s.toks.set i false ++ [true]).take st.toks.length = st.toks
      rw [List.take_append_of_le_length (by simpa using hlen), List.take_set_of_le h2]; exact hg.tk
    · show (s.toks.set i false ++ [true])[s.toks.length]? = some true
      rw [List.getElem?_append_right (by simp)]; simp

/-- Bytes appended, whatever they are. -/
theorem app8_any {st s : St} {v y : PV} {l m : List UInt8} (hg : GrewAt B st.toks L lo s) (h : OwnB st s v l) (hy : y.by = some m) (hl : l.length + m.length ≤ room) :
    ∃ v' s', app8 s v y = some (v', s') ∧ GrewAt B st.toks L lo s' ∧ OwnB st s' v' (l ++ m) := by
  by_cases hm : m = []
  · subst hm
    exact ⟨v, s, app8_nil h.by hy, hg, by simpa using h⟩
  · obtain ⟨g2, o2⟩ := OwnB.app (m := l ++ m) hg h
    exact ⟨_, _, app8_own h hy hm hl, g2, o2⟩

/-- Bytes in a box of two's middle. -/
theorem GrewAt.loops {s : St} {L' : List LoopS} (h : GrewAt B T L lo s) : GrewAt B T L' lo { s with loops := L' } := ⟨h.bx, rfl, h.lw, h.tk⟩
theorem OwnB.loops {st s : St} {v : PV} {l : List UInt8} {L' : List LoopS} (h : OwnB st s v l) : OwnB st { s with loops := L' } v l := h
theorem store_own {st s : St} {v w : PV} {l : List UInt8} {c0 c2 : List PV} (hg : GrewAt (B ++ [c0, [w], c2]) T L lo s) (ho : OwnB st s v l) :
    ∃ lo' s', storePV s 1 (.ptr (B.length + 1) 0) v = some s' ∧ GrewAt (B ++ [c0, [v], c2]) T L lo' s' ∧ OwnB st s' v l ∧ (lo' = lo ∨ lo' = min lo (B.length + 1)) ∧ (v = .nils ∨ lo' ≤ B.length + 1) := by
  obtain ⟨bs, ts, ls, lo0⟩ := s
  obtain ⟨hb, hl, hw, ht⟩ := hg
  simp only at hb hl hw ht
  subst hb hl hw
  have hget : (B ++ [c0, [w], c2])[B.length + 1]? = some [w] := by
    rw [List.getElem?_append_right (by omega)]; simp
  have hset : ∀ u, (B ++ [c0, [w], c2]).set (B.length + 1) u = B ++ [c0, u, c2] := fun u => by
    rw [List.set_append_right _ _ (by omega)]; simp
  rcases ho with ⟨rfl, rfl⟩ | ⟨i, rfl, h2, h3⟩
  · refine ⟨lo0, ⟨B ++ [c0, [.nils], c2], ts, ls, lo0⟩, ?_, ⟨rfl, rfl, rfl, ht⟩, .inl ⟨rfl, rfl⟩, .inl rfl, .inl rfl⟩
    simp [storePV, hget, hset, PV.cells, PV.inB, leafOk, setCells, hasTok, tokOf]
  · refine ⟨min lo0 (B.length + 1), ⟨B ++ [c0, [.bys (.own i) l], c2], ts, ls, min lo0 (B.length + 1)⟩, ?_, ⟨rfl, rfl, rfl, ht⟩, .inr ⟨i, rfl, h2, h3⟩, .inr rfl, .inr (Nat.min_le_right _ _)⟩
    simp [storePV, hget, hset, PV.cells, PV.inB, leafOk, setCells, hasTok, tokOf]
theorem load_own {s : St} {w : PV} {c0 c2 : List PV} (hg : GrewAt (B ++ [c0, [w], c2]) T L lo s) : loadPV s false 1 (.ptr (B.length + 1) 0) = some w := by
  have hget : (B ++ [c0, [w], c2])[B.length + 1]? = some [w] := by
    rw [List.getElem?_append_right (by omega)]; simp
  simp [loadPV, hg.bx, hget, readCells]

/-- A slice of values, new to the caller. -/
def newSl (st : St) (esz : Nat) (xs : List PV) : PV := if xs = [] then .nils else .sl esz (.own st.toks.length) xs
def newB (st : St) (l : List UInt8) : PV := if l = [] then .nils else .bys (.own st.toks.length) l
def newS (st : St) (b : Bool) : St := if b then st else st.tok1
theorem newB_by {st : St} {l : List UInt8} : (newB st l).by = some l := by
  unfold newB; split
  · rename_i h; rw [h]; rfl
  · rfl

theorem Own.ne {st s : St} {esz : Nat} {v : PV} {xs : List PV} (h : Own st s esz v xs) (hne : v = .nils ↔ xs = []) : True := trivial

/-- A function's one result is what it has made. -/
theorem leave_own {st s : St} {esz : Nat} {v : PV} {xs : List PV} (hg : Grew st s) (h : Own st s esz v xs) (hne : xs = [] → v = .nils) : leave st s v = (newSl st esz xs, newS st xs.isEmpty) := by
  obtain ⟨hb, hl, hw, ht⟩ := hg
  obtain ⟨bs, ts, ls, lo⟩ := s
  simp only at hb hl hw ht
  subst hb hl hw
  rcases h with ⟨rfl, rfl⟩ | ⟨i, rfl, h2, h3⟩
  · simp [leave, PV.inB, keepRes, keepVal, keepLeaf, newSl, newS, ht]
  · by_cases hx : xs = []
    · have := hne hx; cases this
    · simp only at h3
      simp [leave, PV.inB, keepRes, keepVal, keepLeaf, keepTok, newSl, newS, hx, ht, h3, show ¬ i < st.toks.length by omega, St.tok1]
theorem leave_ownB {st s : St} {v : PV} {l : List UInt8} (hg : Grew st s) (h : OwnB st s v l) (hne : l = [] → v = .nils) : leave st s v = (newB st l, newS st l.isEmpty) := by
  obtain ⟨hb, hl, hw, ht⟩ := hg
  obtain ⟨bs, ts, ls, lo⟩ := s
  simp only at hb hl hw ht
  subst hb hl hw
  rcases h with ⟨rfl, rfl⟩ | ⟨i, rfl, h2, h3⟩
  · simp [leave, PV.inB, keepRes, keepVal, keepLeaf, newB, newS, ht]
  · by_cases hx : l = []
    · have := hne hx; cases this
    · simp only at h3
      simp [leave, PV.inB, keepRes, keepVal, keepLeaf, keepTok, newB, newS, hx, ht, h3, show ¬ i < st.toks.length by omega, St.tok1]
theorem lit1 {esz : Nat} {v u z : PV} (h : strip v = some u) (hc : u.cells.length = esz) : litFill esz (List.replicate 1 z) [(0, v)] = some [u] := by
  simp [litFill, h, hc]
/-- New bytes and a number are handed back. -/
theorem leave_ownB2 {st s : St} {v : PV} {l : List UInt8} {k : IntKind} {n : Int} {bs : List (List PV)} (hg : GrewAt (st.boxes ++ bs) st.toks st.loops st.boxes.length s) (h : OwnB st s v l) (hne : l ≠ []) :
    leave st s (.tup [v, .int k n]) = (.tup [.bys (.own st.toks.length) l, .int k n], st.tok1) := by
  obtain ⟨hb, hl, hw, ht⟩ := hg
  obtain ⟨b, ts, ls, lo⟩ := s
  simp only at hb hl hw ht
  subst hb hl hw
  rcases h with ⟨_, rfl⟩ | ⟨i, rfl, h2, h3⟩
  · exact absurd rfl hne
  · simp only at h3
    simp [leave, PV.inB, PV.inB.inBAll, keepRes, keepVals, keepVal, keepLeaf, keepTok, ht, h3, show ¬ i < st.toks.length by omega, St.tok1]
theorem freshT_eq {s : St} : freshT s = (.own s.toks.length, s.tok1) := rfl
theorem tok1_len {s : St} : s.tok1.toks.length = s.toks.length + 1 := by simp [St.tok1]

/-- A value of one cell. -/
def Leaf (v : PV) : Prop := v.cells = [v] ∧ leafOk v = true
theorem Leaf_by {x : PV} {l : List UInt8} (h : x.by = some l) : Leaf x := by
  rcases by_cases' h with ⟨rfl, rfl⟩ | ⟨t, rfl⟩ <;> exact ⟨rfl, rfl⟩
theorem Leaf_int {k : IntKind} {n : Int} : Leaf (.int k n) := ⟨rfl, rfl⟩
theorem Leaf_bool {b : Bool} : Leaf (.bool b) := ⟨rfl, rfl⟩
theorem Leaf_str {s : List UInt8} : Leaf (.str s) := ⟨rfl, rfl⟩
theorem build2 {z0 z1 v0 v1 : PV} (h0 : Leaf v0) (h1 : Leaf v1) : buildCells [z0, z1] [(0, 1, v0), (1, 1, v1)] = some [v0, v1] := by
  simp [buildCells, h0.1, h0.2, h1.1, h1.2, setCells]
theorem build3 {z0 z1 z2 v0 v1 v2 : PV} (h0 : Leaf v0) (h1 : Leaf v1) (h2 : Leaf v2) : buildCells [z0, z1, z2] [(0, 1, v0), (1, 1, v1), (2, 1, v2)] = some [v0, v1, v2] := by
  simp [buildCells, h0.1, h0.2, h1.1, h1.2, h2.1, h2.2, setCells]
end Go.Ab

/-
  Ranges over functions; memory that grows.
-/
namespace Go.Ab
set_option linter.unusedVariables false
set_option linter.unusedSimpArgs false
variable {A : AP} {st : St} {e : Env}

theorem W_rangeFunc {f : Opd} {ps : List Nat} {asg body : ACode} {fid : Nat} {caps : List PV} {fn : ACFn} {Q : Ex → Env → St → Prop} (hf : f.ev e = .fn fid caps) (hA : A fid = some (.code fn))
    (h : ∃ v s1 r, call A (.fn fid caps) [.yld st.loops.length] { st with loops := st.loops ++ [recOf e ps asg body] } = some (v, s1) ∧ s1.loops[st.loops.length]? = some r ∧ r.status ≠ 1 ∧ Q r.pend e { s1 with loops := s1.loops.take st.loops.length }) :
    W A (.rangeFunc f ps asg body) e st Q := by
  obtain ⟨v, s1, r, h1, h2, h3, h4⟩ := h
  refine ⟨(r.pend, e, { s1 with loops := s1.loops.take st.loops.length }), ?_, h4⟩
  rw [ex_rangeFunc hf hA, h1]
  simp only [h2, h3, if_false]

/-- What is asked where a round ends. -/
def roundQ (k : Nat) (K : Bool → St → Prop) : Ex → Env → St → Prop := fun x _ s2 => ∃ r2, s2.loops[k]? = some r2 ∧ K (decide (x = .normal)) { s2 with loops := s2.loops.set k { r2 with status := if x = .normal then 0 else 2, pend := x } }

theorem yld_of_W {k : Nat} {args : List PV} {r : LoopS} {e1 : Env} {K : Bool → St → Prop} (hr : st.loops[k]? = some r) (hs : r.status = 0) (hl : args.length = r.params.length)
    (ha : ex A r.assign (updAll r.env r.params args) st = some (.normal, e1, st))
    (hb : W A r.body e1 { st with loops := st.loops.set k { r with status := 1 } } (roundQ k K)) : ∃ b s', call A (.yld k) args st = some (.bool b, s') ∧ K b s' := by
  obtain ⟨⟨x, e2, s2⟩, h1, r2, h2, h3⟩ := hb
  refine ⟨decide (x = .normal), _, ?_, h3⟩
  rw [call_yld hr hs hl, ha]
  simp only [hr, hs, if_true]
  rw [h1]
  simp only at h2 ⊢
  rw [h2]

theorem ex_of_W {c : ACode} {E : Env} {S : St} {x : Ex} (h : W A c e st (fun x' e' s' => x' = x ∧ e' = E ∧ s' = S)) : ex A c e st = some (x, E, S) := by
  obtain ⟨⟨x', e', s'⟩, h1, rfl, rfl, rfl⟩ := h
  exact h1
theorem tok1_mk {b : List (List PV)} {t : List Bool} {l : List LoopS} {lo : Nat} : St.tok1 ⟨b, t, l, lo⟩ = ⟨b, t ++ [true], l, lo⟩ := rfl

/-! ### Lists that have grown -/
theorem get_app {α : Type} {l r : List α} {k : Nat} : (l ++ r)[l.length + k]? = r[k]? := by
  rw [List.getElem?_append_right (by omega)]; congr 1; omega
theorem get_app0 {α : Type} {l r : List α} {a : α} : (l ++ a :: r)[l.length]? = some a := by simp
theorem set_app {α : Type} {l r : List α} {k : Nat} {v : α} : (l ++ r).set (l.length + k) v = l ++ r.set k v := by
  rw [List.set_append_right _ _ (by omega)]; congr 2; omega
theorem set_app0 {α : Type} {l r : List α} {a v : α} : (l ++ a :: r).set l.length v = l ++ v :: r := by
  have := set_app (l := l) (r := a :: r) (k := 0) (v := v)
  simp only [Nat.add_zero, List.set_cons_zero] at this; exact this

theorem tokLt_mono {x : PV} {n m : Nat} (h : x.tokLt n = true) (hnm : n ≤ m) : x.tokLt m = true := by
  cases x with
  | bys t l => cases t <;> simp_all [PV.tokLt, Tok.lt]; omega
  | sl e t l => cases t <;> simp_all [PV.tokLt, Tok.lt]; omega
  | _ => rfl
/-! ### Slices of values -/
def PV.vs (esz : Nat) : PV → Option (List PV)
  | .nils => some []
  | .sl e _ xs => if e = esz then some xs else none
  | _ => none
theorem vs_cases {esz : Nat} {x : PV} {xs : List PV} (h : x.vs esz = some xs) : (x = .nils ∧ xs = []) ∨ ∃ t, x = .sl esz t xs := by
  cases x <;> simp [PV.vs] at h
  · exact .inl ⟨rfl, h⟩
  · obtain ⟨rfl, rfl⟩ := h; exact .inr ⟨_, rfl⟩
theorem len_vs {esz : Nat} {x : PV} {xs : List PV} (h : x.vs esz = some xs) : lenPV false x = some (.int .i64 (xs.length : Int)) := by
  rcases vs_cases h with ⟨rfl, rfl⟩ | ⟨t, rfl⟩ <;> rfl
theorem iaddr_vs {esz : Nat} {x : PV} {xs : List PV} {k : IntKind} {c : Int} (h : x.vs esz = some xs) (h1 : 0 ≤ c) (h2 : c.toNat < xs.length) : iaddrPV esz x (.int k c) = some (.cp (xs.getD c.toNat .undef).cells) := by
  rcases vs_cases h with ⟨rfl, rfl⟩ | ⟨t, rfl⟩
  · simp at h2
  · simp [iaddrPV, intOf, h1, show c < xs.length by omega]
theorem newSl_vs {esz : Nat} {xs : List PV} : (newSl st esz xs).vs esz = some xs := by
  unfold newSl; split
  · rename_i h; rw [h]; rfl
  · simp [PV.vs]
theorem newS_eq {b : List (List PV)} {t : List Bool} {l : List LoopS} {lo : Nat} {c : Bool} : newS ⟨b, t, l, lo⟩ c = ⟨b, t ++ (if c then [] else [true]), l, lo⟩ := by
  cases c <;> simp [newS, St.tok1]

/-- Boxes and tokens of its own are gone behind a call that hands back plain values. -/
theorem leave_gone {v : PV} {bs : List (List PV)} {ts : List Bool} (h1 : v.inB st.boxes.length = true) (h3 : keepRes st.toks.length (st.toks ++ ts) v = (v, [])) :
    leave st ⟨st.boxes ++ bs, st.toks ++ ts, st.loops, st.boxes.length⟩ v = (v, st) := by
  simp [leave, h1, h3]
theorem leave_gone0 {v : PV} {bs : List (List PV)} (h1 : v.inB st.boxes.length = true) (h3 : keepRes st.toks.length (st.toks ++ []) v = (v, [])) :
    leave st ⟨st.boxes ++ bs, st.toks, st.loops, st.boxes.length⟩ v = (v, st) := by
  have := leave_gone (bs := bs) h1 h3
  simpa using this
end Go.Ab

/-
  Cuts in code; slices that live on in boxes.
-/
namespace Go.Ab
set_option linter.unusedVariables false
set_option linter.unusedSimpArgs false
variable {A : AP} {st : St} {e : Env}

/-- Code in two: what is known between. -/
theorem W_cut {a b : ACode} {Q : Ex → Env → St → Prop} (M : Env → St → Prop) (h1 : W A a e st (fun x e' s' => x = .normal ∧ M e' s')) (h2 : ∀ e' s', M e' s' → W A b e' s' Q) : W A (.seq a b) e st Q := by
  rw [W_seq]
  refine W_mono h1 ?_
  rintro x e s ⟨rfl, h⟩
  exact h2 e s h

/-- A law's call: its one result is true. -/
theorem law_of_W {f k : Nat} {args : List PV} {fn : ACFn} (hA : A f = some (.code fn)) (hr : fn.results = [.tmp k])
    (h : W A fn.body (env0 args) { st with low := st.boxes.length } (fun x e _ => (x = .normal ∨ x = .ret) ∧ e k = .bool true)) : ∃ s', call A (.fn f []) args st = some (.bool true, s') := by
  obtain ⟨⟨x, e1, st1⟩, h1, h2, h3⟩ := h
  simp only at h2 h3
  have hl : ∃ s', leave st st1 (.bool true) = (.bool true, s') := by
    unfold leave
    simp only [PV.inB, if_true]
    split
    · exact ⟨_, rfl⟩
    · exact ⟨_, rfl⟩
  obtain ⟨s', hl⟩ := hl
  refine ⟨s', ?_⟩
  have hres : resOf e1 st1 fn.results = some (.bool true) := by rw [hr]; simp [resOf, rvAll, rv1, h3, notTup, packRes]
  refine call_of_W hA ⟨(x, e1, st1), by rw [List.append_nil]; exact h1, h2, .bool true, hres, hl⟩

/-- A slice whose room is its own, or none. -/
def Live (s : St) (v : PV) (l : List UInt8) : Prop := (v = .nils ∧ l = []) ∨ ∃ i, v = .bys (.own i) l ∧ s.toks[i]? = some true
theorem Live.by {s : St} {v : PV} {l : List UInt8} (h : Live s v l) : v.by = some l := by
  rcases h with ⟨rfl, rfl⟩ | ⟨i, rfl, _⟩ <;> rfl
theorem Live.lt {s : St} {v : PV} {l : List UInt8} (h : Live s v l) {i : Nat} (hi : tokOf v = some i) : i < s.toks.length ∧ s.toks[i]? = some true := by
  rcases h with ⟨rfl, rfl⟩ | ⟨j, rfl, hj⟩
  · cases hi
  · simp only [tokOf, Option.some.injEq] at hi
    subst hi
    exact ⟨(List.getElem?_eq_some_iff.1 hj).1, hj⟩
theorem Live.tokLt {s : St} {v : PV} {l : List UInt8} (h : Live s v l) : v.tokLt s.toks.length = true := by
  rcases h with ⟨rfl, rfl⟩ | ⟨j, rfl, hj⟩
  · rfl
  · simp [PV.tokLt, Tok.lt, (List.getElem?_eq_some_iff.1 hj).1]
theorem Live.move {s s' : St} {v : PV} {l : List UInt8} (h : Live s v l) (ht : ∀ i, tokOf v = some i → s'.toks[i]? = s.toks[i]?) : Live s' v l := by
  rcases h with h | ⟨j, rfl, hj⟩
  · exact .inl h
  · exact .inr ⟨j, rfl, by rw [ht j rfl]; exact hj⟩
theorem Live.tok1 {s : St} {v : PV} {l : List UInt8} (h : Live s v l) : Live s.tok1 v l := h.move fun i hi => by
  show (s.toks ++ [true])[i]? = _
  rw [List.getElem?_append_left (h.lt hi).1]

theorem app8_live {s : St} {v y : PV} {l m : List UInt8} (h : Live s v l) (hy : src8 s y = some m) (hl : l.length + m.length ≤ room) :
    ∃ v' s', app8 s v y = some (v', s') ∧ s'.boxes = s.boxes ∧ s'.loops = s.loops ∧ s'.low = s.low ∧ Live s' v' (l ++ m) ∧ s.toks.length ≤ s'.toks.length ∧
      (∀ i, i < s.toks.length → tokOf v ≠ some i → s'.toks[i]? = s.toks[i]?) ∧ (∀ i, tokOf v' = some i → (tokOf v = some i ∧ s' = s) ∨ s.toks.length ≤ i) ∧ (m ≠ [] → tokOf v' = some s.toks.length) := by
  by_cases hm : m = []
  · subst hm
    refine ⟨v, s, ?_, rfl, rfl, rfl, by simpa using h, Nat.le_refl _, fun _ _ _ => rfl, fun i hi => .inl ⟨hi, rfl⟩, fun h => absurd rfl h⟩
    rcases h with ⟨rfl, rfl⟩ | ⟨j, rfl, hj⟩ <;> simp [app8, hy]
  · rcases h with ⟨rfl, rfl⟩ | ⟨j, rfl, hj⟩
    · simp at hl
      refine ⟨.bys (.own s.toks.length) m, s.tok1, by simp [app8, hy, hm, freshT, hl, St.tok1], rfl, rfl, rfl, .inr ⟨_, rfl, by simp [St.tok1]⟩, by simp [St.tok1], fun i hi _ => ?_, fun i hi => .inr ?_, fun _ => rfl⟩
      · show (s.toks ++ [true])[i]? = _
        rw [List.getElem?_append_left hi]
      · simp only [tokOf, Option.some.injEq] at hi; omega
    · refine ⟨.bys (.own s.toks.length) (l ++ m), ⟨s.boxes, s.toks.set j false ++ [true], s.loops, s.low⟩, by simp [app8, hy, hm, freshT, appTok, hj, hl], rfl, rfl, rfl, .inr ⟨_, rfl, by simp [List.getElem?_append_right]⟩, by simp, fun i hi hne => ?_, fun i hi => .inr ?_, fun _ => rfl⟩
      · show (s.toks.set j false ++ [true])[i]? = _
        rw [List.getElem?_append_left (by simpa using hi), List.getElem?_set_ne (fun h => hne (by rw [h]; rfl))]
      · simp only [tokOf, Option.some.injEq] at hi; omega
end Go.Ab
namespace Go.Ab
variable {A : AP} {st : St} {e : Env}
/-- A temporary is set under a condition: one way goes on. -/
def joinc (_A : AP) (x : PV) (d : Nat) (v : PV) (e : Env) (st : St) (Q : Ex → Env → St → Prop) : Prop := match x with
  | .bool t => Q .normal (upd e d (if t then v else e d)) st
  | _ => False
theorem joinc_bool {t : Bool} {d : Nat} {v : PV} {Q : Ex → Env → St → Prop} : joinc A (.bool t) d v e st Q = Q .normal (upd e d (if t then v else e d)) st := rfl
theorem W_joinc {c : Opd} {d : Nat} {v : PV} {Q : Ex → Env → St → Prop} : W A (.cond c (.region [⟨some d, .mov (.const v), none⟩]) .skip) e st Q = joinc A (c.ev e) d v e st Q := by
  rw [W_cond]
  cases hc : c.ev e with
  | bool t =>
    rw [condW_bool, joinc_bool]
    cases t with
    | true =>
      rw [if_pos rfl, W_region, WO_cons]
      simp [evOp, WN_some, WO_nil, ev_const, updO]
    | false =>
      rw [if_neg (by simp), W_skip]
      have : upd e d (e d) = e := by funext t; simp [upd]; intro h; rw [h]
      simp [this]
  | _ => simp [condW, joinc]
end Go.Ab

/-
  strings.Builder: what is written, and its text.
-/
namespace Go.Ab
set_option linter.unusedVariables false
set_option linter.unusedSimpArgs false
variable {P : St → Prop} {st : St} {e : Env} {s s' : St} {b : Nat} {x : PV} {l : List UInt8}

/-- A Builder in a box. -/
structure Bu (s : St) (b : Nat) (x : PV) (l : List UInt8) : Prop where
  bx : s.boxes[b]? = some [.bslot, x] ∨ s.boxes[b]? = some [.ptr b 0, x]
  lv : Live s x l

/-- What a write leaves. -/
structure BuStep (s s' : St) (b : Nat) (x x' : PV) (l' : List UInt8) : Prop where
  bx : s'.boxes = s.boxes.set b [.ptr b 0, x']
  lv : Live s' x' l'
  lp : s'.loops = s.loops
  tl : s.toks.length ≤ s'.toks.length
  tk : ∀ i, i < s.toks.length → tokOf x ≠ some i → s'.toks[i]? = s.toks[i]?
  tn : ∀ i, tokOf x' = some i → tokOf x = some i ∨ s.toks.length ≤ i
  lw : min s.low b ≤ s'.low

theorem Bu.lt (h : Bu s b x l) : b < s.boxes.length := by
  rcases h.bx with h | h <;> exact (List.getElem?_eq_some_iff.1 h).1
theorem BuStep.bu {x' : PV} {l' : List UInt8} (h : BuStep s s' b x x' l') (hb : b < s.boxes.length) : Bu s' b x' l' :=
  ⟨.inr (by rw [h.bx, List.getElem?_set_self hb]), h.lv⟩

theorem copyCheck_spec (h : Bu s b x l) : ∃ s1, primS pCopyCheck [.ptr b 0] s = some (.tup [], s1) ∧ s1 = { s with boxes := s.boxes.set b [.ptr b 0, x] } := by
  rcases h.bx with h1 | h1
  · refine ⟨_, ?_, rfl⟩
    simp [primS, pCopyCheck, h1, updS, storePV, PV.cells, PV.inB, leafOk, hasTok, tokOf, setCells]
  · refine ⟨_, ?_, rfl⟩
    have : s.boxes.set b [.ptr b 0, x] = s.boxes := by
      obtain ⟨q, r⟩ := List.getElem?_eq_some_iff.1 h1
      rw [← r]; simp
    rw [this]
    simp [primS, pCopyCheck, h1, updS]

/-- The core of a write: m is put behind; s was the caller's state, s0 is the callee's, with more tokens. -/
theorem bu_app {y : PV} {m : List UInt8} {s0 : St} (h : Live s x l) (hb : b < s.boxes.length) (hbx : s0.boxes = s.boxes.set b [.ptr b 0, x]) (hlp : s0.loops = s.loops) (htl : s.toks.length ≤ s0.toks.length) (htk : ∀ i, i < s.toks.length → s0.toks[i]? = s.toks[i]?)
    (hy : src8 s0 y = some m) (hl : l.length + m.length ≤ room) (hlow : s0.low = s.boxes.length) :
    ∃ x' s1 s2, app8 s0 x y = some (x', s1) ∧ storePV s1 1 (.ptr b 1) x' = some s2 ∧ ∀ v : PV, v.inB s.boxes.length = true → (∀ n toks, keepRes n toks v = (v, [])) → ∃ s', leave s s2 v = (v, s') ∧ BuStep s s' b x x' (l ++ m) := by
  obtain ⟨x', s1, a1, a2, a3, a4, a5, a6, a7, a8, a9⟩ := app8_live (h.move (s' := s0) fun i hi => htk i (h.lt hi).1) hy hl
  have hg : s1.boxes[b]? = some [.ptr b 0, x] := by rw [a2, hbx, List.getElem?_set_self hb]
  have hcell : x'.cells = [x'] ∧ leafOk x' = true ∧ x'.inB (b + 1) = true := by
    rcases a5 with ⟨rfl, _⟩ | ⟨i, rfl, _⟩ <;> exact ⟨rfl, rfl, rfl⟩
  have hst : storePV s1 1 (.ptr b 1) x' = some { s1 with boxes := s1.boxes.set b [.ptr b 0, x'], low := if hasTok [x'] then min s1.low b else s1.low } := by
    simp [storePV, hg, hcell.1, hcell.2.1, hcell.2.2, setCells]
  refine ⟨x', s1, _, a1, hst, fun v hv hk => ?_⟩
  have htake : (s1.boxes.set b [.ptr b 0, x']).take s.boxes.length = s.boxes.set b [.ptr b 0, x'] := by
    rw [a2, hbx, List.set_set]; apply List.take_of_length_le; simp
  have hkeep : ∀ i, i < s.toks.length → tokOf x ≠ some i → s1.toks[i]? = s.toks[i]? := fun i hi hne => by
    rw [a7 i (by omega) hne, htk i hi]
  cases ht : hasTok [x'] with
  | true =>
    have hlt : ¬ s.boxes.length ≤ min s1.low b := by omega
    refine ⟨{ boxes := s.boxes.set b [.ptr b 0, x'], toks := s1.toks, loops := s1.loops, low := min s.low (min s1.low b) }, ?_, ⟨rfl, a5, a3.trans hlp, by show s.toks.length ≤ s1.toks.length; omega, hkeep, fun i hi => ?_, ?_⟩⟩
    · simp [leave, hv, hlt, htake]
    · rcases a8 i hi with ⟨h1, _⟩ | h1
      · exact .inl h1
      · exact .inr (by omega)
    · show min s.low b ≤ min s.low (min s1.low b)
      rw [a4, hlow]; omega
  | false =>
    -- nothing that lives was stored
    have hx' : x' = .nils := by
      rcases a5 with ⟨rfl, _⟩ | ⟨i, rfl, _⟩
      · rfl
      · simp [hasTok, tokOf] at ht
    have hle : s.boxes.length ≤ s1.low := by rw [a4, hlow]; exact Nat.le_refl _
    refine ⟨{ boxes := s.boxes.set b [.ptr b 0, x'], toks := s1.toks.take s.toks.length, loops := s1.loops, low := s.low }, ?_, ⟨rfl, ?_, a3.trans hlp, ?_, fun i hi hne => ?_, fun i hi => (by rw [hx'] at hi; cases hi), ?_⟩⟩
    · simp [leave, hv, hle, htake, hk]
    · rcases a5 with ⟨h1, h2⟩ | ⟨i, h1, _⟩
      · exact .inl ⟨h1, h2⟩
      · rw [hx'] at h1; cases h1
    · simp; omega
    · show (s1.toks.take s.toks.length)[i]? = _
      rw [List.getElem?_take, if_pos hi]; exact hkeep i hi hne
    · show min s.low b ≤ s.low
      omega

theorem WriteByte_spec {c : UInt8} (h : Bu s b x l) (hl : l.length + 1 ≤ room) : ∃ x' s', call prog (.fn 57 []) [.ptr b 0, .b8 c] s = some (.nili, s') ∧ BuStep s s' b x x' (l ++ [c]) := by
  have hlt := h.lt
  obtain ⟨s1, c1, c2⟩ := copyCheck_spec (s := { s with low := s.boxes.length }) ⟨h.bx, h.lv.move fun _ _ => rfl⟩
  have hlit : lit8Fill (List.replicate 1 0) [(0, .b8 c)] = some [c] := rfl
  have ld : loadPV s1 false 1 (.ptr b 1) = some x := by simp [c2, loadPV, hlt, readCells]
  obtain ⟨x', s2, s3, a1, a2, a3⟩ := bu_app (s := s) (s0 := s1.tok1) (b := b) (y := .bys (.own s1.toks.length) [c]) (m := [c]) h.lv hlt (by rw [c2]; rfl) (by rw [c2]; rfl) (by rw [c2]; simp [St.tok1]) (fun i hi => by
    rw [c2]; show (s.toks ++ [true])[i]? = _
    rw [List.getElem?_append_left hi]) rfl (by simpa using hl) (by rw [c2]; rfl)
  obtain ⟨s', k1, k2⟩ := a3 .nili rfl (fun _ _ => rfl)
  refine ⟨x', s', call_of_W prog_57 ?_, k2⟩
  unfold F_P_strings_Builder_WriteByte; dsimp only
  have c1' : call prog (.fn 73 []) [.ptr b 0] { boxes := s.boxes, toks := s.toks, loops := s.loops, low := s.boxes.length } = some (.tup [], s1) := by
    rw [call_primS prog_73]; exact c1
  simp (maxSteps := 1000000) (disch := omega) only [c1', faddrPV, Nat.zero_add, ld, hlit, freshT_eq, a1, a2, abR, WO_consG, wantedA_eq, wantB, evOp, ↓reduceIte, Nat.reduceEqDiff, List.nil_append, List.cons_append, List.append_nil, List.map_cons, List.map_nil, Option.map_some, Option.map_none, condW_bool, Bool.not_eq_true', decide_eq_true_eq, decide_eq_false_iff_not, decide_true, decide_false, Int.toNat_natCast, Int.ofNat_lt, Int.ofNat_le, Int.natCast_inj, Bool.false_eq_true, Bool.true_eq_false, extPV, List.getElem?_cons_zero, List.getElem?_cons_succ, nilckPV, Int.reduceToNat, Int.reduceLE, true_and, and_true, reduceCtorEq, or_false, false_or, or_true, Option.some.injEq, exists_eq_left', Bool.not_true, Bool.not_false, ne_eq, Int.reduceEq, not_true_eq_false, not_false_eq_true, Int.reduceLT, UInt8.reduceLT, UInt8.reduceLE, UInt8.reduceToNat]
  exact ⟨.nili, rfl, k1⟩

theorem WriteString_spec {m : List UInt8} (h : Bu s b x l) (hl : l.length + m.length ≤ room) : ∃ x' s', call prog (.fn 58 []) [.ptr b 0, .str m] s = some (.tup [.int .i64 (m.length : Int), .nili], s') ∧ BuStep s s' b x x' (l ++ m) := by
  have hlt := h.lt
  obtain ⟨s1, c1, c2⟩ := copyCheck_spec (s := { s with low := s.boxes.length }) ⟨h.bx, h.lv.move fun _ _ => rfl⟩
  have ld : loadPV s1 false 1 (.ptr b 1) = some x := by simp [c2, loadPV, hlt, readCells]
  obtain ⟨x', s2, s3, a1, a2, a3⟩ := bu_app (s := s) (s0 := s1) (b := b) (y := .str m) (m := m) h.lv hlt (by rw [c2]) (by rw [c2]) (by rw [c2]; exact Nat.le_refl _) (fun i hi => by rw [c2]) rfl hl (by rw [c2])
  obtain ⟨s', k1, k2⟩ := a3 (.tup [.int .i64 (m.length : Int), .nili]) rfl (fun _ _ => rfl)
  refine ⟨x', s', call_of_W prog_58 ?_, k2⟩
  unfold F_P_strings_Builder_WriteString; dsimp only
  have c1' : call prog (.fn 73 []) [.ptr b 0] { boxes := s.boxes, toks := s.toks, loops := s.loops, low := s.boxes.length } = some (.tup [], s1) := by
    rw [call_primS prog_73]; exact c1
  have hlen : lenPV true (.str m) = some (.int .i64 (m.length : Int)) := rfl
  simp (maxSteps := 1000000) (disch := omega) only [c1', faddrPV, Nat.zero_add, ld, a1, a2, hlen, abR, WO_consG, wantedA_eq, wantB, evOp, ↓reduceIte, Nat.reduceEqDiff, List.nil_append, List.cons_append, List.append_nil, List.map_cons, List.map_nil, Option.map_some, Option.map_none, condW_bool, Bool.not_eq_true', decide_eq_true_eq, decide_eq_false_iff_not, decide_true, decide_false, Int.toNat_natCast, Int.ofNat_lt, Int.ofNat_le, Int.natCast_inj, Bool.false_eq_true, Bool.true_eq_false, extPV, List.getElem?_cons_zero, List.getElem?_cons_succ, nilckPV, Int.reduceToNat, Int.reduceLE, true_and, and_true, reduceCtorEq, or_false, false_or, or_true, Option.some.injEq, exists_eq_left', Bool.not_true, Bool.not_false, ne_eq, Int.reduceEq, not_true_eq_false, not_false_eq_true, Int.reduceLT, UInt8.reduceLT, UInt8.reduceLE, UInt8.reduceToNat]
  exact ⟨.tup [.int .i64 (m.length : Int), .nili], rfl, k1⟩

/-- The text; the room behind it is nobody's more. -/
theorem BString_spec (h : Bu s b x l) (hn : l = [] → x = .nils) (hr : l.length ≤ room) : ∃ s', call prog (.fn 59 []) [.ptr b 0] s = some (.str l, s') ∧ s'.boxes = s.boxes ∧ s'.loops = s.loops ∧ s'.low = s.low ∧ s'.toks.length = s.toks.length ∧ ∀ i, tokOf x ≠ some i → s'.toks[i]? = s.toks[i]? := by
  rw [call_primS prog_59]
  rcases h.lv with ⟨rfl, rfl⟩ | ⟨i, rfl, hi⟩
  · refine ⟨s, ?_, rfl, rfl, rfl, rfl, fun _ _ => rfl⟩
    rcases h.bx with h1 | h1 <;> simp [primS, pBuilderString, h1, updS]
  · have hl : l ≠ [] := fun h => by have := hn h; cases this
    refine ⟨{ s with toks := s.toks.set i false }, ?_, rfl, rfl, rfl, by simp, fun j hj => ?_⟩
    · rcases h.bx with h1 | h1 <;> simp [primS, pBuilderString, h1, hl, updS, hi, show ¬ room < l.length by omega]
    · rw [List.getElem?_set_ne (fun h => hj (by rw [h]; rfl))]

/-! ### A function's state that keeps what its caller has -/
structure Kept (st s : St) : Prop where
  bx : s.boxes.take st.boxes.length = st.boxes
  lp : s.loops = st.loops
  lw : st.boxes.length ≤ s.low
  tk : s.toks.take st.toks.length = st.toks

theorem Kept.start : Kept st { boxes := st.boxes, toks := st.toks, loops := st.loops, low := st.boxes.length } := ⟨by simp, rfl, Nat.le_refl _, by simp⟩
theorem Kept.bl (h : Kept st s) : st.boxes.length ≤ s.boxes.length := by
  have := congrArg List.length h.bx
  simp at this; omega
theorem Kept.tl (h : Kept st s) : st.toks.length ≤ s.toks.length := by
  have := congrArg List.length h.tk
  simp at this; omega
theorem Kept.get (h : Kept st s) {i : Nat} (hi : i < st.toks.length) : s.toks[i]? = st.toks[i]? := by
  have := congrArg (fun z => z[i]?) h.tk
  simpa [List.getElem?_take, hi] using this
theorem Kept.of {s' : St} (h : Kept st s) (hb : s'.boxes.take st.boxes.length = s.boxes.take st.boxes.length) (hl : s'.loops = s.loops) (hw : st.boxes.length ≤ s'.low) (ht : ∀ i, i < st.toks.length → s'.toks[i]? = s.toks[i]?) (hn : st.toks.length ≤ s'.toks.length) : Kept st s' :=
  ⟨hb.trans h.bx, hl.trans h.lp, hw, by
    apply List.ext_getElem?
    intro i
    rw [List.getElem?_take]
    split
    · rename_i hi
      rw [ht i hi, h.get hi]
    · rename_i hi
      rw [List.getElem?_eq_none (by omega)]⟩
theorem Kept.tok1 (h : Kept st s) : Kept st s.tok1 := h.of rfl rfl h.lw (fun i hi => by
  show (s.toks ++ [true])[i]? = _
  rw [List.getElem?_append_left (by have := h.tl; omega)]) (by have := h.tl; simp [St.tok1]; omega)
theorem Kept.leave (h : Kept st s) {v : PV} (h1 : v.inB st.boxes.length = true) (h2 : ∀ n toks, keepRes n toks v = (v, [])) : leave st s v = (v, st) := by
  have e1 := h.bx; have e2 := h.lp; have e3 := h.tk
  simp [Ab.leave, h1, h.lw, h2, e1, e2, e3]
theorem Kept.alloc {z : List PV} (h : Kept st s) : Kept st { s with boxes := s.boxes ++ [z] } := h.of (by
  have := h.bl
  rw [List.take_append_of_le_length this]) rfl h.lw (fun _ _ => rfl) h.tl
/-- A Builder of one's own is written. -/
theorem Kept.step {x' : PV} {l' : List UInt8} (h : Kept st s) (hs : BuStep s s' b x x' l') (hb : st.boxes.length ≤ b) (hm : ∀ i, tokOf x = some i → st.toks.length ≤ i) : Kept st s' ∧ ∀ i, tokOf x' = some i → st.toks.length ≤ i := by
  have htl := h.tl
  refine ⟨h.of ?_ hs.lp (by have := hs.lw; have := h.lw; omega) (fun i hi => hs.tk i (by omega) fun hh => by have := hm i hh; omega) (by have := hs.tl; omega), fun i hi => ?_⟩
  · rw [hs.bx, List.take_set_of_le hb]
  · rcases hs.tn i hi with h1 | h1
    · exact hm i h1
    · omega

theorem Kept.string (h : Kept st s) (hs : ∃ s', P s' ∧ s'.boxes = s.boxes ∧ s'.loops = s.loops ∧ s'.low = s.low ∧ s'.toks.length = s.toks.length ∧ ∀ i, tokOf x ≠ some i → s'.toks[i]? = s.toks[i]?) (hm : ∀ i, tokOf x = some i → st.toks.length ≤ i) : ∃ s', P s' ∧ Kept st s' := by
  obtain ⟨s', h0, h1, h2, h3, h4, h5⟩ := hs
  exact ⟨s', h0, h.of (by rw [h1]) h2 (by rw [h3]; exact h.lw) (fun i hi => h5 i fun hh => by have := hm i hh; omega) (by rw [h4]; exact h.tl)⟩

/-- A slice of one's own. -/
def Mine (st s : St) (v : PV) (l : List UInt8) : Prop := Live s v l ∧ ∀ t, tokOf v = some t → st.toks.length ≤ t
theorem Mine.nil : Mine st s .nils [] := ⟨.inl ⟨rfl, rfl⟩, fun t h => (by cases h)⟩
theorem Mine.by {v : PV} (h : Mine st s v l) : v.by = some l := h.1.by
theorem Mine.tok1 {v : PV} (h : Mine st s v l) : Mine st s.tok1 v l := ⟨h.1.tok1, h.2⟩
theorem Kept.app8 {v y : PV} {m : List UInt8} (hk : Kept st s) (h : Mine st s v l) (hy : src8 s y = some m) (hl : l.length + m.length ≤ room) :
    ∃ v' s', Ab.app8 s v y = some (v', s') ∧ Kept st s' ∧ Mine st s' v' (l ++ m) := by
  obtain ⟨v', s', a1, a2, a3, a4, a5, a6, a7, a8, a9⟩ := app8_live h.1 hy hl
  have htl := hk.tl
  refine ⟨v', s', a1, hk.of (by rw [a2]) a3 (by rw [a4]; exact hk.lw) (fun i hi => a7 i (by omega) fun hh => by have := h.2 i hh; omega) (by omega), a5, fun t ht => ?_⟩
  rcases a8 t ht with ⟨h1, _⟩ | h1
  · exact h.2 t h1
  · omega
/-- One byte more. -/
theorem Kept.push {v : PV} {c : UInt8} (hk : Kept st s) (h : Mine st s v l) (hl : l.length + 1 ≤ room) :
    ∃ v' s', Ab.app8 s.tok1 v (.bys (.own s.toks.length) [c]) = some (v', s') ∧ Kept st s' ∧ Mine st s' v' (l ++ [c]) :=
  hk.tok1.app8 h.tok1 rfl (by simpa using hl)
theorem Kept.push2 {v : PV} {c d : UInt8} (hk : Kept st s) (h : Mine st s v l) (hl : l.length + 2 ≤ room) :
    ∃ v' s', Ab.app8 s.tok1 v (.bys (.own s.toks.length) [c, d]) = some (v', s') ∧ Kept st s' ∧ Mine st s' v' (l ++ [c, d]) :=
  hk.tok1.app8 h.tok1 rfl (by simpa using hl)
theorem lit8_1 {c : UInt8} : lit8Fill (List.replicate 1 0) [(0, .b8 c)] = some [c] := rfl
theorem lit8_2 {c d : UInt8} : lit8Fill (List.replicate 2 0) [(0, .b8 c), (1, .b8 d)] = some [c, d] := rfl
/-- What a call hands back that is no slice, no place. -/
def Flat (v : PV) : Prop := (∀ n, v.inB n = true) ∧ (∀ n toks, keepRes n toks v = (v, []))
theorem Kept.leave' (h : Kept st s) {v : PV} (hv : Flat v) : Ab.leave st s v = (v, st) := h.leave (hv.1 _) hv.2
end Go.Ab

/-
  Operations on texts; the library's and the document's searches in them.
-/
namespace Go.Ab
set_option linter.unusedVariables false
set_option linter.unusedSimpArgs false
variable {A : AP} {st : St} {e : Env}

theorem len_s {l : List UInt8} : lenPV true (.str l) = some (.int .i64 (l.length : Int)) := rfl
theorem idx_s {l : List UInt8} {k : IntKind} {c : Int} (h1 : 0 ≤ c) (h2 : c.toNat < l.length) : idxSPV (.str l) (.int k c) = some (.b8 (l.getD c.toNat 0)) := by
  simp [idxSPV, intOf, h1, show c < l.length by omega]
theorem slc_s_lo {l : List UInt8} {k : IntKind} {c : Int} (h1 : 0 ≤ c) (h2 : c.toNat ≤ l.length) : slcPV 0 (.str l) (some (.int k c)) none none = some (.str (l.drop c.toNat)) := by
  simp [slcPV, bnd, intOf, h1, show c ≤ l.length by omega]
theorem slc_s_hi {l : List UInt8} {k : IntKind} {c : Int} (h1 : 0 ≤ c) (h2 : c.toNat ≤ l.length) : slcPV 0 (.str l) none (some (.int k c)) none = some (.str (l.take c.toNat)) := by
  simp [slcPV, bnd, intOf, h1, show c ≤ l.length by omega]
theorem slc_s {l : List UInt8} {k k' : IntKind} {c d : Int} (h1 : 0 ≤ c) (h2 : c ≤ d) (h3 : d.toNat ≤ l.length) : slcPV 0 (.str l) (some (.int k c)) (some (.int k' d)) none = some (.str ((l.take d.toNat).drop c.toNat)) := by
  simp [slcPV, bnd, intOf, h1, show d ≤ l.length by omega, show 0 ≤ d by omega, show c ≤ max d 0 by omega]
theorem adds {ek : EK} {a b : List UInt8} (h : a.length + b.length ≤ 9223372036854775807) : binPV .add ek (.str a) (.str b) = some (.str (a ++ b)) := by
  simp [binPV, binS, h]

theorem drop_getD {l : List UInt8} {i : Nat} (h : i < l.length) : l.drop i = l.getD i 0 :: l.drop (i + 1) := by
  rw [List.drop_eq_getElem_cons h]; congr 1; simp [List.getD, h]
theorem take_getD {l : List UInt8} {i : Nat} (h : i < l.length) : l.take (i + 1) = l.take i ++ [l.getD i 0] := by
  rw [List.take_succ_eq_append_getElem h]; simp [List.getD, h]

/-- A text of one byte is a part just if the byte is in the text. -/
theorem index_one {l : List UInt8} {c : UInt8} : 0 ≤ Lib.index l [c] ↔ c ∈ l := by
  induction l with
  | nil => simp [Lib.index]
  | cons d r ih =>
    simp only [Lib.index]
    by_cases h : c = d
    · subst h; simp
    · have h' : ([c] : List UInt8).isPrefixOf (d :: r) = false := by simp [List.isPrefixOf, h]
      have hge := Lib.index_ge r [c]
      rw [h']
      simp only [Bool.false_eq_true, if_false, List.mem_cons, h, false_or]
      rw [← ih]
      split
      · rename_i h2; simp at h2; omega
      · rename_i h2; simp at h2; omega

/-- Is a text a part of another one? -/
def hasB (s t : List UInt8) : Bool := decide (0 ≤ Lib.index s t)
theorem hasB_one {s : List UInt8} {c : UInt8} : hasB s [c] = decide (c ∈ s) := by
  unfold hasB; congr 1; exact propext index_one

theorem strIndex_spec {a b : List UInt8} (h : a.length < 4294967281) : call prog (.fn 82 []) [.str a, .str b] st = some (.int .i64 (Lib.index a b), st) := by
  rw [call_prim prog_82]; simp [pStrIndex, h]
theorem strIndexByte_spec {a : List UInt8} {c : UInt8} : call prog (.fn 78 []) [.str a, .b8 c] st = some (.int .i64 (Lib.indexByte a c), st) := by
  rw [call_prim prog_78]; simp [pStrIndexByte]

theorem Index_spec {a b : List UInt8} (h : a.length < 4294967281) : call prog (.fn 76 []) [.str a, .str b] st = some (.int .i64 (Lib.index a b), st) := by
  refine call_of_W prog_76 ?_
  unfold F_strings_Index; dsimp only
  simp (maxSteps := 1000000) (disch := omega) only [strIndex_spec h, abR, WO_consG, wantedA_eq, wantB, evOp, ↓reduceIte, Nat.reduceEqDiff, List.nil_append, List.cons_append, List.append_nil, List.map_cons, List.map_nil, Option.map_some, Option.map_none, condW_bool, Bool.not_eq_true', decide_eq_true_eq, decide_eq_false_iff_not, decide_true, decide_false, Int.toNat_natCast, Int.ofNat_lt, Int.ofNat_le, Int.natCast_inj, Bool.false_eq_true, Bool.true_eq_false, extPV, List.getElem?_cons_zero, List.getElem?_cons_succ, nilckPV, Int.reduceToNat, Int.reduceLE, true_and, and_true, reduceCtorEq, or_false, false_or, or_true, Option.some.injEq, exists_eq_left', Bool.not_true, Bool.not_false, ne_eq, Int.reduceEq, not_true_eq_false, not_false_eq_true, Int.reduceLT, UInt8.reduceLT, UInt8.reduceLE, UInt8.reduceToNat]
  exact end1 rfl Kp_int
theorem Contains_spec {a b : List UInt8} (h : a.length < 4294967281) : call prog (.fn 66 []) [.str a, .str b] st = some (.bool (hasB a b), st) := by
  refine call_of_W prog_66 ?_
  unfold F_strings_Contains; dsimp only
  simp (maxSteps := 1000000) (disch := omega) only [Index_spec h, abR, WO_consG, wantedA_eq, wantB, evOp, ↓reduceIte, Nat.reduceEqDiff, List.nil_append, List.cons_append, List.append_nil, List.map_cons, List.map_nil, Option.map_some, Option.map_none, condW_bool, Bool.not_eq_true', decide_eq_true_eq, decide_eq_false_iff_not, decide_true, decide_false, Int.toNat_natCast, Int.ofNat_lt, Int.ofNat_le, Int.natCast_inj, Bool.false_eq_true, Bool.true_eq_false, extPV, List.getElem?_cons_zero, List.getElem?_cons_succ, nilckPV, Int.reduceToNat, Int.reduceLE, true_and, and_true, reduceCtorEq, or_false, false_or, or_true, Option.some.injEq, exists_eq_left', Bool.not_true, Bool.not_false, ne_eq, Int.reduceEq, not_true_eq_false, not_false_eq_true, Int.reduceLT, UInt8.reduceLT, UInt8.reduceLE, UInt8.reduceToNat]
  exact end1 rfl Kp_bool

theorem slHasPrefix_spec {a b : List UInt8} : call prog (.fn 79 []) [.str a, .str b] st = some (.bool (decide (b <+: a)), st) := by
  refine call_of_W prog_79 ?_
  unfold F_internal_stringslite_HasPrefix; dsimp only
  by_cases h : b.length ≤ a.length
  · simp (maxSteps := 1000000) (disch := omega) only [len_s, h, slc_s_hi, abR, WO_consG, wantedA_eq, wantB, evOp, ↓reduceIte, Nat.reduceEqDiff, List.nil_append, List.cons_append, List.append_nil, List.map_cons, List.map_nil, Option.map_some, Option.map_none, condW_bool, Bool.not_eq_true', decide_eq_true_eq, decide_eq_false_iff_not, decide_true, decide_false, Int.toNat_natCast, Int.ofNat_lt, Int.ofNat_le, Int.natCast_inj, Bool.false_eq_true, Bool.true_eq_false, extPV, List.getElem?_cons_zero, List.getElem?_cons_succ, nilckPV, Int.reduceToNat, Int.reduceLE, true_and, and_true, reduceCtorEq, or_false, false_or, or_true, Option.some.injEq, exists_eq_left', Bool.not_true, Bool.not_false, ne_eq, Int.reduceEq, not_true_eq_false, not_false_eq_true, Int.reduceLT, UInt8.reduceLT, UInt8.reduceLE, UInt8.reduceToNat]
    rw [show decide (b <+: a) = decide (a.take b.length = b) by congr 1; rw [List.prefix_iff_eq_take]; exact propext eq_comm]
    exact end1 rfl Kp_bool
  · simp (maxSteps := 1000000) (disch := omega) only [len_s, h, abR, WO_consG, wantedA_eq, wantB, evOp, ↓reduceIte, Nat.reduceEqDiff, List.nil_append, List.cons_append, List.append_nil, List.map_cons, List.map_nil, Option.map_some, Option.map_none, condW_bool, Bool.not_eq_true', decide_eq_true_eq, decide_eq_false_iff_not, decide_true, decide_false, Int.toNat_natCast, Int.ofNat_lt, Int.ofNat_le, Int.natCast_inj, Bool.false_eq_true, Bool.true_eq_false, extPV, List.getElem?_cons_zero, List.getElem?_cons_succ, nilckPV, Int.reduceToNat, Int.reduceLE, true_and, and_true, reduceCtorEq, or_false, false_or, or_true, Option.some.injEq, exists_eq_left', Bool.not_true, Bool.not_false, ne_eq, Int.reduceEq, not_true_eq_false, not_false_eq_true, Int.reduceLT, UInt8.reduceLT, UInt8.reduceLE, UInt8.reduceToNat]
    rw [show decide (b <+: a) = false by simp; intro hp; exact h hp.length_le]
    exact end1 rfl Kp_bool
theorem sHasPrefix_spec {a b : List UInt8} : call prog (.fn 72 []) [.str a, .str b] st = some (.bool (decide (b <+: a)), st) := by
  refine call_of_W prog_72 ?_
  unfold F_strings_HasPrefix; dsimp only
  simp (maxSteps := 1000000) (disch := omega) only [slHasPrefix_spec, abR, WO_consG, wantedA_eq, wantB, evOp, ↓reduceIte, Nat.reduceEqDiff, List.nil_append, List.cons_append, List.append_nil, List.map_cons, List.map_nil, Option.map_some, Option.map_none, condW_bool, Bool.not_eq_true', decide_eq_true_eq, decide_eq_false_iff_not, decide_true, decide_false, Int.toNat_natCast, Int.ofNat_lt, Int.ofNat_le, Int.natCast_inj, Bool.false_eq_true, Bool.true_eq_false, extPV, List.getElem?_cons_zero, List.getElem?_cons_succ, nilckPV, Int.reduceToNat, Int.reduceLE, true_and, and_true, reduceCtorEq, or_false, false_or, or_true, Option.some.injEq, exists_eq_left', Bool.not_true, Bool.not_false, ne_eq, Int.reduceEq, not_true_eq_false, not_false_eq_true, Int.reduceLT, UInt8.reduceLT, UInt8.reduceLE, UInt8.reduceToNat]
  exact end1 rfl Kp_bool

/-- The first place from i on at which b stands in a. -/
theorem index_drop_none {a b : List UInt8} (h : ∀ i, i + b.length ≤ a.length → (a.drop i).take b.length ≠ b) : Lib.index a b = -1 := by
  apply Lib.index_none
  intro j hj
  cases hc : Lib.occAt a b j with
  | false => rfl
  | true =>
    rcases Lib.occAt_room hc with h1 | h1
    · rw [Lib.occAt_iff_take a b j h1] at hc
      exact absurd (by simpa using hc) (h j h1)
    · subst h1
      exact absurd rfl (h 0 (by simp))

theorem Has_spec {a b : List UInt8} (ha : a.length < 4611686018427387904) (hb : b.length < 4611686018427387904) : call prog (.fn 56 []) [.str a, .str b] st = some (.bool (hasB a b), st) := by
  refine call_of_W prog_56 ?_
  unfold F_posthornref04_Has; dsimp only
  simp (maxSteps := 1000000) (disch := omega) only [abR, WO_consG, wantedA_eq, wantB, evOp, ↓reduceIte, Nat.reduceEqDiff, List.nil_append, List.cons_append, List.append_nil, List.map_cons, List.map_nil, Option.map_some, Option.map_none, condW_bool, Bool.not_eq_true', decide_eq_true_eq, decide_eq_false_iff_not, decide_true, decide_false, Int.toNat_natCast, Int.ofNat_lt, Int.ofNat_le, Int.natCast_inj, Bool.false_eq_true, Bool.true_eq_false, extPV, List.getElem?_cons_zero, List.getElem?_cons_succ, nilckPV, Int.reduceToNat, Int.reduceLE, true_and, and_true, reduceCtorEq, or_false, false_or, or_true, Option.some.injEq, exists_eq_left', Bool.not_true, Bool.not_false, ne_eq, Int.reduceEq, not_true_eq_false, not_false_eq_true, Int.reduceLT, UInt8.reduceLT, UInt8.reduceLE, UInt8.reduceToNat]
  obtain ⟨I, hI⟩ : ∃ I : Nat → Env → St → Prop, I = fun n e s => ∃ i : Nat, n = a.length + 1 - i ∧ i ≤ a.length + 1 ∧ (∀ j, j < i → (a.drop j).take b.length ≠ b) ∧ s = { boxes := st.boxes, toks := st.toks, loops := st.loops, low := st.boxes.length } ∧ e 0 = .str a ∧ e 1 = .str b ∧ e 5 = .int .i64 (i : Int) := ⟨_, rfl⟩
  refine W_loop I ?_ (n := a.length + 1) (by rw [hI]; exact ⟨0, rfl, by omega, fun j hj => by omega, rfl, rfl, rfl, rfl⟩)
  intro n e s h
  rw [hI] at h
  obtain ⟨i, rfl, hi, hn, rfl, h0, h1, h5⟩ := h
  have hadd : ∀ ek, binPV .add ek (.int .i64 (i : Int)) (.int .i64 (b.length : Int)) = some (.int .i64 ((i + b.length : Nat) : Int)) := fun ek => by
    rw [add_i (by omega) (by omega)]; simp
  by_cases hlt : i + b.length ≤ a.length
  · have hmid : (a.take (i + b.length)).drop i = (a.drop i).take b.length := by rw [List.drop_take]; simp
    by_cases hc : (a.drop i).take b.length = b
    · simp (maxSteps := 1000000) (disch := omega) only [h0, h1, h5, len_s, hadd, hlt, slc_s, hmid, eq_true hc, abR, WO_consG, wantedA_eq, wantB, evOp, ↓reduceIte, Nat.reduceEqDiff, List.nil_append, List.cons_append, List.append_nil, List.map_cons, List.map_nil, Option.map_some, Option.map_none, condW_bool, Bool.not_eq_true', decide_eq_true_eq, decide_eq_false_iff_not, decide_true, decide_false, Int.toNat_natCast, Int.ofNat_lt, Int.ofNat_le, Int.natCast_inj, Bool.false_eq_true, Bool.true_eq_false, extPV, List.getElem?_cons_zero, List.getElem?_cons_succ, nilckPV, Int.reduceToNat, Int.reduceLE, true_and, and_true, reduceCtorEq, or_false, false_or, or_true, Option.some.injEq, exists_eq_left', Bool.not_true, Bool.not_false, ne_eq, Int.reduceEq, not_true_eq_false, not_false_eq_true, Int.reduceLT, UInt8.reduceLT, UInt8.reduceLE, UInt8.reduceToNat]
      have hocc : Lib.occAt a b i = true := by rw [Lib.occAt_iff_take a b i hlt]; simpa using hc
      have hfirst : Lib.index a b = i := by
        refine Lib.index_first (by omega) hocc (fun j hj => ?_)
        cases ho : Lib.occAt a b j with
        | false => rfl
        | true => rw [Lib.occAt_iff_take a b j (by omega)] at ho; exact absurd (by simpa using ho) (hn j hj)
      rw [show hasB a b = true by unfold hasB; rw [hfirst]; simp]
      exact end1 rfl Kp_bool
    · simp (maxSteps := 1000000) (disch := omega) only [h0, h1, h5, len_s, hadd, hlt, slc_s, hmid, hc, add_n, abR, WO_consG, wantedA_eq, wantB, evOp, ↓reduceIte, Nat.reduceEqDiff, List.nil_append, List.cons_append, List.append_nil, List.map_cons, List.map_nil, Option.map_some, Option.map_none, condW_bool, Bool.not_eq_true', decide_eq_true_eq, decide_eq_false_iff_not, decide_true, decide_false, Int.toNat_natCast, Int.ofNat_lt, Int.ofNat_le, Int.natCast_inj, Bool.false_eq_true, Bool.true_eq_false, extPV, List.getElem?_cons_zero, List.getElem?_cons_succ, nilckPV, Int.reduceToNat, Int.reduceLE, true_and, and_true, reduceCtorEq, or_false, false_or, or_true, Option.some.injEq, exists_eq_left', Bool.not_true, Bool.not_false, ne_eq, Int.reduceEq, not_true_eq_false, not_false_eq_true, Int.reduceLT, UInt8.reduceLT, UInt8.reduceLE, UInt8.reduceToNat]
      refine loopQ_intro (m := a.length + 1 - (i + 1)) (by omega) ?_
      rw [hI]
      refine ⟨i + 1, rfl, by omega, fun j hj => ?_, rfl, h0, h1, rfl⟩
      by_cases hji : j = i
      · subst hji; exact hc
      · exact hn j (by omega)
  · simp (maxSteps := 1000000) (disch := omega) only [h0, h1, h5, len_s, hadd, hlt, abR, WO_consG, wantedA_eq, wantB, evOp, ↓reduceIte, Nat.reduceEqDiff, List.nil_append, List.cons_append, List.append_nil, List.map_cons, List.map_nil, Option.map_some, Option.map_none, condW_bool, Bool.not_eq_true', decide_eq_true_eq, decide_eq_false_iff_not, decide_true, decide_false, Int.toNat_natCast, Int.ofNat_lt, Int.ofNat_le, Int.natCast_inj, Bool.false_eq_true, Bool.true_eq_false, extPV, List.getElem?_cons_zero, List.getElem?_cons_succ, nilckPV, Int.reduceToNat, Int.reduceLE, true_and, and_true, reduceCtorEq, or_false, false_or, or_true, Option.some.injEq, exists_eq_left', Bool.not_true, Bool.not_false, ne_eq, Int.reduceEq, not_true_eq_false, not_false_eq_true, Int.reduceLT, UInt8.reduceLT, UInt8.reduceLE, UInt8.reduceToNat]
    rw [show hasB a b = false by
      unfold hasB; rw [index_drop_none (fun j hj => hn j (by omega))]; rfl]
    exact end1 rfl Kp_bool
end Go.Ab

/-
  Names in small letters; fields of a name; how big a header is.
-/
namespace Go.Ab
set_option linter.unusedVariables false
set_option linter.unusedSimpArgs false
variable {st : St} {e : Env}

/-! ### Bytes in a box of one's own -/
def bst (st : St) (l : List UInt8) : St := ⟨st.boxes ++ [l.map .b8], st.toks, st.loops, st.boxes.length⟩
theorem bst_eq {l : List UInt8} : (⟨st.boxes ++ [l.map .b8], st.toks, st.loops, st.boxes.length⟩ : St) = bst st l := rfl
theorem iaddr_ms {b n : Nat} {k : IntKind} {c : Int} (h1 : 0 ≤ c) (h2 : c.toNat < n) : iaddrPV 1 (.ms b 0 n) (.int k c) = some (.ptr b c.toNat) := by
  simp [iaddrPV, intOf, h1, show c < n by omega]
theorem len_ms {b n : Nat} : lenPV false (.ms b 0 n) = some (.int .i64 (n : Int)) := rfl
theorem load_bst {l : List UInt8} {i : Nat} (h : i < l.length) : loadPV (bst st l) false 1 (.ptr st.boxes.length i) = some (.b8 (l.getD i 0)) := by
  simp only [loadPV, bst, get_app0]
  rw [← List.map_drop, drop_getD h]; rfl
theorem store_bst {l : List UInt8} {i : Nat} {c : UInt8} (h : i < l.length) : storePV (bst st l) 1 (.ptr st.boxes.length i) (.b8 c) = some (bst st (l.set i c)) := by
  simp only [storePV, bst, get_app0, PV.cells]
  have h2 : i + 1 ≤ l.length := by omega
  simp [h2, PV.inB, leafOk, setCells, hasTok, tokOf, List.map_set]
theorem bytesOf_map : ∀ l : List UInt8, bytesOf (l.map .b8) = some l := by
  intro l
  induction l with
  | nil => rfl
  | cons c r ih => simp [bytesOf, ih]
theorem b2s_bst {l : List UInt8} {n : Nat} (h : n = l.length) : b2s true (bst st l) (.ms st.boxes.length 0 n) = some l := by
  subst h
  simp only [b2s, if_true, src8, bst, get_app0]
  rw [if_pos (by simp), List.drop_zero, List.take_of_length_le (by simp), bytesOf_map]
theorem leave_bst {l : List UInt8} {v : PV} (h1 : v.inB st.boxes.length = true) (h2 : ∀ n toks, keepRes n toks v = (v, [])) : leave st (bst st l) v = (v, st) := by
  simp [leave, bst, h1, h2]

theorem add_8 {ek : EK} {a b : UInt8} : binPV .add ek (.b8 a) (.b8 b) = some (.b8 (a + b)) := rfl
theorem or_8 {ek : EK} {a b : UInt8} : binPV .or ek (.b8 a) (.b8 b) = some (.b8 (a ||| b)) := rfl

def lowC (c : UInt8) : UInt8 := if 65 ≤ c ∧ c ≤ 90 then c + 32 else c
def lowOf (s : List UInt8) : List UInt8 := s.map lowC

theorem lower_spec {s : List UInt8} (h : s.length ≤ 1000000) : call prog (.fn 167 []) [.str s] st = some (.str (lowOf s), st) := by
  refine call_of_W prog_167 ?_
  unfold F_fields_lower; dsimp only
  simp (maxSteps := 1000000) (disch := omega) only [bst_eq, len_ms, abR, WO_consG, wantedA_eq, wantB, evOp, ↓reduceIte, Nat.reduceEqDiff, List.nil_append, List.cons_append, List.append_nil, List.map_cons, List.map_nil, Option.map_some, Option.map_none, condW_bool, Bool.not_eq_true', decide_eq_true_eq, decide_eq_false_iff_not, decide_true, decide_false, Int.toNat_natCast, Int.ofNat_lt, Int.ofNat_le, Int.natCast_inj, Bool.false_eq_true, Bool.true_eq_false, extPV, List.getElem?_cons_zero, List.getElem?_cons_succ, nilckPV, Int.reduceToNat, Int.reduceLE, true_and, and_true, reduceCtorEq, or_false, false_or, or_true, Option.some.injEq, exists_eq_left', Bool.not_true, Bool.not_false, ne_eq, Int.reduceEq, not_true_eq_false, not_false_eq_true, Int.reduceLT, UInt8.reduceLT, UInt8.reduceLE, UInt8.reduceToNat]
  obtain ⟨I, hI⟩ : ∃ I : Nat → Env → St → Prop, I = fun n e s' => ∃ (i : Nat) (l : List UInt8), n = s.length - i ∧ i ≤ s.length ∧ l = lowOf (s.take i) ++ s.drop i ∧ s' = bst st l ∧ e 3 = .ms st.boxes.length 0 s.length ∧ e 8 = .ms st.boxes.length 0 s.length ∧ e 9 = .int .i64 (s.length : Int) ∧ e 10 = .int .i64 (i : Int) := ⟨_, rfl⟩
  refine W_loop I ?_ (n := s.length) (by
    rw [hI]
    exact ⟨0, s, rfl, by omega, by simp [lowOf], rfl, rfl, rfl, rfl, rfl⟩)
  intro n e s' hh
  rw [hI] at hh
  obtain ⟨i, l, rfl, hi, hl, rfl, h3, h8, h9, h10⟩ := hh
  have hll : l.length = s.length := by rw [hl]; simp [lowOf]; omega
  by_cases hlt : i < s.length
  · obtain ⟨c, hc⟩ : ∃ c, c = s.getD i 0 := ⟨_, rfl⟩
    have hlc : l.getD i 0 = c := by
      rw [hl, hc]
      simp only [List.getD]
      rw [List.getElem?_append_right (by simp [lowOf]; omega)]
      simp [lowOf, Nat.min_eq_left hi]
    have hnext : ∀ (E : Env) (l' : List UInt8), l' = l.set i (lowC c) → E 3 = .ms st.boxes.length 0 s.length → E 8 = .ms st.boxes.length 0 s.length → E 9 = .int .i64 (s.length : Int) → E 10 = .int .i64 ((i + 1 : Nat) : Int) → I (s.length - (i + 1)) E (bst st l') := by
      intro E l' k0 k1 k2 k3 k4
      rw [hI]
      refine ⟨i + 1, l', rfl, by omega, ?_, rfl, k1, k2, k3, k4⟩
      rw [k0, hl, take_getD hlt, ← hc, drop_getD hlt]
      have hn : (lowOf (s.take i)).length = i := by simp [lowOf]; omega
      rw [List.set_append_right _ _ (by omega), hn]
      simp [lowOf]
    by_cases h65 : 65 ≤ c
    · by_cases h90 : c ≤ 90
      · simp (maxSteps := 1000000) (disch := omega) only [h3, h8, h9, h10, hlt, iaddr_ms, load_bst (st := st) (l := l) (i := i) (by omega), hlc, h65, h90, add_8, store_bst (st := st) (l := l) (i := i) (by omega), add_n, abR, WO_consG, wantedA_eq, wantB, evOp, ↓reduceIte, Nat.reduceEqDiff, List.nil_append, List.cons_append, List.append_nil, List.map_cons, List.map_nil, Option.map_some, Option.map_none, condW_bool, Bool.not_eq_true', decide_eq_true_eq, decide_eq_false_iff_not, decide_true, decide_false, Int.toNat_natCast, Int.ofNat_lt, Int.ofNat_le, Int.natCast_inj, Bool.false_eq_true, Bool.true_eq_false, extPV, List.getElem?_cons_zero, List.getElem?_cons_succ, nilckPV, Int.reduceToNat, Int.reduceLE, true_and, and_true, reduceCtorEq, or_false, false_or, or_true, Option.some.injEq, exists_eq_left', Bool.not_true, Bool.not_false, ne_eq, Int.reduceEq, not_true_eq_false, not_false_eq_true, Int.reduceLT, UInt8.reduceLT, UInt8.reduceLE, UInt8.reduceToNat]
        exact loopQ_intro (m := s.length - (i + 1)) (by omega) (hnext _ (l.set i (c + 32)) (by simp [lowC, h65, h90]) h3 h8 h9 rfl)
      · simp (maxSteps := 1000000) (disch := omega) only [h3, h8, h9, h10, hlt, iaddr_ms, load_bst (st := st) (l := l) (i := i) (by omega), hlc, h65, h90, add_n, abR, WO_consG, wantedA_eq, wantB, evOp, ↓reduceIte, Nat.reduceEqDiff, List.nil_append, List.cons_append, List.append_nil, List.map_cons, List.map_nil, Option.map_some, Option.map_none, condW_bool, Bool.not_eq_true', decide_eq_true_eq, decide_eq_false_iff_not, decide_true, decide_false, Int.toNat_natCast, Int.ofNat_lt, Int.ofNat_le, Int.natCast_inj, Bool.false_eq_true, Bool.true_eq_false, extPV, List.getElem?_cons_zero, List.getElem?_cons_succ, nilckPV, Int.reduceToNat, Int.reduceLE, true_and, and_true, reduceCtorEq, or_false, false_or, or_true, Option.some.injEq, exists_eq_left', Bool.not_true, Bool.not_false, ne_eq, Int.reduceEq, not_true_eq_false, not_false_eq_true, Int.reduceLT, UInt8.reduceLT, UInt8.reduceLE, UInt8.reduceToNat]
        exact loopQ_intro (m := s.length - (i + 1)) (by omega) (hnext _ l (by simp only [lowC, h90, and_false, if_false]; rw [← hlc, List.getD, List.getElem?_eq_getElem (by omega)]; simp) h3 h8 h9 rfl)
    · simp (maxSteps := 1000000) (disch := omega) only [h3, h8, h9, h10, hlt, iaddr_ms, load_bst (st := st) (l := l) (i := i) (by omega), hlc, h65, add_n, abR, WO_consG, wantedA_eq, wantB, evOp, ↓reduceIte, Nat.reduceEqDiff, List.nil_append, List.cons_append, List.append_nil, List.map_cons, List.map_nil, Option.map_some, Option.map_none, condW_bool, Bool.not_eq_true', decide_eq_true_eq, decide_eq_false_iff_not, decide_true, decide_false, Int.toNat_natCast, Int.ofNat_lt, Int.ofNat_le, Int.natCast_inj, Bool.false_eq_true, Bool.true_eq_false, extPV, List.getElem?_cons_zero, List.getElem?_cons_succ, nilckPV, Int.reduceToNat, Int.reduceLE, true_and, and_true, reduceCtorEq, or_false, false_or, or_true, Option.some.injEq, exists_eq_left', Bool.not_true, Bool.not_false, ne_eq, Int.reduceEq, not_true_eq_false, not_false_eq_true, Int.reduceLT, UInt8.reduceLT, UInt8.reduceLE, UInt8.reduceToNat]
      exact loopQ_intro (m := s.length - (i + 1)) (by omega) (hnext _ l (by simp only [lowC, h65, false_and, if_false]; rw [← hlc, List.getD, List.getElem?_eq_getElem (by omega)]; simp) h3 h8 h9 rfl)
  · obtain rfl : i = s.length := by omega
    simp (maxSteps := 1000000) (disch := omega) only [h3, h8, h9, h10, hlt, b2s_bst (st := st) (l := l) hll.symm, abR, WO_consG, wantedA_eq, wantB, evOp, ↓reduceIte, Nat.reduceEqDiff, List.nil_append, List.cons_append, List.append_nil, List.map_cons, List.map_nil, Option.map_some, Option.map_none, condW_bool, Bool.not_eq_true', decide_eq_true_eq, decide_eq_false_iff_not, decide_true, decide_false, Int.toNat_natCast, Int.ofNat_lt, Int.ofNat_le, Int.natCast_inj, Bool.false_eq_true, Bool.true_eq_false, extPV, List.getElem?_cons_zero, List.getElem?_cons_succ, nilckPV, Int.reduceToNat, Int.reduceLE, true_and, and_true, reduceCtorEq, or_false, false_or, or_true, Option.some.injEq, exists_eq_left', Bool.not_true, Bool.not_false, ne_eq, Int.reduceEq, not_true_eq_false, not_false_eq_true, Int.reduceLT, UInt8.reduceLT, UInt8.reduceLE, UInt8.reduceToNat]
    exact ⟨.str (lowOf s), by rw [hl]; simp [resOf, rvAll, rv1, upd_eq, notTup, packRes], leave_bst rfl (fun _ _ => rfl)⟩

theorem Same_spec {a b : List UInt8} (ha : a.length ≤ 1000000) (hb : b.length ≤ 1000000) : call prog (.fn 155 []) [.str a, .str b] st = some (.bool (decide (lowOf a = lowOf b)), st) := by
  refine call_of_W prog_155 ?_
  unfold F_fields_Same; dsimp only
  simp (maxSteps := 1000000) (disch := omega) only [lower_spec ha, lower_spec hb, abR, WO_consG, wantedA_eq, wantB, evOp, ↓reduceIte, Nat.reduceEqDiff, List.nil_append, List.cons_append, List.append_nil, List.map_cons, List.map_nil, Option.map_some, Option.map_none, condW_bool, Bool.not_eq_true', decide_eq_true_eq, decide_eq_false_iff_not, decide_true, decide_false, Int.toNat_natCast, Int.ofNat_lt, Int.ofNat_le, Int.natCast_inj, Bool.false_eq_true, Bool.true_eq_false, extPV, List.getElem?_cons_zero, List.getElem?_cons_succ, nilckPV, Int.reduceToNat, Int.reduceLE, true_and, and_true, reduceCtorEq, or_false, false_or, or_true, Option.some.injEq, exists_eq_left', Bool.not_true, Bool.not_false, ne_eq, Int.reduceEq, not_true_eq_false, not_false_eq_true, Int.reduceLT, UInt8.reduceLT, UInt8.reduceLE, UInt8.reduceToNat]
  exact end1 rfl Kp_bool
end Go.Ab

/-
  Fields of a name; how big a header is.
-/
namespace Go.Ab
set_option linter.unusedVariables false
set_option linter.unusedSimpArgs false
variable {st s : St} {e : Env}

abbrev Fld := List UInt8 × List UInt8
def fV (f : Fld) : PV := .agg [.str f.1, .str f.2]
def getOf (fs : List Fld) (n : List UInt8) : List UInt8 × Nat :=
  let m := fs.filter (fun f => decide (lowOf f.1 = lowOf n))
  ((m.head?.map (·.2)).getD [], m.length)
def getV (r : List UInt8 × Nat) : PV := .tup [.str r.1, .int .i64 (r.2 : Int)]

theorem getOf_snoc {fs : List Fld} {f : Fld} {n : List UInt8} : getOf (fs ++ [f]) n = if lowOf f.1 = lowOf n then ((if (getOf fs n).2 = 0 then f.2 else (getOf fs n).1), (getOf fs n).2 + 1) else getOf fs n := by
  unfold getOf
  simp only [List.filter_append, List.filter_cons, List.filter_nil]
  by_cases h : lowOf f.1 = lowOf n
  · simp only [h, decide_true, if_true]
    cases hm : fs.filter (fun f => decide (lowOf f.1 = lowOf n)) with
    | nil => simp
    | cons a r => simp
  · simp [h]
theorem getOf_le {fs : List Fld} {n : List UInt8} : (getOf fs n).2 ≤ fs.length := by
  unfold getOf; exact List.length_filter_le ..

theorem take_getD' {α : Type} {l : List α} {i : Nat} {d : α} (h : i < l.length) : l.take (i + 1) = l.take i ++ [l.getD i d] := by
  rw [List.take_succ_eq_append_getElem h]; simp [List.getD, h]

theorem nz0 : (((0 : Nat) : Int) = 0) = True := by simp

/-! ### A field in a box -/
theorem iaddr_f {x : PV} {fs : List Fld} {k : IntKind} {c : Int} (h : x.vs 2 = some (fs.map fV)) (h1 : 0 ≤ c) (h2 : c.toNat < fs.length) : iaddrPV 2 x (.int k c) = some (.cp [.str (fs.getD c.toNat ([], [])).1, .str (fs.getD c.toNat ([], [])).2]) := by
  rw [iaddr_vs h h1 (by simpa using h2)]
  simp [List.getD, h2, fV, PV.cells]
theorem load_f2 {a b : PV} : loadPV st true 2 (.cp [a, b]) = some (.agg [a, b]) := rfl
theorem fa_cp {n : Nat} {cs : List PV} : faddrPV n (.cp cs) = some (.cp (cs.drop n)) := rfl
theorem load_cp0 {a : PV} {r : List PV} : loadPV st false 1 (.cp ((a :: r).drop 0)) = some a := rfl
theorem load_cp1' {a b : PV} {r : List PV} : loadPV st false 1 (.cp ((a :: b :: r).drop 1)) = some b := rfl
theorem store_f {B : List (List PV)} {T : List Bool} {L : List LoopS} {lo : Nat} {a b : List UInt8} : storePV ⟨B ++ [[.str [], .str []]], T, L, lo⟩ 2 (.ptr B.length 0) (.agg [.str a, .str b]) = some ⟨B ++ [[.str a, .str b]], T, L, lo⟩ := by
  simp [storePV, PV.cells, PV.inB, PV.inB.inBAll, leafOk, setCells, hasTok, tokOf]
theorem load_b0 {B : List (List PV)} {T : List Bool} {L : List LoopS} {lo : Nat} {a b : List UInt8} : loadPV ⟨B ++ [[.str a, .str b]], T, L, lo⟩ false 1 (.ptr B.length 0) = some (.str a) := by
  simp [loadPV, readCells]
theorem load_b1 {B : List (List PV)} {T : List Bool} {L : List LoopS} {lo : Nat} {a b : List UInt8} : loadPV ⟨B ++ [[.str a, .str b]], T, L, lo⟩ false 1 (.ptr B.length 1) = some (.str b) := by
  simp [loadPV, readCells]

def okF (f : Fld) : Prop := f.1.length ≤ 200 ∧ f.2.length ≤ 5000
theorem Kept.alloc' {z : List PV} (h : Kept st s) : Kept st ⟨s.boxes ++ [z], s.toks, s.loops, s.low⟩ := h.alloc

theorem Get_spec {x : PV} {fs : List Fld} {n : List UInt8} (hx : x.vs 2 = some (fs.map fV)) (hn : n.length ≤ 1000000) (hf : ∀ f ∈ fs, okF f) (hl : fs.length ≤ 1000000) : call prog (.fn 147 []) [x, .str n] st = some (getV (getOf fs n), st) := by
  refine call_of_W prog_147 ?_
  unfold F_fields_Get; dsimp only
  have hlen := len_vs hx
  rw [List.length_map] at hlen
  simp (maxSteps := 1000000) (disch := omega) only [hlen, abR, WO_consG, wantedA_eq, wantB, evOp, ↓reduceIte, Nat.reduceEqDiff, List.nil_append, List.cons_append, List.append_nil, List.map_cons, List.map_nil, Option.map_some, Option.map_none, condW_bool, Bool.not_eq_true', decide_eq_true_eq, decide_eq_false_iff_not, decide_true, decide_false, Int.toNat_natCast, Int.ofNat_lt, Int.ofNat_le, Int.natCast_inj, Bool.false_eq_true, Bool.true_eq_false, extPV, List.getElem?_cons_zero, List.getElem?_cons_succ, nilckPV, Int.reduceToNat, Int.reduceLE, true_and, and_true, reduceCtorEq, or_false, false_or, or_true, Option.some.injEq, exists_eq_left', Bool.not_true, Bool.not_false, ne_eq, Int.reduceEq, not_true_eq_false, not_false_eq_true, Int.reduceLT, UInt8.reduceLT, UInt8.reduceLE, UInt8.reduceToNat]
  obtain ⟨I, hI⟩ : ∃ I : Nat → Env → St → Prop, I = fun k e s' => ∃ (i : Nat), k = fs.length - i ∧ i ≤ fs.length ∧ Kept st s' ∧ e 1 = .str n ∧ e 6 = .str (getOf (fs.take i) n).1 ∧ e 7 = .int .i64 ((getOf (fs.take i) n).2 : Int) ∧ e 10 = x ∧ e 11 = .int .i64 (fs.length : Int) ∧ e 12 = .int .i64 (i : Int) := ⟨_, rfl⟩
  refine W_loop I ?_ (n := fs.length) (by
    rw [hI]
    exact ⟨0, rfl, by omega, Kept.start, rfl, rfl, rfl, rfl, rfl, rfl⟩)
  intro k e s' hh
  rw [hI] at hh
  obtain ⟨i, rfl, hi, hk, h1, h6, h7, h10, h11, h12⟩ := hh
  by_cases hlt : i < fs.length
  · obtain ⟨f, hfe⟩ : ∃ f, f = fs.getD i ([], []) := ⟨_, rfl⟩
    have hfm : f ∈ fs := by rw [hfe]; simp [List.getD, hlt]
    have hfo := hf f hfm
    have hg := getOf_snoc (fs := fs.take i) (f := f) (n := n)
    rw [hfe, ← take_getD' hlt, ← hfe] at hg
    have hle := getOf_le (fs := fs.take i) (n := n)
    have hle2 : (getOf (fs.take i) n).2 ≤ 1000000 := by simp at hle; omega
    have hnext : ∀ (E : Env) (S : St), Kept st S → E 1 = .str n → E 6 = .str (getOf (fs.take (i + 1)) n).1 → E 7 = .int .i64 ((getOf (fs.take (i + 1)) n).2 : Int) → E 10 = x → E 11 = .int .i64 (fs.length : Int) → E 12 = .int .i64 ((i + 1 : Nat) : Int) → I (fs.length - (i + 1)) E S := by
      intro E S k0 k1 k2 k3 k4 k5 k6
      rw [hI]; exact ⟨i + 1, rfl, by omega, k0, k1, k2, k3, k4, k5, k6⟩
    have hS : ∀ S : St, call prog (.fn 155 []) [.str f.1, .str n] S = some (.bool (decide (lowOf f.1 = lowOf n)), S) := fun S => Same_spec (by have := hfo.1; omega) hn
    by_cases hs : lowOf f.1 = lowOf n
    · rw [if_pos hs] at hg
      by_cases hz : (getOf (fs.take i) n).2 = 0
      · rw [if_pos hz] at hg
        simp (maxSteps := 1000000) (disch := omega) only [h1, h6, h7, h10, h11, h12, hlt, iaddr_f hx, ← hfe, load_f2, allocPV, store_f, faddrPV, Nat.add_zero, Nat.zero_add, load_b0, load_b1, hS, hs, hz, add_n, abR, WO_consG, wantedA_eq, wantB, evOp, ↓reduceIte, Nat.reduceEqDiff, List.nil_append, List.cons_append, List.append_nil, List.map_cons, List.map_nil, Option.map_some, Option.map_none, condW_bool, Bool.not_eq_true', decide_eq_true_eq, decide_eq_false_iff_not, decide_true, decide_false, Int.toNat_natCast, Int.ofNat_lt, Int.ofNat_le, Int.natCast_inj, Bool.false_eq_true, Bool.true_eq_false, extPV, List.getElem?_cons_zero, List.getElem?_cons_succ, nilckPV, Int.reduceToNat, Int.reduceLE, true_and, and_true, reduceCtorEq, or_false, false_or, or_true, Option.some.injEq, exists_eq_left', Bool.not_true, Bool.not_false, ne_eq, Int.reduceEq, not_true_eq_false, not_false_eq_true, Int.reduceLT, UInt8.reduceLT, UInt8.reduceLE, UInt8.reduceToNat]
        rw [if_pos (by rfl)]
        exact loopQ_intro (m := fs.length - (i + 1)) (by omega) (hnext _ _ hk.alloc' h1 (by rw [hg]; rfl) (by rw [hg, hz]; rfl) h10 h11 rfl)
      · rw [if_neg hz] at hg
        have hz' : ¬ ((getOf (fs.take i) n).2 : Int) = 0 := by omega
        simp (maxSteps := 1000000) (disch := omega) only [h1, h6, h7, h10, h11, h12, hlt, iaddr_f hx, ← hfe, load_f2, allocPV, store_f, faddrPV, Nat.add_zero, Nat.zero_add, load_b0, load_b1, hS, hs, hz', add_n, abR, WO_consG, wantedA_eq, wantB, evOp, ↓reduceIte, Nat.reduceEqDiff, List.nil_append, List.cons_append, List.append_nil, List.map_cons, List.map_nil, Option.map_some, Option.map_none, condW_bool, Bool.not_eq_true', decide_eq_true_eq, decide_eq_false_iff_not, decide_true, decide_false, Int.toNat_natCast, Int.ofNat_lt, Int.ofNat_le, Int.natCast_inj, Bool.false_eq_true, Bool.true_eq_false, extPV, List.getElem?_cons_zero, List.getElem?_cons_succ, nilckPV, Int.reduceToNat, Int.reduceLE, true_and, and_true, reduceCtorEq, or_false, false_or, or_true, Option.some.injEq, exists_eq_left', Bool.not_true, Bool.not_false, ne_eq, Int.reduceEq, not_true_eq_false, not_false_eq_true, Int.reduceLT, UInt8.reduceLT, UInt8.reduceLE, UInt8.reduceToNat]
        exact loopQ_intro (m := fs.length - (i + 1)) (by omega) (hnext _ _ hk.alloc' h1 (by rw [hg]; exact h6) (by rw [hg]; rfl) h10 h11 rfl)
    · rw [if_neg hs] at hg
      simp (maxSteps := 1000000) (disch := omega) only [h1, h6, h7, h10, h11, h12, hlt, iaddr_f hx, ← hfe, load_f2, allocPV, store_f, faddrPV, Nat.add_zero, Nat.zero_add, load_b0, load_b1, hS, hs, add_n, abR, WO_consG, wantedA_eq, wantB, evOp, ↓reduceIte, Nat.reduceEqDiff, List.nil_append, List.cons_append, List.append_nil, List.map_cons, List.map_nil, Option.map_some, Option.map_none, condW_bool, Bool.not_eq_true', decide_eq_true_eq, decide_eq_false_iff_not, decide_true, decide_false, Int.toNat_natCast, Int.ofNat_lt, Int.ofNat_le, Int.natCast_inj, Bool.false_eq_true, Bool.true_eq_false, extPV, List.getElem?_cons_zero, List.getElem?_cons_succ, nilckPV, Int.reduceToNat, Int.reduceLE, true_and, and_true, reduceCtorEq, or_false, false_or, or_true, Option.some.injEq, exists_eq_left', Bool.not_true, Bool.not_false, ne_eq, Int.reduceEq, not_true_eq_false, not_false_eq_true, Int.reduceLT, UInt8.reduceLT, UInt8.reduceLE, UInt8.reduceToNat]
      exact loopQ_intro (m := fs.length - (i + 1)) (by omega) (hnext _ _ hk.alloc' h1 (by rw [hg]; exact h6) (by rw [hg]; exact h7) h10 h11 rfl)
  · obtain rfl : i = fs.length := by omega
    rw [List.take_length] at h6 h7
    simp (maxSteps := 1000000) (disch := omega) only [h1, h6, h7, h10, h11, h12, hlt, abR, WO_consG, wantedA_eq, wantB, evOp, ↓reduceIte, Nat.reduceEqDiff, List.nil_append, List.cons_append, List.append_nil, List.map_cons, List.map_nil, Option.map_some, Option.map_none, condW_bool, Bool.not_eq_true', decide_eq_true_eq, decide_eq_false_iff_not, decide_true, decide_false, Int.toNat_natCast, Int.ofNat_lt, Int.ofNat_le, Int.natCast_inj, Bool.false_eq_true, Bool.true_eq_false, extPV, List.getElem?_cons_zero, List.getElem?_cons_succ, nilckPV, Int.reduceToNat, Int.reduceLE, true_and, and_true, reduceCtorEq, or_false, false_or, or_true, Option.some.injEq, exists_eq_left', Bool.not_true, Bool.not_false, ne_eq, Int.reduceEq, not_true_eq_false, not_false_eq_true, Int.reduceLT, UInt8.reduceLT, UInt8.reduceLE, UInt8.reduceToNat]
    exact ⟨getV (getOf fs n), rfl, hk.leave rfl (fun _ _ => rfl)⟩

theorem Great_spec {x : PV} {fs : List Fld} (hx : x.vs 2 = some (fs.map fV)) (hm : ∀ f ∈ fs, f.1.length ≤ 9223372036854775807 ∧ f.2.length ≤ 9223372036854775807) (hl : fs.length ≤ 9223372036854775807) : ∃ g, call prog (.fn 143 []) [x] st = some (.bool g, st) ∧ (g = false → fs.length ≤ 200 ∧ ∀ f ∈ fs, okF f) := by
  have hlen := len_vs hx
  rw [List.length_map] at hlen
  by_cases h2 : 200 < fs.length
  · refine ⟨true, call_of_W prog_143 ?_, fun h => (by cases h)⟩
    unfold F_posthornlaw06_Great; dsimp only
    have h2' : (200 : Int) < (fs.length : Int) := by omega
    simp (maxSteps := 1000000) (disch := omega) only [hlen, h2', abR, WO_consG, wantedA_eq, wantB, evOp, ↓reduceIte, Nat.reduceEqDiff, List.nil_append, List.cons_append, List.append_nil, List.map_cons, List.map_nil, Option.map_some, Option.map_none, condW_bool, Bool.not_eq_true', decide_eq_true_eq, decide_eq_false_iff_not, decide_true, decide_false, Int.toNat_natCast, Int.ofNat_lt, Int.ofNat_le, Int.natCast_inj, Bool.false_eq_true, Bool.true_eq_false, extPV, List.getElem?_cons_zero, List.getElem?_cons_succ, nilckPV, Int.reduceToNat, Int.reduceLE, true_and, and_true, reduceCtorEq, or_false, false_or, or_true, Option.some.injEq, exists_eq_left', Bool.not_true, Bool.not_false, ne_eq, Int.reduceEq, not_true_eq_false, not_false_eq_true, Int.reduceLT, UInt8.reduceLT, UInt8.reduceLE, UInt8.reduceToNat]
    exact end1 rfl Kp_bool
  by_cases hall : ∀ i, i < fs.length → okF (fs.getD i ([], [])) ∧ (20 < i → (fs.getD i ([], [])).2.length ≤ 100)
  · refine ⟨false, call_of_W prog_143 ?_, fun _ => ⟨by omega, fun f hf => ?_⟩⟩
    · unfold F_posthornlaw06_Great; dsimp only
      have h2' : ¬ (200 : Int) < (fs.length : Int) := by omega
      simp (maxSteps := 1000000) (disch := omega) only [hlen, h2', abR, WO_consG, wantedA_eq, wantB, evOp, ↓reduceIte, Nat.reduceEqDiff, List.nil_append, List.cons_append, List.append_nil, List.map_cons, List.map_nil, Option.map_some, Option.map_none, condW_bool, Bool.not_eq_true', decide_eq_true_eq, decide_eq_false_iff_not, decide_true, decide_false, Int.toNat_natCast, Int.ofNat_lt, Int.ofNat_le, Int.natCast_inj, Bool.false_eq_true, Bool.true_eq_false, extPV, List.getElem?_cons_zero, List.getElem?_cons_succ, nilckPV, Int.reduceToNat, Int.reduceLE, true_and, and_true, reduceCtorEq, or_false, false_or, or_true, Option.some.injEq, exists_eq_left', Bool.not_true, Bool.not_false, ne_eq, Int.reduceEq, not_true_eq_false, not_false_eq_true, Int.reduceLT, UInt8.reduceLT, UInt8.reduceLE, UInt8.reduceToNat]
      obtain ⟨I, hI⟩ : ∃ I : Nat → Env → St → Prop, I = fun k e s' => ∃ (i : Nat), k = fs.length - i ∧ i ≤ fs.length ∧ Kept st s' ∧ e 0 = x ∧ e 3 = .int .i64 (i : Int) := ⟨_, rfl⟩
      refine W_loop I ?_ (n := fs.length) (by
        rw [hI]
        exact ⟨0, rfl, by omega, Kept.start, rfl, rfl⟩)
      intro k e s' hh
      rw [hI] at hh
      obtain ⟨i, rfl, hi, hk, h0, h3⟩ := hh
      by_cases hlt : i < fs.length
      · obtain ⟨⟨q1, q2⟩, q3⟩ := hall i hlt
        obtain ⟨f, hfe⟩ : ∃ f, f = fs.getD i ([], []) := ⟨_, rfl⟩
        rw [← hfe] at q1 q2 q3
        have e1 : ¬ (200 : Int) < (f.1.length : Int) := by omega
        have e2 : ¬ (5000 : Int) < (f.2.length : Int) := by omega
        have hnext : ∀ (E : Env), E 0 = x → E 3 = .int .i64 ((i + 1 : Nat) : Int) → I (fs.length - (i + 1)) E s' := by
          intro E k1 k2
          rw [hI]; exact ⟨i + 1, rfl, by omega, hk, k1, k2⟩
        by_cases h20 : 20 < i
        · have e3 : (20 : Int) < (i : Int) := by omega
          have e4 : ¬ (100 : Int) < (f.2.length : Int) := by have := q3 h20; omega
          simp (maxSteps := 1000000) (disch := omega) only [h0, h3, hlen, hlt, iaddr_f hx, ← hfe, fa_cp, load_cp0, load_cp1', len_s, e1, e2, e3, e4, add_n, abR, WO_consG, wantedA_eq, wantB, evOp, ↓reduceIte, Nat.reduceEqDiff, List.nil_append, List.cons_append, List.append_nil, List.map_cons, List.map_nil, Option.map_some, Option.map_none, condW_bool, Bool.not_eq_true', decide_eq_true_eq, decide_eq_false_iff_not, decide_true, decide_false, Int.toNat_natCast, Int.ofNat_lt, Int.ofNat_le, Int.natCast_inj, Bool.false_eq_true, Bool.true_eq_false, extPV, List.getElem?_cons_zero, List.getElem?_cons_succ, nilckPV, Int.reduceToNat, Int.reduceLE, true_and, and_true, reduceCtorEq, or_false, false_or, or_true, Option.some.injEq, exists_eq_left', Bool.not_true, Bool.not_false, ne_eq, Int.reduceEq, not_true_eq_false, not_false_eq_true, Int.reduceLT, UInt8.reduceLT, UInt8.reduceLE, UInt8.reduceToNat]
          exact loopQ_intro (m := fs.length - (i + 1)) (by omega) (hnext _ h0 rfl)
        · have e3 : ¬ (20 : Int) < (i : Int) := by omega
          simp (maxSteps := 1000000) (disch := omega) only [h0, h3, hlen, hlt, iaddr_f hx, ← hfe, fa_cp, load_cp0, load_cp1', len_s, e1, e2, e3, add_n, abR, WO_consG, wantedA_eq, wantB, evOp, ↓reduceIte, Nat.reduceEqDiff, List.nil_append, List.cons_append, List.append_nil, List.map_cons, List.map_nil, Option.map_some, Option.map_none, condW_bool, Bool.not_eq_true', decide_eq_true_eq, decide_eq_false_iff_not, decide_true, decide_false, Int.toNat_natCast, Int.ofNat_lt, Int.ofNat_le, Int.natCast_inj, Bool.false_eq_true, Bool.true_eq_false, extPV, List.getElem?_cons_zero, List.getElem?_cons_succ, nilckPV, Int.reduceToNat, Int.reduceLE, true_and, and_true, reduceCtorEq, or_false, false_or, or_true, Option.some.injEq, exists_eq_left', Bool.not_true, Bool.not_false, ne_eq, Int.reduceEq, not_true_eq_false, not_false_eq_true, Int.reduceLT, UInt8.reduceLT, UInt8.reduceLE, UInt8.reduceToNat]
          exact loopQ_intro (m := fs.length - (i + 1)) (by omega) (hnext _ h0 rfl)
      · obtain rfl : i = fs.length := by omega
        simp (maxSteps := 1000000) (disch := omega) only [h0, h3, hlen, hlt, abR, WO_consG, wantedA_eq, wantB, evOp, ↓reduceIte, Nat.reduceEqDiff, List.nil_append, List.cons_append, List.append_nil, List.map_cons, List.map_nil, Option.map_some, Option.map_none, condW_bool, Bool.not_eq_true', decide_eq_true_eq, decide_eq_false_iff_not, decide_true, decide_false, Int.toNat_natCast, Int.ofNat_lt, Int.ofNat_le, Int.natCast_inj, Bool.false_eq_true, Bool.true_eq_false, extPV, List.getElem?_cons_zero, List.getElem?_cons_succ, nilckPV, Int.reduceToNat, Int.reduceLE, true_and, and_true, reduceCtorEq, or_false, false_or, or_true, Option.some.injEq, exists_eq_left', Bool.not_true, Bool.not_false, ne_eq, Int.reduceEq, not_true_eq_false, not_false_eq_true, Int.reduceLT, UInt8.reduceLT, UInt8.reduceLE, UInt8.reduceToNat]
        exact ⟨.bool false, rfl, hk.leave rfl (fun _ _ => rfl)⟩
    · obtain ⟨i, hi, rfl⟩ := List.mem_iff_getElem.1 hf
      have := (hall i hi).1
      simpa [List.getD, hi] using this
  · refine ⟨true, call_of_W prog_143 ?_, fun h => (by cases h)⟩
    -- the first that is too big
    have hex : ∃ j, j < fs.length ∧ ¬ (okF (fs.getD j ([], [])) ∧ (20 < j → (fs.getD j ([], [])).2.length ≤ 100)) := by
      rcases Classical.not_forall.1 hall with ⟨j, hj⟩
      rcases Classical.not_imp.1 hj with ⟨h1, h2⟩
      exact ⟨j, h1, h2⟩
    obtain ⟨j, hj, hbad⟩ := hex
    unfold F_posthornlaw06_Great; dsimp only
    have h2' : ¬ (200 : Int) < (fs.length : Int) := by omega
    simp (maxSteps := 1000000) (disch := omega) only [hlen, h2', abR, WO_consG, wantedA_eq, wantB, evOp, ↓reduceIte, Nat.reduceEqDiff, List.nil_append, List.cons_append, List.append_nil, List.map_cons, List.map_nil, Option.map_some, Option.map_none, condW_bool, Bool.not_eq_true', decide_eq_true_eq, decide_eq_false_iff_not, decide_true, decide_false, Int.toNat_natCast, Int.ofNat_lt, Int.ofNat_le, Int.natCast_inj, Bool.false_eq_true, Bool.true_eq_false, extPV, List.getElem?_cons_zero, List.getElem?_cons_succ, nilckPV, Int.reduceToNat, Int.reduceLE, true_and, and_true, reduceCtorEq, or_false, false_or, or_true, Option.some.injEq, exists_eq_left', Bool.not_true, Bool.not_false, ne_eq, Int.reduceEq, not_true_eq_false, not_false_eq_true, Int.reduceLT, UInt8.reduceLT, UInt8.reduceLE, UInt8.reduceToNat]
    obtain ⟨I, hI⟩ : ∃ I : Nat → Env → St → Prop, I = fun k e s' => ∃ (i : Nat), k = fs.length - i ∧ i ≤ j ∧ Kept st s' ∧ e 0 = x ∧ e 3 = .int .i64 (i : Int) := ⟨_, rfl⟩
    refine W_loop I ?_ (n := fs.length) (by
      rw [hI]
      exact ⟨0, rfl, by omega, Kept.start, rfl, rfl⟩)
    intro k e s' hh
    rw [hI] at hh
    obtain ⟨i, rfl, hi, hk, h0, h3⟩ := hh
    have hlt : i < fs.length := by omega
    obtain ⟨f, hfe⟩ : ∃ f, f = fs.getD i ([], []) := ⟨_, rfl⟩
    have hnext : (okF f ∧ (20 < i → f.2.length ≤ 100)) → ∀ (E : Env), E 0 = x → E 3 = .int .i64 ((i + 1 : Nat) : Int) → I (fs.length - (i + 1)) E s' := by
      intro hok E k1 k2
      have : i ≠ j := by rintro rfl; rw [← hfe] at hbad; exact hbad hok
      rw [hI]; exact ⟨i + 1, rfl, by omega, hk, k1, k2⟩
    have fin : ∀ (E : Env), E 2 = .bool true → ∃ rv, resOf E s' [.tmp 2] = some rv ∧ leave st s' rv = (.bool true, st) := fun E h => ⟨.bool true, by simp [resOf, rvAll, rv1, h, notTup, packRes], hk.leave rfl (fun _ _ => rfl)⟩
    by_cases q1 : 200 < f.1.length
    · have e1 : (200 : Int) < (f.1.length : Int) := by omega
      simp (maxSteps := 1000000) (disch := omega) only [h0, h3, hlen, hlt, iaddr_f hx, ← hfe, fa_cp, load_cp0, load_cp1', len_s, e1, add_n, abR, WO_consG, wantedA_eq, wantB, evOp, ↓reduceIte, Nat.reduceEqDiff, List.nil_append, List.cons_append, List.append_nil, List.map_cons, List.map_nil, Option.map_some, Option.map_none, condW_bool, Bool.not_eq_true', decide_eq_true_eq, decide_eq_false_iff_not, decide_true, decide_false, Int.toNat_natCast, Int.ofNat_lt, Int.ofNat_le, Int.natCast_inj, Bool.false_eq_true, Bool.true_eq_false, extPV, List.getElem?_cons_zero, List.getElem?_cons_succ, nilckPV, Int.reduceToNat, Int.reduceLE, true_and, and_true, reduceCtorEq, or_false, false_or, or_true, Option.some.injEq, exists_eq_left', Bool.not_true, Bool.not_false, ne_eq, Int.reduceEq, not_true_eq_false, not_false_eq_true, Int.reduceLT, UInt8.reduceLT, UInt8.reduceLE, UInt8.reduceToNat]
      exact fin _ rfl
    have e1 : ¬ (200 : Int) < (f.1.length : Int) := by omega
    by_cases q2 : 5000 < f.2.length
    · have e2 : (5000 : Int) < (f.2.length : Int) := by omega
      simp (maxSteps := 1000000) (disch := omega) only [h0, h3, hlen, hlt, iaddr_f hx, ← hfe, fa_cp, load_cp0, load_cp1', len_s, e1, e2, add_n, abR, WO_consG, wantedA_eq, wantB, evOp, ↓reduceIte, Nat.reduceEqDiff, List.nil_append, List.cons_append, List.append_nil, List.map_cons, List.map_nil, Option.map_some, Option.map_none, condW_bool, Bool.not_eq_true', decide_eq_true_eq, decide_eq_false_iff_not, decide_true, decide_false, Int.toNat_natCast, Int.ofNat_lt, Int.ofNat_le, Int.natCast_inj, Bool.false_eq_true, Bool.true_eq_false, extPV, List.getElem?_cons_zero, List.getElem?_cons_succ, nilckPV, Int.reduceToNat, Int.reduceLE, true_and, and_true, reduceCtorEq, or_false, false_or, or_true, Option.some.injEq, exists_eq_left', Bool.not_true, Bool.not_false, ne_eq, Int.reduceEq, not_true_eq_false, not_false_eq_true, Int.reduceLT, UInt8.reduceLT, UInt8.reduceLE, UInt8.reduceToNat]
      exact fin _ rfl
    have e2 : ¬ (5000 : Int) < (f.2.length : Int) := by omega
    by_cases h20 : 20 < i
    · have e3 : (20 : Int) < (i : Int) := by omega
      by_cases q4 : 100 < f.2.length
      · have e4 : (100 : Int) < (f.2.length : Int) := by omega
        simp (maxSteps := 1000000) (disch := omega) only [h0, h3, hlen, hlt, iaddr_f hx, ← hfe, fa_cp, load_cp0, load_cp1', len_s, e1, e2, e3, e4, add_n, abR, WO_consG, wantedA_eq, wantB, evOp, ↓reduceIte, Nat.reduceEqDiff, List.nil_append, List.cons_append, List.append_nil, List.map_cons, List.map_nil, Option.map_some, Option.map_none, condW_bool, Bool.not_eq_true', decide_eq_true_eq, decide_eq_false_iff_not, decide_true, decide_false, Int.toNat_natCast, Int.ofNat_lt, Int.ofNat_le, Int.natCast_inj, Bool.false_eq_true, Bool.true_eq_false, extPV, List.getElem?_cons_zero, List.getElem?_cons_succ, nilckPV, Int.reduceToNat, Int.reduceLE, true_and, and_true, reduceCtorEq, or_false, false_or, or_true, Option.some.injEq, exists_eq_left', Bool.not_true, Bool.not_false, ne_eq, Int.reduceEq, not_true_eq_false, not_false_eq_true, Int.reduceLT, UInt8.reduceLT, UInt8.reduceLE, UInt8.reduceToNat]
        exact fin _ rfl
      · have e4 : ¬ (100 : Int) < (f.2.length : Int) := by omega
        simp (maxSteps := 1000000) (disch := omega) only [h0, h3, hlen, hlt, iaddr_f hx, ← hfe, fa_cp, load_cp0, load_cp1', len_s, e1, e2, e3, e4, add_n, abR, WO_consG, wantedA_eq, wantB, evOp, ↓reduceIte, Nat.reduceEqDiff, List.nil_append, List.cons_append, List.append_nil, List.map_cons, List.map_nil, Option.map_some, Option.map_none, condW_bool, Bool.not_eq_true', decide_eq_true_eq, decide_eq_false_iff_not, decide_true, decide_false, Int.toNat_natCast, Int.ofNat_lt, Int.ofNat_le, Int.natCast_inj, Bool.false_eq_true, Bool.true_eq_false, extPV, List.getElem?_cons_zero, List.getElem?_cons_succ, nilckPV, Int.reduceToNat, Int.reduceLE, true_and, and_true, reduceCtorEq, or_false, false_or, or_true, Option.some.injEq, exists_eq_left', Bool.not_true, Bool.not_false, ne_eq, Int.reduceEq, not_true_eq_false, not_false_eq_true, Int.reduceLT, UInt8.reduceLT, UInt8.reduceLE, UInt8.reduceToNat]
        exact loopQ_intro (m := fs.length - (i + 1)) (by omega) (hnext ⟨⟨by omega, by omega⟩, fun _ => by omega⟩ _ h0 rfl)
    · have e3 : ¬ (20 : Int) < (i : Int) := by omega
      simp (maxSteps := 1000000) (disch := omega) only [h0, h3, hlen, hlt, iaddr_f hx, ← hfe, fa_cp, load_cp0, load_cp1', len_s, e1, e2, e3, add_n, abR, WO_consG, wantedA_eq, wantB, evOp, ↓reduceIte, Nat.reduceEqDiff, List.nil_append, List.cons_append, List.append_nil, List.map_cons, List.map_nil, Option.map_some, Option.map_none, condW_bool, Bool.not_eq_true', decide_eq_true_eq, decide_eq_false_iff_not, decide_true, decide_false, Int.toNat_natCast, Int.ofNat_lt, Int.ofNat_le, Int.natCast_inj, Bool.false_eq_true, Bool.true_eq_false, extPV, List.getElem?_cons_zero, List.getElem?_cons_succ, nilckPV, Int.reduceToNat, Int.reduceLE, true_and, and_true, reduceCtorEq, or_false, false_or, or_true, Option.some.injEq, exists_eq_left', Bool.not_true, Bool.not_false, ne_eq, Int.reduceEq, not_true_eq_false, not_false_eq_true, Int.reduceLT, UInt8.reduceLT, UInt8.reduceLE, UInt8.reduceToNat]
      exact loopQ_intro (m := fs.length - (i + 1)) (by omega) (hnext ⟨⟨by omega, by omega⟩, fun h => absurd h h20⟩ _ h0 rfl)
end Go.Ab

/-
  Names and values of fields; texts without blanks at their ends.
-/
namespace Go.Ab
set_option linter.unusedVariables false
set_option linter.unusedSimpArgs false
variable {st s : St} {e : Env}

theorem all_getD {p : UInt8 → Bool} {l : List UInt8} (h : ∀ j, j < l.length → p (l.getD j 0) = true) : l.all p = true := by
  rw [List.all_eq_true]
  intro c hc
  obtain ⟨i, hi, rfl⟩ := List.mem_iff_getElem.1 hc
  have := h i hi
  simpa [List.getD, hi] using this
theorem all_bad {p : UInt8 → Bool} {l : List UInt8} {j : Nat} (hj : j < l.length) (h : p (l.getD j 0) = false) : l.all p = false := by
  rw [List.all_eq_false]
  refine ⟨l.getD j 0, ?_, by rw [h]; simp⟩
  simp [List.getD, hj]

def nameC (c : UInt8) : Bool := !decide (c < 33) && !decide (126 < c) && !decide (c = 58)
def nameB (l : List UInt8) : Bool := decide (1 ≤ l.length) && decide (l.length ≤ 64) && l.all nameC

theorem isName_spec {l : List UInt8} : call prog (.fn 157 []) [.str l] st = some (.bool (nameB l), st) := by
  refine call_of_W prog_157 ?_
  unfold F_fields_isName; dsimp only
  by_cases h1 : l.length < 1
  · have e1 : (l.length : Int) < 1 := by omega
    simp (maxSteps := 1000000) (disch := omega) only [len_s, e1, abR, WO_consG, wantedA_eq, wantB, evOp, ↓reduceIte, Nat.reduceEqDiff, List.nil_append, List.cons_append, List.append_nil, List.map_cons, List.map_nil, Option.map_some, Option.map_none, condW_bool, Bool.not_eq_true', decide_eq_true_eq, decide_eq_false_iff_not, decide_true, decide_false, Int.toNat_natCast, Int.ofNat_lt, Int.ofNat_le, Int.natCast_inj, Bool.false_eq_true, Bool.true_eq_false, extPV, List.getElem?_cons_zero, List.getElem?_cons_succ, nilckPV, Int.reduceToNat, Int.reduceLE, true_and, and_true, reduceCtorEq, or_false, false_or, or_true, Option.some.injEq, exists_eq_left', Bool.not_true, Bool.not_false, ne_eq, Int.reduceEq, not_true_eq_false, not_false_eq_true, Int.reduceLT, UInt8.reduceLT, UInt8.reduceLE, UInt8.reduceToNat]
    rw [show nameB l = false by simp [nameB]; omega]
    exact end1 rfl Kp_bool
  have e1 : ¬ (l.length : Int) < 1 := by omega
  by_cases h2 : 64 < l.length
  · have e2 : (64 : Int) < (l.length : Int) := by omega
    simp (maxSteps := 1000000) (disch := omega) only [len_s, e1, e2, abR, WO_consG, wantedA_eq, wantB, evOp, ↓reduceIte, Nat.reduceEqDiff, List.nil_append, List.cons_append, List.append_nil, List.map_cons, List.map_nil, Option.map_some, Option.map_none, condW_bool, Bool.not_eq_true', decide_eq_true_eq, decide_eq_false_iff_not, decide_true, decide_false, Int.toNat_natCast, Int.ofNat_lt, Int.ofNat_le, Int.natCast_inj, Bool.false_eq_true, Bool.true_eq_false, extPV, List.getElem?_cons_zero, List.getElem?_cons_succ, nilckPV, Int.reduceToNat, Int.reduceLE, true_and, and_true, reduceCtorEq, or_false, false_or, or_true, Option.some.injEq, exists_eq_left', Bool.not_true, Bool.not_false, ne_eq, Int.reduceEq, not_true_eq_false, not_false_eq_true, Int.reduceLT, UInt8.reduceLT, UInt8.reduceLE, UInt8.reduceToNat]
    rw [show nameB l = false by simp [nameB]; omega]
    exact end1 rfl Kp_bool
  have e2 : ¬ (64 : Int) < (l.length : Int) := by omega
  simp (maxSteps := 1000000) (disch := omega) only [len_s, e1, e2, abR, WO_consG, wantedA_eq, wantB, evOp, ↓reduceIte, Nat.reduceEqDiff, List.nil_append, List.cons_append, List.append_nil, List.map_cons, List.map_nil, Option.map_some, Option.map_none, condW_bool, Bool.not_eq_true', decide_eq_true_eq, decide_eq_false_iff_not, decide_true, decide_false, Int.toNat_natCast, Int.ofNat_lt, Int.ofNat_le, Int.natCast_inj, Bool.false_eq_true, Bool.true_eq_false, extPV, List.getElem?_cons_zero, List.getElem?_cons_succ, nilckPV, Int.reduceToNat, Int.reduceLE, true_and, and_true, reduceCtorEq, or_false, false_or, or_true, Option.some.injEq, exists_eq_left', Bool.not_true, Bool.not_false, ne_eq, Int.reduceEq, not_true_eq_false, not_false_eq_true, Int.reduceLT, UInt8.reduceLT, UInt8.reduceLE, UInt8.reduceToNat]
  obtain ⟨I, hI⟩ : ∃ I : Nat → Env → St → Prop, I = fun k e s' => ∃ (i : Nat), k = l.length - i ∧ i ≤ l.length ∧ Kept st s' ∧ (∀ j, j < i → nameC (l.getD j 0) = true) ∧ e 0 = .str l ∧ e 13 = .int .i64 (l.length : Int) ∧ e 14 = .int .i64 (i : Int) := ⟨_, rfl⟩
  refine W_loop I ?_ (n := l.length) (by
    rw [hI]
    exact ⟨0, rfl, by omega, Kept.start, fun j h => by omega, rfl, rfl, rfl⟩)
  intro k e s' hh
  rw [hI] at hh
  obtain ⟨i, rfl, hi, hk, hall, h0, h13, h14⟩ := hh
  by_cases hlt : i < l.length
  · obtain ⟨c, hc⟩ : ∃ c, c = l.getD i 0 := ⟨_, rfl⟩
    have bad : nameC c = false → ∀ E : Env, E 2 = .bool false → ∃ rv, resOf E s' [.tmp 2] = some rv ∧ leave st s' rv = (.bool (nameB l), st) := fun h E k2 =>
      ⟨.bool false, by simp [resOf, rvAll, rv1, k2, notTup, packRes], by
        rw [show nameB l = false by simp only [nameB, all_bad (p := nameC) hlt (by rw [← hc]; exact h), Bool.and_false]]
        exact hk.leave rfl (fun _ _ => rfl)⟩
    by_cases q1 : c < 33
    · simp (maxSteps := 1000000) (disch := omega) only [h0, h13, h14, hlt, idx_s, ← hc, eq_true q1, abR, WO_consG, wantedA_eq, wantB, evOp, ↓reduceIte, Nat.reduceEqDiff, List.nil_append, List.cons_append, List.append_nil, List.map_cons, List.map_nil, Option.map_some, Option.map_none, condW_bool, Bool.not_eq_true', decide_eq_true_eq, decide_eq_false_iff_not, decide_true, decide_false, Int.toNat_natCast, Int.ofNat_lt, Int.ofNat_le, Int.natCast_inj, Bool.false_eq_true, Bool.true_eq_false, extPV, List.getElem?_cons_zero, List.getElem?_cons_succ, nilckPV, Int.reduceToNat, Int.reduceLE, true_and, and_true, reduceCtorEq, or_false, false_or, or_true, Option.some.injEq, exists_eq_left', Bool.not_true, Bool.not_false, ne_eq, Int.reduceEq, not_true_eq_false, not_false_eq_true, Int.reduceLT, UInt8.reduceLT, UInt8.reduceLE, UInt8.reduceToNat]
      exact bad (by simp [nameC, q1]) _ rfl
    by_cases q2 : 126 < c
    · simp (maxSteps := 1000000) (disch := omega) only [h0, h13, h14, hlt, idx_s, ← hc, q1, eq_true q2, abR, WO_consG, wantedA_eq, wantB, evOp, ↓reduceIte, Nat.reduceEqDiff, List.nil_append, List.cons_append, List.append_nil, List.map_cons, List.map_nil, Option.map_some, Option.map_none, condW_bool, Bool.not_eq_true', decide_eq_true_eq, decide_eq_false_iff_not, decide_true, decide_false, Int.toNat_natCast, Int.ofNat_lt, Int.ofNat_le, Int.natCast_inj, Bool.false_eq_true, Bool.true_eq_false, extPV, List.getElem?_cons_zero, List.getElem?_cons_succ, nilckPV, Int.reduceToNat, Int.reduceLE, true_and, and_true, reduceCtorEq, or_false, false_or, or_true, Option.some.injEq, exists_eq_left', Bool.not_true, Bool.not_false, ne_eq, Int.reduceEq, not_true_eq_false, not_false_eq_true, Int.reduceLT, UInt8.reduceLT, UInt8.reduceLE, UInt8.reduceToNat]
      exact bad (by simp [nameC, q2]) _ rfl
    by_cases q3 : c = 58
    · simp (maxSteps := 1000000) (disch := omega) only [h0, h13, h14, hlt, idx_s, ← hc, q1, q2, eq_true q3, abR, WO_consG, wantedA_eq, wantB, evOp, ↓reduceIte, Nat.reduceEqDiff, List.nil_append, List.cons_append, List.append_nil, List.map_cons, List.map_nil, Option.map_some, Option.map_none, condW_bool, Bool.not_eq_true', decide_eq_true_eq, decide_eq_false_iff_not, decide_true, decide_false, Int.toNat_natCast, Int.ofNat_lt, Int.ofNat_le, Int.natCast_inj, Bool.false_eq_true, Bool.true_eq_false, extPV, List.getElem?_cons_zero, List.getElem?_cons_succ, nilckPV, Int.reduceToNat, Int.reduceLE, true_and, and_true, reduceCtorEq, or_false, false_or, or_true, Option.some.injEq, exists_eq_left', Bool.not_true, Bool.not_false, ne_eq, Int.reduceEq, not_true_eq_false, not_false_eq_true, Int.reduceLT, UInt8.reduceLT, UInt8.reduceLE, UInt8.reduceToNat]
      exact bad (by simp [nameC, q3]) _ rfl
    · simp (maxSteps := 1000000) (disch := omega) only [h0, h13, h14, hlt, idx_s, ← hc, q1, q2, q3, add_n, abR, WO_consG, wantedA_eq, wantB, evOp, ↓reduceIte, Nat.reduceEqDiff, List.nil_append, List.cons_append, List.append_nil, List.map_cons, List.map_nil, Option.map_some, Option.map_none, condW_bool, Bool.not_eq_true', decide_eq_true_eq, decide_eq_false_iff_not, decide_true, decide_false, Int.toNat_natCast, Int.ofNat_lt, Int.ofNat_le, Int.natCast_inj, Bool.false_eq_true, Bool.true_eq_false, extPV, List.getElem?_cons_zero, List.getElem?_cons_succ, nilckPV, Int.reduceToNat, Int.reduceLE, true_and, and_true, reduceCtorEq, or_false, false_or, or_true, Option.some.injEq, exists_eq_left', Bool.not_true, Bool.not_false, ne_eq, Int.reduceEq, not_true_eq_false, not_false_eq_true, Int.reduceLT, UInt8.reduceLT, UInt8.reduceLE, UInt8.reduceToNat]
      refine loopQ_intro (m := l.length - (i + 1)) (by omega) ?_
      rw [hI]
      refine ⟨i + 1, rfl, by omega, hk, fun j hj => ?_, h0, h13, rfl⟩
      by_cases hji : j = i
      · subst hji; rw [← hc]; simp [nameC, q1, q2, q3]
      · exact hall j (by omega)
  · obtain rfl : i = l.length := by omega
    simp (maxSteps := 1000000) (disch := omega) only [h0, h13, h14, hlt, abR, WO_consG, wantedA_eq, wantB, evOp, ↓reduceIte, Nat.reduceEqDiff, List.nil_append, List.cons_append, List.append_nil, List.map_cons, List.map_nil, Option.map_some, Option.map_none, condW_bool, Bool.not_eq_true', decide_eq_true_eq, decide_eq_false_iff_not, decide_true, decide_false, Int.toNat_natCast, Int.ofNat_lt, Int.ofNat_le, Int.natCast_inj, Bool.false_eq_true, Bool.true_eq_false, extPV, List.getElem?_cons_zero, List.getElem?_cons_succ, nilckPV, Int.reduceToNat, Int.reduceLE, true_and, and_true, reduceCtorEq, or_false, false_or, or_true, Option.some.injEq, exists_eq_left', Bool.not_true, Bool.not_false, ne_eq, Int.reduceEq, not_true_eq_false, not_false_eq_true, Int.reduceLT, UInt8.reduceLT, UInt8.reduceLE, UInt8.reduceToNat]
    refine ⟨.bool true, rfl, ?_⟩
    rw [show nameB l = true by simp only [nameB, all_getD (p := nameC) hall, Bool.and_true, Bool.and_eq_true, decide_eq_true_eq]; omega]
    exact hk.leave rfl (fun _ _ => rfl)

theorem le32 {c : UInt8} : c ≤ 32 ↔ c < 33 := by
  rw [UInt8.le_iff_toNat_le, UInt8.lt_iff_toNat_lt]; simp; omega
theorem ge127 {c : UInt8} : 127 ≤ c ↔ 126 < c := by
  rw [UInt8.le_iff_toNat_le, UInt8.lt_iff_toNat_lt]; simp; omega

theorem rName_spec {l : List UInt8} (hl : l.length ≤ 1000000) : call prog (.fn 160 []) [.str l] st = some (.bool (nameB l), st) := by
  refine call_of_W prog_160 ?_
  unfold F_posthornref06_Name; dsimp only
  simp (maxSteps := 1000000) (disch := omega) only [len_s, abR, WO_consG, wantedA_eq, wantB, evOp, ↓reduceIte, Nat.reduceEqDiff, List.nil_append, List.cons_append, List.append_nil, List.map_cons, List.map_nil, Option.map_some, Option.map_none, condW_bool, Bool.not_eq_true', decide_eq_true_eq, decide_eq_false_iff_not, decide_true, decide_false, Int.toNat_natCast, Int.ofNat_lt, Int.ofNat_le, Int.natCast_inj, Bool.false_eq_true, Bool.true_eq_false, extPV, List.getElem?_cons_zero, List.getElem?_cons_succ, nilckPV, Int.reduceToNat, Int.reduceLE, true_and, and_true, reduceCtorEq, or_false, false_or, or_true, Option.some.injEq, exists_eq_left', Bool.not_true, Bool.not_false, ne_eq, Int.reduceEq, not_true_eq_false, not_false_eq_true, Int.reduceLT, UInt8.reduceLT, UInt8.reduceLE, UInt8.reduceToNat]
  obtain ⟨I, hI⟩ : ∃ I : Nat → Env → St → Prop, I = fun k e s' => ∃ (i : Nat), k = l.length - i ∧ i ≤ l.length ∧ Kept st s' ∧ (∀ j, j < i → nameC (l.getD j 0) = true) ∧ e 0 = .str l ∧ e 3 = .int .i64 (i : Int) := ⟨_, rfl⟩
  refine W_loop I ?_ (n := l.length) (by
    rw [hI]
    exact ⟨0, rfl, by omega, Kept.start, fun j h => by omega, rfl, rfl⟩)
  intro k e s' hh
  rw [hI] at hh
  obtain ⟨i, rfl, hi, hk, hall, h0, h3⟩ := hh
  by_cases hlt : i < l.length
  · obtain ⟨c, hc⟩ : ∃ c, c = l.getD i 0 := ⟨_, rfl⟩
    have bad : nameC c = false → ∀ E : Env, E 2 = .bool false → ∃ rv, resOf E s' [.tmp 2] = some rv ∧ leave st s' rv = (.bool (nameB l), st) := fun h E k2 =>
      ⟨.bool false, by simp [resOf, rvAll, rv1, k2, notTup, packRes], by
        rw [show nameB l = false by simp only [nameB, all_bad (p := nameC) hlt (by rw [← hc]; exact h), Bool.and_false]]
        exact hk.leave rfl (fun _ _ => rfl)⟩
    by_cases q1 : c ≤ 32
    · simp (maxSteps := 1000000) (disch := omega) only [h0, h3, len_s, hlt, idx_s, ← hc, eq_true q1, abR, WO_consG, wantedA_eq, wantB, evOp, ↓reduceIte, Nat.reduceEqDiff, List.nil_append, List.cons_append, List.append_nil, List.map_cons, List.map_nil, Option.map_some, Option.map_none, condW_bool, Bool.not_eq_true', decide_eq_true_eq, decide_eq_false_iff_not, decide_true, decide_false, Int.toNat_natCast, Int.ofNat_lt, Int.ofNat_le, Int.natCast_inj, Bool.false_eq_true, Bool.true_eq_false, extPV, List.getElem?_cons_zero, List.getElem?_cons_succ, nilckPV, Int.reduceToNat, Int.reduceLE, true_and, and_true, reduceCtorEq, or_false, false_or, or_true, Option.some.injEq, exists_eq_left', Bool.not_true, Bool.not_false, ne_eq, Int.reduceEq, not_true_eq_false, not_false_eq_true, Int.reduceLT, UInt8.reduceLT, UInt8.reduceLE, UInt8.reduceToNat]
      exact bad (by simp [nameC, le32.1 q1]) _ rfl
    by_cases q2 : 127 ≤ c
    · simp (maxSteps := 1000000) (disch := omega) only [h0, h3, len_s, hlt, idx_s, ← hc, q1, eq_true q2, abR, WO_consG, wantedA_eq, wantB, evOp, ↓reduceIte, Nat.reduceEqDiff, List.nil_append, List.cons_append, List.append_nil, List.map_cons, List.map_nil, Option.map_some, Option.map_none, condW_bool, Bool.not_eq_true', decide_eq_true_eq, decide_eq_false_iff_not, decide_true, decide_false, Int.toNat_natCast, Int.ofNat_lt, Int.ofNat_le, Int.natCast_inj, Bool.false_eq_true, Bool.true_eq_false, extPV, List.getElem?_cons_zero, List.getElem?_cons_succ, nilckPV, Int.reduceToNat, Int.reduceLE, true_and, and_true, reduceCtorEq, or_false, false_or, or_true, Option.some.injEq, exists_eq_left', Bool.not_true, Bool.not_false, ne_eq, Int.reduceEq, not_true_eq_false, not_false_eq_true, Int.reduceLT, UInt8.reduceLT, UInt8.reduceLE, UInt8.reduceToNat]
      exact bad (by simp [nameC, ge127.1 q2]) _ rfl
    by_cases q3 : c = 58
    · simp (maxSteps := 1000000) (disch := omega) only [h0, h3, len_s, hlt, idx_s, ← hc, q1, q2, eq_true q3, abR, WO_consG, wantedA_eq, wantB, evOp, ↓reduceIte, Nat.reduceEqDiff, List.nil_append, List.cons_append, List.append_nil, List.map_cons, List.map_nil, Option.map_some, Option.map_none, condW_bool, Bool.not_eq_true', decide_eq_true_eq, decide_eq_false_iff_not, decide_true, decide_false, Int.toNat_natCast, Int.ofNat_lt, Int.ofNat_le, Int.natCast_inj, Bool.false_eq_true, Bool.true_eq_false, extPV, List.getElem?_cons_zero, List.getElem?_cons_succ, nilckPV, Int.reduceToNat, Int.reduceLE, true_and, and_true, reduceCtorEq, or_false, false_or, or_true, Option.some.injEq, exists_eq_left', Bool.not_true, Bool.not_false, ne_eq, Int.reduceEq, not_true_eq_false, not_false_eq_true, Int.reduceLT, UInt8.reduceLT, UInt8.reduceLE, UInt8.reduceToNat]
      exact bad (by simp [nameC, q3]) _ rfl
    · simp (maxSteps := 1000000) (disch := omega) only [h0, h3, len_s, hlt, idx_s, ← hc, q1, q2, q3, add_n, abR, WO_consG, wantedA_eq, wantB, evOp, ↓reduceIte, Nat.reduceEqDiff, List.nil_append, List.cons_append, List.append_nil, List.map_cons, List.map_nil, Option.map_some, Option.map_none, condW_bool, Bool.not_eq_true', decide_eq_true_eq, decide_eq_false_iff_not, decide_true, decide_false, Int.toNat_natCast, Int.ofNat_lt, Int.ofNat_le, Int.natCast_inj, Bool.false_eq_true, Bool.true_eq_false, extPV, List.getElem?_cons_zero, List.getElem?_cons_succ, nilckPV, Int.reduceToNat, Int.reduceLE, true_and, and_true, reduceCtorEq, or_false, false_or, or_true, Option.some.injEq, exists_eq_left', Bool.not_true, Bool.not_false, ne_eq, Int.reduceEq, not_true_eq_false, not_false_eq_true, Int.reduceLT, UInt8.reduceLT, UInt8.reduceLE, UInt8.reduceToNat]
      refine loopQ_intro (m := l.length - (i + 1)) (by omega) ?_
      rw [hI]
      refine ⟨i + 1, rfl, by omega, hk, fun j hj => ?_, h0, rfl⟩
      by_cases hji : j = i
      · subst hji; rw [← hc]
        rw [le32] at q1; rw [ge127] at q2
        simp [nameC, q1, q2, q3]
      · exact hall j (by omega)
  · obtain rfl : i = l.length := by omega
    by_cases g1 : 1 ≤ l.length
    · have e1 : (1 : Int) ≤ (l.length : Int) := by omega
      by_cases g2 : l.length ≤ 64
      · have e2 : (l.length : Int) ≤ 64 := by omega
        simp (maxSteps := 1000000) (disch := omega) only [h0, h3, len_s, hlt, e1, e2, abR, WO_consG, wantedA_eq, wantB, evOp, ↓reduceIte, Nat.reduceEqDiff, List.nil_append, List.cons_append, List.append_nil, List.map_cons, List.map_nil, Option.map_some, Option.map_none, condW_bool, Bool.not_eq_true', decide_eq_true_eq, decide_eq_false_iff_not, decide_true, decide_false, Int.toNat_natCast, Int.ofNat_lt, Int.ofNat_le, Int.natCast_inj, Bool.false_eq_true, Bool.true_eq_false, extPV, List.getElem?_cons_zero, List.getElem?_cons_succ, nilckPV, Int.reduceToNat, Int.reduceLE, true_and, and_true, reduceCtorEq, or_false, false_or, or_true, Option.some.injEq, exists_eq_left', Bool.not_true, Bool.not_false, ne_eq, Int.reduceEq, not_true_eq_false, not_false_eq_true, Int.reduceLT, UInt8.reduceLT, UInt8.reduceLE, UInt8.reduceToNat]
        refine ⟨.bool true, rfl, ?_⟩
        rw [show nameB l = true by simp only [nameB, all_getD (p := nameC) hall, Bool.and_true, Bool.and_eq_true, decide_eq_true_eq]; omega]
        exact hk.leave rfl (fun _ _ => rfl)
      · have e2 : ¬ (l.length : Int) ≤ 64 := by omega
        simp (maxSteps := 1000000) (disch := omega) only [h0, h3, len_s, hlt, e1, e2, abR, WO_consG, wantedA_eq, wantB, evOp, ↓reduceIte, Nat.reduceEqDiff, List.nil_append, List.cons_append, List.append_nil, List.map_cons, List.map_nil, Option.map_some, Option.map_none, condW_bool, Bool.not_eq_true', decide_eq_true_eq, decide_eq_false_iff_not, decide_true, decide_false, Int.toNat_natCast, Int.ofNat_lt, Int.ofNat_le, Int.natCast_inj, Bool.false_eq_true, Bool.true_eq_false, extPV, List.getElem?_cons_zero, List.getElem?_cons_succ, nilckPV, Int.reduceToNat, Int.reduceLE, true_and, and_true, reduceCtorEq, or_false, false_or, or_true, Option.some.injEq, exists_eq_left', Bool.not_true, Bool.not_false, ne_eq, Int.reduceEq, not_true_eq_false, not_false_eq_true, Int.reduceLT, UInt8.reduceLT, UInt8.reduceLE, UInt8.reduceToNat]
        refine ⟨.bool false, rfl, ?_⟩
        rw [show nameB l = false by simp [nameB, g2]]
        exact hk.leave rfl (fun _ _ => rfl)
    · have e1 : ¬ (1 : Int) ≤ (l.length : Int) := by omega
      simp (maxSteps := 1000000) (disch := omega) only [h0, h3, len_s, hlt, e1, abR, WO_consG, wantedA_eq, wantB, evOp, ↓reduceIte, Nat.reduceEqDiff, List.nil_append, List.cons_append, List.append_nil, List.map_cons, List.map_nil, Option.map_some, Option.map_none, condW_bool, Bool.not_eq_true', decide_eq_true_eq, decide_eq_false_iff_not, decide_true, decide_false, Int.toNat_natCast, Int.ofNat_lt, Int.ofNat_le, Int.natCast_inj, Bool.false_eq_true, Bool.true_eq_false, extPV, List.getElem?_cons_zero, List.getElem?_cons_succ, nilckPV, Int.reduceToNat, Int.reduceLE, true_and, and_true, reduceCtorEq, or_false, false_or, or_true, Option.some.injEq, exists_eq_left', Bool.not_true, Bool.not_false, ne_eq, Int.reduceEq, not_true_eq_false, not_false_eq_true, Int.reduceLT, UInt8.reduceLT, UInt8.reduceLE, UInt8.reduceToNat]
      refine ⟨.bool false, rfl, ?_⟩
      rw [show nameB l = false by simp [nameB]; omega]
      exact hk.leave rfl (fun _ _ => rfl)

/-! ### Blanks at the ends -/
def blankC (c : UInt8) : Bool := decide (c = 32) || decide (c = 9)
def ltrim : List UInt8 → List UInt8
  | [] => []
  | c :: r => if blankC c then ltrim r else c :: r
def rtrim (l : List UInt8) : List UInt8 := (ltrim l.reverse).reverse
def trimOf (l : List UInt8) : List UInt8 := rtrim (ltrim l)

theorem ltrim_len : ∀ {l : List UInt8}, (ltrim l).length ≤ l.length := by
  intro l
  induction l with
  | nil => simp [ltrim]
  | cons c r ih => simp only [ltrim]; split <;> simp; omega
theorem rtrim_snoc {l : List UInt8} {c : UInt8} : rtrim (l ++ [c]) = if blankC c then rtrim l else l ++ [c] := by
  unfold rtrim
  simp only [List.reverse_append, List.reverse_cons, List.reverse_nil, List.nil_append, List.singleton_append, ltrim]
  split <;> simp
theorem rtrim_len {l : List UInt8} : (rtrim l).length ≤ l.length := by
  unfold rtrim; have := ltrim_len (l := l.reverse); simpa using this
theorem trimOf_len {l : List UInt8} : (trimOf l).length ≤ l.length := by
  have := rtrim_len (l := ltrim l); have := ltrim_len (l := l); unfold trimOf; omega

theorem rblank_spec {c : UInt8} : call prog (.fn 173 []) [.b8 c] st = some (.bool (blankC c), st) := by
  refine call_of_W prog_173 ?_
  unfold F_posthornref06_blank; dsimp only
  by_cases h : c = 32
  · simp (maxSteps := 1000000) (disch := omega) only [eq_true h, abR, WO_consG, wantedA_eq, wantB, evOp, ↓reduceIte, Nat.reduceEqDiff, List.nil_append, List.cons_append, List.append_nil, List.map_cons, List.map_nil, Option.map_some, Option.map_none, condW_bool, Bool.not_eq_true', decide_eq_true_eq, decide_eq_false_iff_not, decide_true, decide_false, Int.toNat_natCast, Int.ofNat_lt, Int.ofNat_le, Int.natCast_inj, Bool.false_eq_true, Bool.true_eq_false, extPV, List.getElem?_cons_zero, List.getElem?_cons_succ, nilckPV, Int.reduceToNat, Int.reduceLE, true_and, and_true, reduceCtorEq, or_false, false_or, or_true, Option.some.injEq, exists_eq_left', Bool.not_true, Bool.not_false, ne_eq, Int.reduceEq, not_true_eq_false, not_false_eq_true, Int.reduceLT, UInt8.reduceLT, UInt8.reduceLE, UInt8.reduceToNat]
    rw [show blankC c = true by simp [blankC, h]]
    exact end1 rfl Kp_bool
  · simp (maxSteps := 1000000) (disch := omega) only [h, abR, WO_consG, wantedA_eq, wantB, evOp, ↓reduceIte, Nat.reduceEqDiff, List.nil_append, List.cons_append, List.append_nil, List.map_cons, List.map_nil, Option.map_some, Option.map_none, condW_bool, Bool.not_eq_true', decide_eq_true_eq, decide_eq_false_iff_not, decide_true, decide_false, Int.toNat_natCast, Int.ofNat_lt, Int.ofNat_le, Int.natCast_inj, Bool.false_eq_true, Bool.true_eq_false, extPV, List.getElem?_cons_zero, List.getElem?_cons_succ, nilckPV, Int.reduceToNat, Int.reduceLE, true_and, and_true, reduceCtorEq, or_false, false_or, or_true, Option.some.injEq, exists_eq_left', Bool.not_true, Bool.not_false, ne_eq, Int.reduceEq, not_true_eq_false, not_false_eq_true, Int.reduceLT, UInt8.reduceLT, UInt8.reduceLE, UInt8.reduceToNat]
    rw [show blankC c = decide (c = 9) by simp [blankC, h]]
    exact end1 rfl Kp_bool
end Go.Ab

/-
  Texts without blanks at their ends; values of fields.
-/
namespace Go.Ab
set_option linter.unusedVariables false
set_option linter.unusedSimpArgs false
variable {st s : St} {e : Env}

theorem head_split {m : List UInt8} {c : UInt8} (h : 0 < m.length) (hc : c = m.getD 0 0) : m = c :: m.drop 1 := by
  have := drop_getD (l := m) (i := 0) h
  rw [hc]; simpa using this
theorem last_split {m : List UInt8} {c : UInt8} (h : 0 < m.length) (hc : c = m.getD (m.length - 1) 0) : m = m.take (m.length - 1) ++ [c] := by
  have := take_getD (l := m) (i := m.length - 1) (by omega)
  rw [show m.length - 1 + 1 = m.length by omega, List.take_length] at this
  rw [hc]; exact this

theorem ltrim_blank {m : List UInt8} {c : UInt8} (h : 0 < m.length) (hc : c = m.getD 0 0) (hb : blankC c = true) : ltrim (m.drop 1) = ltrim m := by
  have e := head_split h hc
  obtain ⟨r, hr⟩ : ∃ r, r = m.drop 1 := ⟨_, rfl⟩
  rw [← hr] at e ⊢
  rw [e]; simp [ltrim, hb]
theorem ltrim_stop {m : List UInt8} {c : UInt8} (h : 0 < m.length) (hc : c = m.getD 0 0) (hb : blankC c = false) : ltrim m = m := by
  have e := head_split h hc
  obtain ⟨r, hr⟩ : ∃ r, r = m.drop 1 := ⟨_, rfl⟩
  rw [← hr] at e
  rw [e]; simp [ltrim, hb]
theorem rtrim_blank {m : List UInt8} {c : UInt8} (h : 0 < m.length) (hc : c = m.getD (m.length - 1) 0) (hb : blankC c = true) : rtrim (m.take (m.length - 1)) = rtrim m := by
  have e := last_split h hc
  obtain ⟨r, hr⟩ : ∃ r, r = m.take (m.length - 1) := ⟨_, rfl⟩
  rw [← hr] at e ⊢
  rw [e, rtrim_snoc, if_pos hb]
theorem rtrim_stop {m : List UInt8} {c : UInt8} (h : 0 < m.length) (hc : c = m.getD (m.length - 1) 0) (hb : blankC c = false) : rtrim m = m := by
  have e := last_split h hc
  obtain ⟨r, hr⟩ : ∃ r, r = m.take (m.length - 1) := ⟨_, rfl⟩
  rw [← hr] at e
  rw [e, rtrim_snoc, if_neg (by simp [hb])]

theorem trim_spec {l : List UInt8} (hl : l.length ≤ 100000000) : call prog (.fn 168 []) [.str l] st = some (.str (trimOf l), st) := by
  refine call_of_W prog_168 ?_
  unfold F_fields_trim; dsimp only
  obtain ⟨J, hJ⟩ : ∃ J : List UInt8 → Env → St → Prop, J = fun m E S => Kept st S ∧ E 0 = .str m := ⟨_, rfl⟩
  refine W_cut (J l) ?_ ?_
  · simp (maxSteps := 1000000) (disch := omega) only [hJ, env0, abR, WO_consG, wantedA_eq, wantB, evOp, ↓reduceIte, Nat.reduceEqDiff, List.nil_append, List.cons_append, List.append_nil, List.map_cons, List.map_nil, Option.map_some, Option.map_none, condW_bool, Bool.not_eq_true', decide_eq_true_eq, decide_eq_false_iff_not, decide_true, decide_false, Int.toNat_natCast, Int.ofNat_lt, Int.ofNat_le, Int.natCast_inj, Bool.false_eq_true, Bool.true_eq_false, extPV, List.getElem?_cons_zero, List.getElem?_cons_succ, nilckPV, Int.reduceToNat, Int.reduceLE, true_and, and_true, reduceCtorEq, or_false, false_or, or_true, Option.some.injEq, exists_eq_left', Bool.not_true, Bool.not_false, ne_eq, Int.reduceEq, not_true_eq_false, not_false_eq_true, Int.reduceLT, UInt8.reduceLT, UInt8.reduceLE, UInt8.reduceToNat]
    exact ⟨Kept.start, rfl⟩
  intro e S hj
  refine W_cut (J (ltrim l)) ?_ ?_
  · rw [hJ] at hj
    obtain ⟨hk, h0⟩ := hj
    rw [W_block]
    obtain ⟨I, hI⟩ : ∃ I : Nat → Env → St → Prop, I = fun k e s' => ∃ (m : List UInt8), k = m.length ∧ m.length ≤ l.length ∧ ltrim m = ltrim l ∧ Kept st s' ∧ e 0 = .str m := ⟨_, rfl⟩
    refine W_loop I ?_ (n := l.length) (by
      rw [hI]
      exact ⟨l, rfl, by omega, rfl, hk, h0⟩)
    clear hk h0
    intro k e s' hh
    rw [hI] at hh
    obtain ⟨m, rfl, hml, ht, hk, h0⟩ := hh
    by_cases hlt : 0 < m.length
    · have e1 : (0 : Int) < (m.length : Int) := by omega
      obtain ⟨c, hc⟩ : ∃ c, c = m.getD 0 0 := ⟨_, rfl⟩
      have hnext : blankC c = true → ∀ E : Env, E 0 = .str (m.drop 1) → I (m.length - 1) E s' := fun hb E k0 => by
        rw [hI]; exact ⟨m.drop 1, by simp, by simp; omega, by rw [← ht]; exact ltrim_blank hlt hc hb, hk, k0⟩
      by_cases q1 : c = 32
      · simp (maxSteps := 1000000) (disch := omega) only [h0, len_s, e1, idx_s, ← hc, eq_true q1, slc_s_lo, abR, WO_consG, wantedA_eq, wantB, evOp, ↓reduceIte, Nat.reduceEqDiff, List.nil_append, List.cons_append, List.append_nil, List.map_cons, List.map_nil, Option.map_some, Option.map_none, condW_bool, Bool.not_eq_true', decide_eq_true_eq, decide_eq_false_iff_not, decide_true, decide_false, Int.toNat_natCast, Int.ofNat_lt, Int.ofNat_le, Int.natCast_inj, Bool.false_eq_true, Bool.true_eq_false, extPV, List.getElem?_cons_zero, List.getElem?_cons_succ, nilckPV, Int.reduceToNat, Int.reduceLE, true_and, and_true, reduceCtorEq, or_false, false_or, or_true, Option.some.injEq, exists_eq_left', Bool.not_true, Bool.not_false, ne_eq, Int.reduceEq, not_true_eq_false, not_false_eq_true, Int.reduceLT, UInt8.reduceLT, UInt8.reduceLE, UInt8.reduceToNat]
        exact loopQ_intro (m := m.length - 1) (by omega) (hnext (by simp [blankC, q1]) _ rfl)
      by_cases q2 : c = 9
      · simp (maxSteps := 1000000) (disch := omega) only [h0, len_s, e1, idx_s, ← hc, q1, eq_true q2, slc_s_lo, abR, WO_consG, wantedA_eq, wantB, evOp, ↓reduceIte, Nat.reduceEqDiff, List.nil_append, List.cons_append, List.append_nil, List.map_cons, List.map_nil, Option.map_some, Option.map_none, condW_bool, Bool.not_eq_true', decide_eq_true_eq, decide_eq_false_iff_not, decide_true, decide_false, Int.toNat_natCast, Int.ofNat_lt, Int.ofNat_le, Int.natCast_inj, Bool.false_eq_true, Bool.true_eq_false, extPV, List.getElem?_cons_zero, List.getElem?_cons_succ, nilckPV, Int.reduceToNat, Int.reduceLE, true_and, and_true, reduceCtorEq, or_false, false_or, or_true, Option.some.injEq, exists_eq_left', Bool.not_true, Bool.not_false, ne_eq, Int.reduceEq, not_true_eq_false, not_false_eq_true, Int.reduceLT, UInt8.reduceLT, UInt8.reduceLE, UInt8.reduceToNat]
        exact loopQ_intro (m := m.length - 1) (by omega) (hnext (by simp [blankC, q2]) _ rfl)
      · simp (maxSteps := 1000000) (disch := omega) only [h0, len_s, e1, idx_s, ← hc, q1, q2, slc_s_lo, hJ, abR, WO_consG, wantedA_eq, wantB, evOp, ↓reduceIte, Nat.reduceEqDiff, List.nil_append, List.cons_append, List.append_nil, List.map_cons, List.map_nil, Option.map_some, Option.map_none, condW_bool, Bool.not_eq_true', decide_eq_true_eq, decide_eq_false_iff_not, decide_true, decide_false, Int.toNat_natCast, Int.ofNat_lt, Int.ofNat_le, Int.natCast_inj, Bool.false_eq_true, Bool.true_eq_false, extPV, List.getElem?_cons_zero, List.getElem?_cons_succ, nilckPV, Int.reduceToNat, Int.reduceLE, true_and, and_true, reduceCtorEq, or_false, false_or, or_true, Option.some.injEq, exists_eq_left', Bool.not_true, Bool.not_false, ne_eq, Int.reduceEq, not_true_eq_false, not_false_eq_true, Int.reduceLT, UInt8.reduceLT, UInt8.reduceLE, UInt8.reduceToNat]
        refine ⟨hk, ?_⟩
        rw [← ht, ltrim_stop hlt hc (by simp [blankC, q1, q2])]
    · have e1 : ¬ (0 : Int) < (m.length : Int) := by omega
      simp (maxSteps := 1000000) (disch := omega) only [h0, len_s, e1, hJ, abR, WO_consG, wantedA_eq, wantB, evOp, ↓reduceIte, Nat.reduceEqDiff, List.nil_append, List.cons_append, List.append_nil, List.map_cons, List.map_nil, Option.map_some, Option.map_none, condW_bool, Bool.not_eq_true', decide_eq_true_eq, decide_eq_false_iff_not, decide_true, decide_false, Int.toNat_natCast, Int.ofNat_lt, Int.ofNat_le, Int.natCast_inj, Bool.false_eq_true, Bool.true_eq_false, extPV, List.getElem?_cons_zero, List.getElem?_cons_succ, nilckPV, Int.reduceToNat, Int.reduceLE, true_and, and_true, reduceCtorEq, or_false, false_or, or_true, Option.some.injEq, exists_eq_left', Bool.not_true, Bool.not_false, ne_eq, Int.reduceEq, not_true_eq_false, not_false_eq_true, Int.reduceLT, UInt8.reduceLT, UInt8.reduceLE, UInt8.reduceToNat]
      refine ⟨hk, ?_⟩
      rw [← ht, List.length_eq_zero_iff.1 (by omega : m.length = 0)]; rfl
  clear hj
  intro e S hj
  refine W_cut (J (trimOf l)) ?_ ?_
  · rw [hJ] at hj
    obtain ⟨hk, h0⟩ := hj
    rw [W_block]
    have hll := ltrim_len (l := l)
    obtain ⟨I, hI⟩ : ∃ I : Nat → Env → St → Prop, I = fun k e s' => ∃ (m : List UInt8), k = m.length ∧ m.length ≤ l.length ∧ rtrim m = rtrim (ltrim l) ∧ Kept st s' ∧ e 0 = .str m := ⟨_, rfl⟩
    refine W_loop I ?_ (n := (ltrim l).length) (by
      rw [hI]
      exact ⟨ltrim l, rfl, hll, rfl, hk, h0⟩)
    clear hk h0
    intro k e s' hh
    rw [hI] at hh
    obtain ⟨m, rfl, hml, ht, hk, h0⟩ := hh
    by_cases hlt : 0 < m.length
    · have e1 : (0 : Int) < (m.length : Int) := by omega
      obtain ⟨c, hc⟩ : ∃ c, c = m.getD (m.length - 1) 0 := ⟨_, rfl⟩
      have hnext : blankC c = true → ∀ E : Env, E 0 = .str (m.take (m.length - 1)) → I (m.length - 1) E s' := fun hb E k0 => by
        rw [hI]; exact ⟨m.take (m.length - 1), by simp, by simp; omega, by
          rw [← ht]; exact rtrim_blank hlt hc hb, hk, k0⟩
      by_cases q1 : c = 32
      · simp (maxSteps := 1000000) (disch := omega) only [h0, len_s, e1, sub_n, idx_s, ← hc, eq_true q1, slc_s_hi, abR, WO_consG, wantedA_eq, wantB, evOp, ↓reduceIte, Nat.reduceEqDiff, List.nil_append, List.cons_append, List.append_nil, List.map_cons, List.map_nil, Option.map_some, Option.map_none, condW_bool, Bool.not_eq_true', decide_eq_true_eq, decide_eq_false_iff_not, decide_true, decide_false, Int.toNat_natCast, Int.ofNat_lt, Int.ofNat_le, Int.natCast_inj, Bool.false_eq_true, Bool.true_eq_false, extPV, List.getElem?_cons_zero, List.getElem?_cons_succ, nilckPV, Int.reduceToNat, Int.reduceLE, true_and, and_true, reduceCtorEq, or_false, false_or, or_true, Option.some.injEq, exists_eq_left', Bool.not_true, Bool.not_false, ne_eq, Int.reduceEq, not_true_eq_false, not_false_eq_true, Int.reduceLT, UInt8.reduceLT, UInt8.reduceLE, UInt8.reduceToNat]
        exact loopQ_intro (m := m.length - 1) (by omega) (hnext (by simp [blankC, q1]) _ rfl)
      by_cases q2 : c = 9
      · simp (maxSteps := 1000000) (disch := omega) only [h0, len_s, e1, sub_n, idx_s, ← hc, q1, eq_true q2, slc_s_hi, abR, WO_consG, wantedA_eq, wantB, evOp, ↓reduceIte, Nat.reduceEqDiff, List.nil_append, List.cons_append, List.append_nil, List.map_cons, List.map_nil, Option.map_some, Option.map_none, condW_bool, Bool.not_eq_true', decide_eq_true_eq, decide_eq_false_iff_not, decide_true, decide_false, Int.toNat_natCast, Int.ofNat_lt, Int.ofNat_le, Int.natCast_inj, Bool.false_eq_true, Bool.true_eq_false, extPV, List.getElem?_cons_zero, List.getElem?_cons_succ, nilckPV, Int.reduceToNat, Int.reduceLE, true_and, and_true, reduceCtorEq, or_false, false_or, or_true, Option.some.injEq, exists_eq_left', Bool.not_true, Bool.not_false, ne_eq, Int.reduceEq, not_true_eq_false, not_false_eq_true, Int.reduceLT, UInt8.reduceLT, UInt8.reduceLE, UInt8.reduceToNat]
        exact loopQ_intro (m := m.length - 1) (by omega) (hnext (by simp [blankC, q2]) _ rfl)
      · simp (maxSteps := 1000000) (disch := omega) only [h0, len_s, e1, sub_n, idx_s, ← hc, q1, q2, hJ, abR, WO_consG, wantedA_eq, wantB, evOp, ↓reduceIte, Nat.reduceEqDiff, List.nil_append, List.cons_append, List.append_nil, List.map_cons, List.map_nil, Option.map_some, Option.map_none, condW_bool, Bool.not_eq_true', decide_eq_true_eq, decide_eq_false_iff_not, decide_true, decide_false, Int.toNat_natCast, Int.ofNat_lt, Int.ofNat_le, Int.natCast_inj, Bool.false_eq_true, Bool.true_eq_false, extPV, List.getElem?_cons_zero, List.getElem?_cons_succ, nilckPV, Int.reduceToNat, Int.reduceLE, true_and, and_true, reduceCtorEq, or_false, false_or, or_true, Option.some.injEq, exists_eq_left', Bool.not_true, Bool.not_false, ne_eq, Int.reduceEq, not_true_eq_false, not_false_eq_true, Int.reduceLT, UInt8.reduceLT, UInt8.reduceLE, UInt8.reduceToNat]
        refine ⟨hk, ?_⟩
        unfold trimOf
        rw [← ht, rtrim_stop hlt hc (by simp [blankC, q1, q2])]
    · have e1 : ¬ (0 : Int) < (m.length : Int) := by omega
      simp (maxSteps := 1000000) (disch := omega) only [h0, len_s, e1, hJ, abR, WO_consG, wantedA_eq, wantB, evOp, ↓reduceIte, Nat.reduceEqDiff, List.nil_append, List.cons_append, List.append_nil, List.map_cons, List.map_nil, Option.map_some, Option.map_none, condW_bool, Bool.not_eq_true', decide_eq_true_eq, decide_eq_false_iff_not, decide_true, decide_false, Int.toNat_natCast, Int.ofNat_lt, Int.ofNat_le, Int.natCast_inj, Bool.false_eq_true, Bool.true_eq_false, extPV, List.getElem?_cons_zero, List.getElem?_cons_succ, nilckPV, Int.reduceToNat, Int.reduceLE, true_and, and_true, reduceCtorEq, or_false, false_or, or_true, Option.some.injEq, exists_eq_left', Bool.not_true, Bool.not_false, ne_eq, Int.reduceEq, not_true_eq_false, not_false_eq_true, Int.reduceLT, UInt8.reduceLT, UInt8.reduceLE, UInt8.reduceToNat]
      refine ⟨hk, ?_⟩
      unfold trimOf
      rw [← ht, List.length_eq_zero_iff.1 (by omega : m.length = 0)]; rfl
  clear hj
  intro e S hj
  rw [hJ] at hj
  obtain ⟨hk, h0⟩ := hj
  simp (maxSteps := 1000000) (disch := omega) only [h0, abR, WO_consG, wantedA_eq, wantB, evOp, ↓reduceIte, Nat.reduceEqDiff, List.nil_append, List.cons_append, List.append_nil, List.map_cons, List.map_nil, Option.map_some, Option.map_none, condW_bool, Bool.not_eq_true', decide_eq_true_eq, decide_eq_false_iff_not, decide_true, decide_false, Int.toNat_natCast, Int.ofNat_lt, Int.ofNat_le, Int.natCast_inj, Bool.false_eq_true, Bool.true_eq_false, extPV, List.getElem?_cons_zero, List.getElem?_cons_succ, nilckPV, Int.reduceToNat, Int.reduceLE, true_and, and_true, reduceCtorEq, or_false, false_or, or_true, Option.some.injEq, exists_eq_left', Bool.not_true, Bool.not_false, ne_eq, Int.reduceEq, not_true_eq_false, not_false_eq_true, Int.reduceLT, UInt8.reduceLT, UInt8.reduceLE, UInt8.reduceToNat]
  exact ⟨.str (trimOf l), rfl, hk.leave rfl (fun _ _ => rfl)⟩
end Go.Ab

/-
  The document's trimming; values; small letters; fields of a name, by the document.
-/
namespace Go.Ab
set_option linter.unusedVariables false
set_option linter.unusedSimpArgs false
variable {st s : St} {e : Env}

theorem getD_drop0 {l : List UInt8} {i : Nat} : (l.drop i).getD 0 0 = l.getD i 0 := by simp [List.getD]
theorem getD_mid {l : List UInt8} {i j : Nat} (h : i < j) (hj : j ≤ l.length) : ((l.take j).drop i).getD (((l.take j).drop i).length - 1) 0 = l.getD (j - 1) 0 := by
  simp only [List.getD, List.length_drop, List.length_take, Nat.min_eq_left hj, List.getElem?_drop, List.getElem?_take]
  rw [show i + (j - i - 1) = j - 1 by omega, if_pos (by omega)]

theorem rTrim_spec {l : List UInt8} (hl : l.length ≤ 100000000) : call prog (.fn 170 []) [.str l] st = some (.str (trimOf l), st) := by
  refine call_of_W prog_170 ?_
  unfold F_posthornref06_Trim; dsimp only
  obtain ⟨J, hJ⟩ : ∃ J : (Nat → Nat → Prop) → Env → St → Prop, J = fun p E S => Kept st S ∧ E 0 = .str l ∧ ∃ i j, i ≤ j ∧ j ≤ l.length ∧ E 3 = .int .i64 ((i : Nat) : Int) ∧ E 4 = .int .i64 ((j : Nat) : Int) ∧ p i j := ⟨_, rfl⟩
  refine W_cut (fun E S => Kept st S ∧ E 0 = .str l) ?_ ?_
  · simp (maxSteps := 1000000) (disch := omega) only [abR, WO_consG, wantedA_eq, wantB, evOp, ↓reduceIte, Nat.reduceEqDiff, List.nil_append, List.cons_append, List.append_nil, List.map_cons, List.map_nil, Option.map_some, Option.map_none, condW_bool, Bool.not_eq_true', decide_eq_true_eq, decide_eq_false_iff_not, decide_true, decide_false, Int.toNat_natCast, Int.ofNat_lt, Int.ofNat_le, Int.natCast_inj, Bool.false_eq_true, Bool.true_eq_false, extPV, List.getElem?_cons_zero, List.getElem?_cons_succ, nilckPV, Int.reduceToNat, Int.reduceLE, true_and, and_true, reduceCtorEq, or_false, false_or, or_true, Option.some.injEq, exists_eq_left', Bool.not_true, Bool.not_false, ne_eq, Int.reduceEq, not_true_eq_false, not_false_eq_true, Int.reduceLT, UInt8.reduceLT, UInt8.reduceLE, UInt8.reduceToNat]
    exact Kept.start
  rintro e S ⟨hk, h0⟩
  refine W_cut (J fun i j => i = 0 ∧ j = l.length) ?_ ?_
  · simp (maxSteps := 1000000) (disch := omega) only [hJ, h0, len_s, abR, WO_consG, wantedA_eq, wantB, evOp, ↓reduceIte, Nat.reduceEqDiff, List.nil_append, List.cons_append, List.append_nil, List.map_cons, List.map_nil, Option.map_some, Option.map_none, condW_bool, Bool.not_eq_true', decide_eq_true_eq, decide_eq_false_iff_not, decide_true, decide_false, Int.toNat_natCast, Int.ofNat_lt, Int.ofNat_le, Int.natCast_inj, Bool.false_eq_true, Bool.true_eq_false, extPV, List.getElem?_cons_zero, List.getElem?_cons_succ, nilckPV, Int.reduceToNat, Int.reduceLE, true_and, and_true, reduceCtorEq, or_false, false_or, or_true, Option.some.injEq, exists_eq_left', Bool.not_true, Bool.not_false, ne_eq, Int.reduceEq, not_true_eq_false, not_false_eq_true, Int.reduceLT, UInt8.reduceLT, UInt8.reduceLE, UInt8.reduceToNat]
    exact ⟨hk, 0, l.length, by omega, by omega, rfl, rfl, rfl, rfl⟩
  clear hk h0
  intro e S hj
  refine W_cut (J fun i j => j = l.length ∧ l.drop i = ltrim l) ?_ ?_
  · rw [hJ] at hj
    obtain ⟨hk, h0, i, j, -, -, h3, h4, rfl, rfl⟩ := hj
    rw [W_block]
    obtain ⟨I, hI⟩ : ∃ I : Nat → Env → St → Prop, I = fun k e s' => ∃ (i : Nat), k = l.length - i ∧ i ≤ l.length ∧ ltrim (l.drop i) = ltrim l ∧ Kept st s' ∧ e 0 = .str l ∧ e 3 = .int .i64 (i : Int) ∧ e 4 = .int .i64 (l.length : Int) := ⟨_, rfl⟩
    refine W_loop I ?_ (n := l.length) (by
      rw [hI]
      exact ⟨0, rfl, by omega, rfl, hk, h0, h3, h4⟩)
    clear hk h0 h3 h4
    intro k e s' hh
    rw [hI] at hh
    obtain ⟨i, rfl, hi, ht, hk, h0, h3, h4⟩ := hh
    by_cases hlt : i < l.length
    · obtain ⟨c, hc⟩ : ∃ c, c = l.getD i 0 := ⟨_, rfl⟩
      have hdl : 0 < (l.drop i).length := by simp; omega
      have hc2 : c = (l.drop i).getD 0 0 := by rw [getD_drop0]; exact hc
      cases hb : blankC c with
      | true =>
        simp (maxSteps := 1000000) (disch := omega) only [h0, h3, h4, hlt, idx_s, ← hc, rblank_spec, hb, add_n, abR, WO_consG, wantedA_eq, wantB, evOp, ↓reduceIte, Nat.reduceEqDiff, List.nil_append, List.cons_append, List.append_nil, List.map_cons, List.map_nil, Option.map_some, Option.map_none, condW_bool, Bool.not_eq_true', decide_eq_true_eq, decide_eq_false_iff_not, decide_true, decide_false, Int.toNat_natCast, Int.ofNat_lt, Int.ofNat_le, Int.natCast_inj, Bool.false_eq_true, Bool.true_eq_false, extPV, List.getElem?_cons_zero, List.getElem?_cons_succ, nilckPV, Int.reduceToNat, Int.reduceLE, true_and, and_true, reduceCtorEq, or_false, false_or, or_true, Option.some.injEq, exists_eq_left', Bool.not_true, Bool.not_false, ne_eq, Int.reduceEq, not_true_eq_false, not_false_eq_true, Int.reduceLT, UInt8.reduceLT, UInt8.reduceLE, UInt8.reduceToNat]
        refine loopQ_intro (m := l.length - (i + 1)) (by omega) ?_
        rw [hI]
        refine ⟨i + 1, rfl, by omega, ?_, hk, h0, rfl, h4⟩
        rw [← ht, ← ltrim_blank hdl hc2 hb, List.drop_drop]
      | false =>
        simp (maxSteps := 1000000) (disch := omega) only [h0, h3, h4, hlt, idx_s, ← hc, rblank_spec, hb, hJ, abR, WO_consG, wantedA_eq, wantB, evOp, ↓reduceIte, Nat.reduceEqDiff, List.nil_append, List.cons_append, List.append_nil, List.map_cons, List.map_nil, Option.map_some, Option.map_none, condW_bool, Bool.not_eq_true', decide_eq_true_eq, decide_eq_false_iff_not, decide_true, decide_false, Int.toNat_natCast, Int.ofNat_lt, Int.ofNat_le, Int.natCast_inj, Bool.false_eq_true, Bool.true_eq_false, extPV, List.getElem?_cons_zero, List.getElem?_cons_succ, nilckPV, Int.reduceToNat, Int.reduceLE, true_and, and_true, reduceCtorEq, or_false, false_or, or_true, Option.some.injEq, exists_eq_left', Bool.not_true, Bool.not_false, ne_eq, Int.reduceEq, not_true_eq_false, not_false_eq_true, Int.reduceLT, UInt8.reduceLT, UInt8.reduceLE, UInt8.reduceToNat]
        exact ⟨hk, i, l.length, hi, Nat.le_refl _, rfl, rfl, rfl, by rw [← ht, ltrim_stop hdl hc2 hb]⟩
    · obtain rfl : i = l.length := by omega
      simp (maxSteps := 1000000) (disch := omega) only [h0, h3, h4, hlt, hJ, abR, WO_consG, wantedA_eq, wantB, evOp, ↓reduceIte, Nat.reduceEqDiff, List.nil_append, List.cons_append, List.append_nil, List.map_cons, List.map_nil, Option.map_some, Option.map_none, condW_bool, Bool.not_eq_true', decide_eq_true_eq, decide_eq_false_iff_not, decide_true, decide_false, Int.toNat_natCast, Int.ofNat_lt, Int.ofNat_le, Int.natCast_inj, Bool.false_eq_true, Bool.true_eq_false, extPV, List.getElem?_cons_zero, List.getElem?_cons_succ, nilckPV, Int.reduceToNat, Int.reduceLE, true_and, and_true, reduceCtorEq, or_false, false_or, or_true, Option.some.injEq, exists_eq_left', Bool.not_true, Bool.not_false, ne_eq, Int.reduceEq, not_true_eq_false, not_false_eq_true, Int.reduceLT, UInt8.reduceLT, UInt8.reduceLE, UInt8.reduceToNat]
      exact ⟨hk, l.length, l.length, Nat.le_refl _, Nat.le_refl _, rfl, rfl, rfl, by rw [← ht, List.drop_length]; rfl⟩
  clear hj
  intro e S hj
  refine W_cut (J fun i j => (l.take j).drop i = trimOf l) ?_ ?_
  · rw [hJ] at hj
    obtain ⟨hk, h0, i, j, hi, -, h3, h4, rfl, hd⟩ := hj
    rw [W_block]
    obtain ⟨I, hI⟩ : ∃ I : Nat → Env → St → Prop, I = fun k e s' => ∃ (j : Nat), j = k ∧ i ≤ j ∧ j ≤ l.length ∧ rtrim ((l.take j).drop i) = rtrim (ltrim l) ∧ Kept st s' ∧ e 0 = .str l ∧ e 3 = .int .i64 (i : Int) ∧ e 4 = .int .i64 (j : Int) := ⟨_, rfl⟩
    refine W_loop I ?_ (n := l.length) (by
      rw [hI]
      exact ⟨l.length, rfl, hi, Nat.le_refl _, by rw [List.take_length, hd], hk, h0, h3, h4⟩)
    clear hk h0 h3 h4
    intro k e s' hh
    rw [hI] at hh
    obtain ⟨j, rfl, hij, hjl, ht, hk, h0, h3, h4⟩ := hh
    by_cases hlt : i < j
    · obtain ⟨c, hc⟩ : ∃ c, c = l.getD (j - 1) 0 := ⟨_, rfl⟩
      have hml : 0 < ((l.take j).drop i).length := by simp; omega
      have hmn : ((l.take j).drop i).length = j - i := by simp; omega
      have hc2 : c = ((l.take j).drop i).getD (((l.take j).drop i).length - 1) 0 := by rw [getD_mid hlt hjl]; exact hc
      cases hb : blankC c with
      | true =>
        simp (maxSteps := 1000000) (disch := omega) only [h0, h3, h4, hlt, sub_n, idx_s, ← hc, rblank_spec, hb, abR, WO_consG, wantedA_eq, wantB, evOp, ↓reduceIte, Nat.reduceEqDiff, List.nil_append, List.cons_append, List.append_nil, List.map_cons, List.map_nil, Option.map_some, Option.map_none, condW_bool, Bool.not_eq_true', decide_eq_true_eq, decide_eq_false_iff_not, decide_true, decide_false, Int.toNat_natCast, Int.ofNat_lt, Int.ofNat_le, Int.natCast_inj, Bool.false_eq_true, Bool.true_eq_false, extPV, List.getElem?_cons_zero, List.getElem?_cons_succ, nilckPV, Int.reduceToNat, Int.reduceLE, true_and, and_true, reduceCtorEq, or_false, false_or, or_true, Option.some.injEq, exists_eq_left', Bool.not_true, Bool.not_false, ne_eq, Int.reduceEq, not_true_eq_false, not_false_eq_true, Int.reduceLT, UInt8.reduceLT, UInt8.reduceLE, UInt8.reduceToNat]
        refine loopQ_intro (m := j - 1) (by omega) ?_
        rw [hI]
        refine ⟨j - 1, rfl, by omega, by omega, ?_, hk, h0, h3, rfl⟩
        rw [← ht, ← rtrim_blank hml hc2 hb, hmn]
        congr 1
        rw [List.drop_take, List.drop_take, List.take_take]
        congr 1; omega
      | false =>
        simp (maxSteps := 1000000) (disch := omega) only [h0, h3, h4, hlt, sub_n, idx_s, ← hc, rblank_spec, hb, hJ, abR, WO_consG, wantedA_eq, wantB, evOp, ↓reduceIte, Nat.reduceEqDiff, List.nil_append, List.cons_append, List.append_nil, List.map_cons, List.map_nil, Option.map_some, Option.map_none, condW_bool, Bool.not_eq_true', decide_eq_true_eq, decide_eq_false_iff_not, decide_true, decide_false, Int.toNat_natCast, Int.ofNat_lt, Int.ofNat_le, Int.natCast_inj, Bool.false_eq_true, Bool.true_eq_false, extPV, List.getElem?_cons_zero, List.getElem?_cons_succ, nilckPV, Int.reduceToNat, Int.reduceLE, true_and, and_true, reduceCtorEq, or_false, false_or, or_true, Option.some.injEq, exists_eq_left', Bool.not_true, Bool.not_false, ne_eq, Int.reduceEq, not_true_eq_false, not_false_eq_true, Int.reduceLT, UInt8.reduceLT, UInt8.reduceLE, UInt8.reduceToNat]
        exact ⟨hk, i, j, hij, hjl, rfl, rfl, by unfold trimOf; rw [← ht, rtrim_stop hml hc2 hb]⟩
    · obtain rfl : i = j := by omega
      simp (maxSteps := 1000000) (disch := omega) only [h0, h3, h4, hlt, hJ, abR, WO_consG, wantedA_eq, wantB, evOp, ↓reduceIte, Nat.reduceEqDiff, List.nil_append, List.cons_append, List.append_nil, List.map_cons, List.map_nil, Option.map_some, Option.map_none, condW_bool, Bool.not_eq_true', decide_eq_true_eq, decide_eq_false_iff_not, decide_true, decide_false, Int.toNat_natCast, Int.ofNat_lt, Int.ofNat_le, Int.natCast_inj, Bool.false_eq_true, Bool.true_eq_false, extPV, List.getElem?_cons_zero, List.getElem?_cons_succ, nilckPV, Int.reduceToNat, Int.reduceLE, true_and, and_true, reduceCtorEq, or_false, false_or, or_true, Option.some.injEq, exists_eq_left', Bool.not_true, Bool.not_false, ne_eq, Int.reduceEq, not_true_eq_false, not_false_eq_true, Int.reduceLT, UInt8.reduceLT, UInt8.reduceLE, UInt8.reduceToNat]
      refine ⟨hk, i, i, Nat.le_refl _, hjl, rfl, rfl, ?_⟩
      have hz : (l.take i).drop i = [] := by simp
      unfold trimOf
      rw [← ht, hz]; rfl
  clear hj
  intro e S hj
  rw [hJ] at hj
  obtain ⟨hk, h0, i, j, hij, hjl, h3, h4, hd⟩ := hj
  simp (maxSteps := 1000000) (disch := omega) only [h0, h3, h4, slc_s, hd, abR, WO_consG, wantedA_eq, wantB, evOp, ↓reduceIte, Nat.reduceEqDiff, List.nil_append, List.cons_append, List.append_nil, List.map_cons, List.map_nil, Option.map_some, Option.map_none, condW_bool, Bool.not_eq_true', decide_eq_true_eq, decide_eq_false_iff_not, decide_true, decide_false, Int.toNat_natCast, Int.ofNat_lt, Int.ofNat_le, Int.natCast_inj, Bool.false_eq_true, Bool.true_eq_false, extPV, List.getElem?_cons_zero, List.getElem?_cons_succ, nilckPV, Int.reduceToNat, Int.reduceLE, true_and, and_true, reduceCtorEq, or_false, false_or, or_true, Option.some.injEq, exists_eq_left', Bool.not_true, Bool.not_false, ne_eq, Int.reduceEq, not_true_eq_false, not_false_eq_true, Int.reduceLT, UInt8.reduceLT, UInt8.reduceLE, UInt8.reduceToNat]
  exact ⟨.str (trimOf l), rfl, hk.leave rfl (fun _ _ => rfl)⟩
end Go.Ab

/-
  Values of fields; small letters and fields of a name, by the document.
-/
namespace Go.Ab
set_option linter.unusedVariables false
set_option linter.unusedSimpArgs false
variable {st s : St} {e : Env}

def valC (c : UInt8) : Bool := decide (c = 9) || (!decide (c < 32) && !decide (126 < c))
def valB (l : List UInt8) : Bool := l.all valC && decide (l.length ≤ 4096) && decide (trimOf l = l)

theorem isValue_spec {l : List UInt8} (hl : l.length ≤ 100000000) : call prog (.fn 158 []) [.str l] st = some (.bool (valB l), st) := by
  refine call_of_W prog_158 ?_
  unfold F_fields_isValue; dsimp only
  simp (maxSteps := 1000000) (disch := omega) only [len_s, abR, WO_consG, wantedA_eq, wantB, evOp, ↓reduceIte, Nat.reduceEqDiff, List.nil_append, List.cons_append, List.append_nil, List.map_cons, List.map_nil, Option.map_some, Option.map_none, condW_bool, Bool.not_eq_true', decide_eq_true_eq, decide_eq_false_iff_not, decide_true, decide_false, Int.toNat_natCast, Int.ofNat_lt, Int.ofNat_le, Int.natCast_inj, Bool.false_eq_true, Bool.true_eq_false, extPV, List.getElem?_cons_zero, List.getElem?_cons_succ, nilckPV, Int.reduceToNat, Int.reduceLE, true_and, and_true, reduceCtorEq, or_false, false_or, or_true, Option.some.injEq, exists_eq_left', Bool.not_true, Bool.not_false, ne_eq, Int.reduceEq, not_true_eq_false, not_false_eq_true, Int.reduceLT, UInt8.reduceLT, UInt8.reduceLE, UInt8.reduceToNat]
  obtain ⟨I, hI⟩ : ∃ I : Nat → Env → St → Prop, I = fun k e s' => ∃ (i : Nat), k = l.length - i ∧ i ≤ l.length ∧ Kept st s' ∧ (∀ j, j < i → valC (l.getD j 0) = true) ∧ e 0 = .str l ∧ e 5 = .int .i64 (l.length : Int) ∧ e 6 = .int .i64 (i : Int) := ⟨_, rfl⟩
  refine W_loop I ?_ (n := l.length) (by
    rw [hI]
    exact ⟨0, rfl, by omega, Kept.start, fun j h => by omega, rfl, rfl, rfl⟩)
  intro k e s' hh
  rw [hI] at hh
  obtain ⟨i, rfl, hi, hk, hall, h0, h5, h6⟩ := hh
  by_cases hlt : i < l.length
  · obtain ⟨c, hc⟩ : ∃ c, c = l.getD i 0 := ⟨_, rfl⟩
    have bad : valC c = false → ∀ E : Env, E 2 = .bool false → ∃ rv, resOf E s' [.tmp 2] = some rv ∧ leave st s' rv = (.bool (valB l), st) := fun h E k2 =>
      ⟨.bool false, by simp [resOf, rvAll, rv1, k2, notTup, packRes], by
        rw [show valB l = false by simp only [valB, all_bad (p := valC) hlt (by rw [← hc]; exact h), Bool.false_and]]
        exact hk.leave rfl (fun _ _ => rfl)⟩
    have good : valC c = true → ∀ E : Env, E 0 = .str l → E 5 = .int .i64 (l.length : Int) → E 6 = .int .i64 ((i + 1 : Nat) : Int) → I (l.length - (i + 1)) E s' := fun h E k0 k5 k6 => by
      rw [hI]
      refine ⟨i + 1, rfl, by omega, hk, fun j hj => ?_, k0, k5, k6⟩
      by_cases hji : j = i
      · subst hji; rw [← hc]; exact h
      · exact hall j (by omega)
    by_cases q3 : c = 9
    · simp (maxSteps := 1000000) (disch := omega) only [h0, h5, h6, hlt, idx_s, ← hc, eq_true q3, add_n, abR, WO_consG, wantedA_eq, wantB, evOp, ↓reduceIte, Nat.reduceEqDiff, List.nil_append, List.cons_append, List.append_nil, List.map_cons, List.map_nil, Option.map_some, Option.map_none, condW_bool, Bool.not_eq_true', decide_eq_true_eq, decide_eq_false_iff_not, decide_true, decide_false, Int.toNat_natCast, Int.ofNat_lt, Int.ofNat_le, Int.natCast_inj, Bool.false_eq_true, Bool.true_eq_false, extPV, List.getElem?_cons_zero, List.getElem?_cons_succ, nilckPV, Int.reduceToNat, Int.reduceLE, true_and, and_true, reduceCtorEq, or_false, false_or, or_true, Option.some.injEq, exists_eq_left', Bool.not_true, Bool.not_false, ne_eq, Int.reduceEq, not_true_eq_false, not_false_eq_true, Int.reduceLT, UInt8.reduceLT, UInt8.reduceLE, UInt8.reduceToNat]
      exact loopQ_intro (m := l.length - (i + 1)) (by omega) (good (by simp [valC, q3]) _ h0 h5 rfl)
    by_cases q1 : c < 32
    · simp (maxSteps := 1000000) (disch := omega) only [h0, h5, h6, hlt, idx_s, ← hc, q3, eq_true q1, abR, WO_consG, wantedA_eq, wantB, evOp, ↓reduceIte, Nat.reduceEqDiff, List.nil_append, List.cons_append, List.append_nil, List.map_cons, List.map_nil, Option.map_some, Option.map_none, condW_bool, Bool.not_eq_true', decide_eq_true_eq, decide_eq_false_iff_not, decide_true, decide_false, Int.toNat_natCast, Int.ofNat_lt, Int.ofNat_le, Int.natCast_inj, Bool.false_eq_true, Bool.true_eq_false, extPV, List.getElem?_cons_zero, List.getElem?_cons_succ, nilckPV, Int.reduceToNat, Int.reduceLE, true_and, and_true, reduceCtorEq, or_false, false_or, or_true, Option.some.injEq, exists_eq_left', Bool.not_true, Bool.not_false, ne_eq, Int.reduceEq, not_true_eq_false, not_false_eq_true, Int.reduceLT, UInt8.reduceLT, UInt8.reduceLE, UInt8.reduceToNat]
      exact bad (by simp [valC, q1, q3]) _ rfl
    by_cases q2 : 126 < c
    · simp (maxSteps := 1000000) (disch := omega) only [h0, h5, h6, hlt, idx_s, ← hc, q3, q1, eq_true q2, abR, WO_consG, wantedA_eq, wantB, evOp, ↓reduceIte, Nat.reduceEqDiff, List.nil_append, List.cons_append, List.append_nil, List.map_cons, List.map_nil, Option.map_some, Option.map_none, condW_bool, Bool.not_eq_true', decide_eq_true_eq, decide_eq_false_iff_not, decide_true, decide_false, Int.toNat_natCast, Int.ofNat_lt, Int.ofNat_le, Int.natCast_inj, Bool.false_eq_true, Bool.true_eq_false, extPV, List.getElem?_cons_zero, List.getElem?_cons_succ, nilckPV, Int.reduceToNat, Int.reduceLE, true_and, and_true, reduceCtorEq, or_false, false_or, or_true, Option.some.injEq, exists_eq_left', Bool.not_true, Bool.not_false, ne_eq, Int.reduceEq, not_true_eq_false, not_false_eq_true, Int.reduceLT, UInt8.reduceLT, UInt8.reduceLE, UInt8.reduceToNat]
      exact bad (by simp [valC, q2, q3]) _ rfl
    · simp (maxSteps := 1000000) (disch := omega) only [h0, h5, h6, hlt, idx_s, ← hc, q1, q2, q3, add_n, abR, WO_consG, wantedA_eq, wantB, evOp, ↓reduceIte, Nat.reduceEqDiff, List.nil_append, List.cons_append, List.append_nil, List.map_cons, List.map_nil, Option.map_some, Option.map_none, condW_bool, Bool.not_eq_true', decide_eq_true_eq, decide_eq_false_iff_not, decide_true, decide_false, Int.toNat_natCast, Int.ofNat_lt, Int.ofNat_le, Int.natCast_inj, Bool.false_eq_true, Bool.true_eq_false, extPV, List.getElem?_cons_zero, List.getElem?_cons_succ, nilckPV, Int.reduceToNat, Int.reduceLE, true_and, and_true, reduceCtorEq, or_false, false_or, or_true, Option.some.injEq, exists_eq_left', Bool.not_true, Bool.not_false, ne_eq, Int.reduceEq, not_true_eq_false, not_false_eq_true, Int.reduceLT, UInt8.reduceLT, UInt8.reduceLE, UInt8.reduceToNat]
      exact loopQ_intro (m := l.length - (i + 1)) (by omega) (good (by simp [valC, q1, q2]) _ h0 h5 rfl)
  · obtain rfl : i = l.length := by omega
    have ha := all_getD (p := valC) hall
    by_cases g1 : l.length ≤ 4096
    · have e1 : (l.length : Int) ≤ 4096 := by omega
      simp (maxSteps := 1000000) (disch := omega) only [h0, h5, h6, hlt, len_s, e1, trim_spec hl, abR, WO_consG, wantedA_eq, wantB, evOp, ↓reduceIte, Nat.reduceEqDiff, List.nil_append, List.cons_append, List.append_nil, List.map_cons, List.map_nil, Option.map_some, Option.map_none, condW_bool, Bool.not_eq_true', decide_eq_true_eq, decide_eq_false_iff_not, decide_true, decide_false, Int.toNat_natCast, Int.ofNat_lt, Int.ofNat_le, Int.natCast_inj, Bool.false_eq_true, Bool.true_eq_false, extPV, List.getElem?_cons_zero, List.getElem?_cons_succ, nilckPV, Int.reduceToNat, Int.reduceLE, true_and, and_true, reduceCtorEq, or_false, false_or, or_true, Option.some.injEq, exists_eq_left', Bool.not_true, Bool.not_false, ne_eq, Int.reduceEq, not_true_eq_false, not_false_eq_true, Int.reduceLT, UInt8.reduceLT, UInt8.reduceLE, UInt8.reduceToNat]
      refine ⟨.bool (decide (trimOf l = l)), rfl, ?_⟩
      rw [show valB l = decide (trimOf l = l) by simp [valB, ha, g1]]
      exact hk.leave rfl (fun _ _ => rfl)
    · have e1 : ¬ (l.length : Int) ≤ 4096 := by omega
      simp (maxSteps := 1000000) (disch := omega) only [h0, h5, h6, hlt, len_s, e1, abR, WO_consG, wantedA_eq, wantB, evOp, ↓reduceIte, Nat.reduceEqDiff, List.nil_append, List.cons_append, List.append_nil, List.map_cons, List.map_nil, Option.map_some, Option.map_none, condW_bool, Bool.not_eq_true', decide_eq_true_eq, decide_eq_false_iff_not, decide_true, decide_false, Int.toNat_natCast, Int.ofNat_lt, Int.ofNat_le, Int.natCast_inj, Bool.false_eq_true, Bool.true_eq_false, extPV, List.getElem?_cons_zero, List.getElem?_cons_succ, nilckPV, Int.reduceToNat, Int.reduceLE, true_and, and_true, reduceCtorEq, or_false, false_or, or_true, Option.some.injEq, exists_eq_left', Bool.not_true, Bool.not_false, ne_eq, Int.reduceEq, not_true_eq_false, not_false_eq_true, Int.reduceLT, UInt8.reduceLT, UInt8.reduceLE, UInt8.reduceToNat]
      refine ⟨.bool false, rfl, ?_⟩
      rw [show valB l = false by simp [valB, g1]]
      exact hk.leave rfl (fun _ _ => rfl)

theorem rValue_spec {l : List UInt8} (hl : l.length ≤ 100000000) : call prog (.fn 161 []) [.str l] st = some (.bool (valB l), st) := by
  refine call_of_W prog_161 ?_
  unfold F_posthornref06_Value; dsimp only
  simp (maxSteps := 1000000) (disch := omega) only [len_s, abR, WO_consG, wantedA_eq, wantB, evOp, ↓reduceIte, Nat.reduceEqDiff, List.nil_append, List.cons_append, List.append_nil, List.map_cons, List.map_nil, Option.map_some, Option.map_none, condW_bool, Bool.not_eq_true', decide_eq_true_eq, decide_eq_false_iff_not, decide_true, decide_false, Int.toNat_natCast, Int.ofNat_lt, Int.ofNat_le, Int.natCast_inj, Bool.false_eq_true, Bool.true_eq_false, extPV, List.getElem?_cons_zero, List.getElem?_cons_succ, nilckPV, Int.reduceToNat, Int.reduceLE, true_and, and_true, reduceCtorEq, or_false, false_or, or_true, Option.some.injEq, exists_eq_left', Bool.not_true, Bool.not_false, ne_eq, Int.reduceEq, not_true_eq_false, not_false_eq_true, Int.reduceLT, UInt8.reduceLT, UInt8.reduceLE, UInt8.reduceToNat]
  obtain ⟨I, hI⟩ : ∃ I : Nat → Env → St → Prop, I = fun k e s' => ∃ (i : Nat), k = l.length - i ∧ i ≤ l.length ∧ Kept st s' ∧ (∀ j, j < i → valC (l.getD j 0) = true) ∧ e 0 = .str l ∧ e 3 = .int .i64 (i : Int) := ⟨_, rfl⟩
  refine W_loop I ?_ (n := l.length) (by
    rw [hI]
    exact ⟨0, rfl, by omega, Kept.start, fun j h => by omega, rfl, rfl⟩)
  intro k e s' hh
  rw [hI] at hh
  obtain ⟨i, rfl, hi, hk, hall, h0, h3⟩ := hh
  by_cases hlt : i < l.length
  · obtain ⟨c, hc⟩ : ∃ c, c = l.getD i 0 := ⟨_, rfl⟩
    have bad : valC c = false → ∀ E : Env, E 2 = .bool false → ∃ rv, resOf E s' [.tmp 2] = some rv ∧ leave st s' rv = (.bool (valB l), st) := fun h E k2 =>
      ⟨.bool false, by simp [resOf, rvAll, rv1, k2, notTup, packRes], by
        rw [show valB l = false by simp only [valB, all_bad (p := valC) hlt (by rw [← hc]; exact h), Bool.false_and]]
        exact hk.leave rfl (fun _ _ => rfl)⟩
    have good : valC c = true → ∀ E : Env, E 0 = .str l → E 3 = .int .i64 ((i + 1 : Nat) : Int) → I (l.length - (i + 1)) E s' := fun h E k0 k6 => by
      rw [hI]
      refine ⟨i + 1, rfl, by omega, hk, fun j hj => ?_, k0, k6⟩
      by_cases hji : j = i
      · subst hji; rw [← hc]; exact h
      · exact hall j (by omega)
    by_cases q1 : c < 32
    · by_cases q3 : c = 9
      · simp (maxSteps := 1000000) (disch := omega) only [h0, h3, len_s, hlt, idx_s, ← hc, eq_true q1, eq_true q3, add_n, abR, WO_consG, wantedA_eq, wantB, evOp, ↓reduceIte, Nat.reduceEqDiff, List.nil_append, List.cons_append, List.append_nil, List.map_cons, List.map_nil, Option.map_some, Option.map_none, condW_bool, Bool.not_eq_true', decide_eq_true_eq, decide_eq_false_iff_not, decide_true, decide_false, Int.toNat_natCast, Int.ofNat_lt, Int.ofNat_le, Int.natCast_inj, Bool.false_eq_true, Bool.true_eq_false, extPV, List.getElem?_cons_zero, List.getElem?_cons_succ, nilckPV, Int.reduceToNat, Int.reduceLE, true_and, and_true, reduceCtorEq, or_false, false_or, or_true, Option.some.injEq, exists_eq_left', Bool.not_true, Bool.not_false, ne_eq, Int.reduceEq, not_true_eq_false, not_false_eq_true, Int.reduceLT, UInt8.reduceLT, UInt8.reduceLE, UInt8.reduceToNat]
        exact loopQ_intro (m := l.length - (i + 1)) (by omega) (good (by simp [valC, q3]) _ h0 rfl)
      · simp (maxSteps := 1000000) (disch := omega) only [h0, h3, len_s, hlt, idx_s, ← hc, q3, eq_true q1, abR, WO_consG, wantedA_eq, wantB, evOp, ↓reduceIte, Nat.reduceEqDiff, List.nil_append, List.cons_append, List.append_nil, List.map_cons, List.map_nil, Option.map_some, Option.map_none, condW_bool, Bool.not_eq_true', decide_eq_true_eq, decide_eq_false_iff_not, decide_true, decide_false, Int.toNat_natCast, Int.ofNat_lt, Int.ofNat_le, Int.natCast_inj, Bool.false_eq_true, Bool.true_eq_false, extPV, List.getElem?_cons_zero, List.getElem?_cons_succ, nilckPV, Int.reduceToNat, Int.reduceLE, true_and, and_true, reduceCtorEq, or_false, false_or, or_true, Option.some.injEq, exists_eq_left', Bool.not_true, Bool.not_false, ne_eq, Int.reduceEq, not_true_eq_false, not_false_eq_true, Int.reduceLT, UInt8.reduceLT, UInt8.reduceLE, UInt8.reduceToNat]
        exact bad (by simp [valC, q1, q3]) _ rfl
    by_cases q2 : 126 < c
    · have q3 : ¬ c = 9 := by rintro rfl; exact absurd q2 (by decide)
      simp (maxSteps := 1000000) (disch := omega) only [h0, h3, len_s, hlt, idx_s, ← hc, q3, q1, eq_true q2, abR, WO_consG, wantedA_eq, wantB, evOp, ↓reduceIte, Nat.reduceEqDiff, List.nil_append, List.cons_append, List.append_nil, List.map_cons, List.map_nil, Option.map_some, Option.map_none, condW_bool, Bool.not_eq_true', decide_eq_true_eq, decide_eq_false_iff_not, decide_true, decide_false, Int.toNat_natCast, Int.ofNat_lt, Int.ofNat_le, Int.natCast_inj, Bool.false_eq_true, Bool.true_eq_false, extPV, List.getElem?_cons_zero, List.getElem?_cons_succ, nilckPV, Int.reduceToNat, Int.reduceLE, true_and, and_true, reduceCtorEq, or_false, false_or, or_true, Option.some.injEq, exists_eq_left', Bool.not_true, Bool.not_false, ne_eq, Int.reduceEq, not_true_eq_false, not_false_eq_true, Int.reduceLT, UInt8.reduceLT, UInt8.reduceLE, UInt8.reduceToNat]
      exact bad (by simp [valC, q2, q3]) _ rfl
    · simp (maxSteps := 1000000) (disch := omega) only [h0, h3, len_s, hlt, idx_s, ← hc, q1, q2, add_n, abR, WO_consG, wantedA_eq, wantB, evOp, ↓reduceIte, Nat.reduceEqDiff, List.nil_append, List.cons_append, List.append_nil, List.map_cons, List.map_nil, Option.map_some, Option.map_none, condW_bool, Bool.not_eq_true', decide_eq_true_eq, decide_eq_false_iff_not, decide_true, decide_false, Int.toNat_natCast, Int.ofNat_lt, Int.ofNat_le, Int.natCast_inj, Bool.false_eq_true, Bool.true_eq_false, extPV, List.getElem?_cons_zero, List.getElem?_cons_succ, nilckPV, Int.reduceToNat, Int.reduceLE, true_and, and_true, reduceCtorEq, or_false, false_or, or_true, Option.some.injEq, exists_eq_left', Bool.not_true, Bool.not_false, ne_eq, Int.reduceEq, not_true_eq_false, not_false_eq_true, Int.reduceLT, UInt8.reduceLT, UInt8.reduceLE, UInt8.reduceToNat]
      exact loopQ_intro (m := l.length - (i + 1)) (by omega) (good (by simp [valC, q1, q2]) _ h0 rfl)
  · obtain rfl : i = l.length := by omega
    have ha := all_getD (p := valC) hall
    by_cases g1 : l.length ≤ 4096
    · have e1 : (l.length : Int) ≤ 4096 := by omega
      simp (maxSteps := 1000000) (disch := omega) only [h0, h3, hlt, len_s, e1, rTrim_spec hl, abR, WO_consG, wantedA_eq, wantB, evOp, ↓reduceIte, Nat.reduceEqDiff, List.nil_append, List.cons_append, List.append_nil, List.map_cons, List.map_nil, Option.map_some, Option.map_none, condW_bool, Bool.not_eq_true', decide_eq_true_eq, decide_eq_false_iff_not, decide_true, decide_false, Int.toNat_natCast, Int.ofNat_lt, Int.ofNat_le, Int.natCast_inj, Bool.false_eq_true, Bool.true_eq_false, extPV, List.getElem?_cons_zero, List.getElem?_cons_succ, nilckPV, Int.reduceToNat, Int.reduceLE, true_and, and_true, reduceCtorEq, or_false, false_or, or_true, Option.some.injEq, exists_eq_left', Bool.not_true, Bool.not_false, ne_eq, Int.reduceEq, not_true_eq_false, not_false_eq_true, Int.reduceLT, UInt8.reduceLT, UInt8.reduceLE, UInt8.reduceToNat]
      refine ⟨.bool (decide (trimOf l = l)), rfl, ?_⟩
      rw [show valB l = decide (trimOf l = l) by simp [valB, ha, g1]]
      exact hk.leave rfl (fun _ _ => rfl)
    · have e1 : ¬ (l.length : Int) ≤ 4096 := by omega
      simp (maxSteps := 1000000) (disch := omega) only [h0, h3, hlt, len_s, e1, abR, WO_consG, wantedA_eq, wantB, evOp, ↓reduceIte, Nat.reduceEqDiff, List.nil_append, List.cons_append, List.append_nil, List.map_cons, List.map_nil, Option.map_some, Option.map_none, condW_bool, Bool.not_eq_true', decide_eq_true_eq, decide_eq_false_iff_not, decide_true, decide_false, Int.toNat_natCast, Int.ofNat_lt, Int.ofNat_le, Int.natCast_inj, Bool.false_eq_true, Bool.true_eq_false, extPV, List.getElem?_cons_zero, List.getElem?_cons_succ, nilckPV, Int.reduceToNat, Int.reduceLE, true_and, and_true, reduceCtorEq, or_false, false_or, or_true, Option.some.injEq, exists_eq_left', Bool.not_true, Bool.not_false, ne_eq, Int.reduceEq, not_true_eq_false, not_false_eq_true, Int.reduceLT, UInt8.reduceLT, UInt8.reduceLE, UInt8.reduceToNat]
      refine ⟨.bool false, rfl, ?_⟩
      rw [show valB l = false by simp [valB, g1]]
      exact hk.leave rfl (fun _ _ => rfl)

theorem lowOf_take {l : List UInt8} {i : Nat} (h : i < l.length) : lowOf (l.take (i + 1)) = lowOf (l.take i) ++ [lowC (l.getD i 0)] := by
  rw [take_getD h]; simp [lowOf]

theorem rLower_spec {l : List UInt8} (hl : l.length ≤ 100000000) : call prog (.fn 114 []) [.str l] st = some (.str (lowOf l), st) := by
  refine call_of_W prog_114 ?_
  unfold F_posthornref04_Lower; dsimp only
  simp (maxSteps := 1000000) (disch := omega) only [len_s, abR, WO_consG, wantedA_eq, wantB, evOp, ↓reduceIte, Nat.reduceEqDiff, List.nil_append, List.cons_append, List.append_nil, List.map_cons, List.map_nil, Option.map_some, Option.map_none, condW_bool, Bool.not_eq_true', decide_eq_true_eq, decide_eq_false_iff_not, decide_true, decide_false, Int.toNat_natCast, Int.ofNat_lt, Int.ofNat_le, Int.natCast_inj, Bool.false_eq_true, Bool.true_eq_false, extPV, List.getElem?_cons_zero, List.getElem?_cons_succ, nilckPV, Int.reduceToNat, Int.reduceLE, true_and, and_true, reduceCtorEq, or_false, false_or, or_true, Option.some.injEq, exists_eq_left', Bool.not_true, Bool.not_false, ne_eq, Int.reduceEq, not_true_eq_false, not_false_eq_true, Int.reduceLT, UInt8.reduceLT, UInt8.reduceLE, UInt8.reduceToNat]
  obtain ⟨I, hI⟩ : ∃ I : Nat → Env → St → Prop, I = fun k e s' => ∃ (i : Nat) (v : PV), k = l.length - i ∧ i ≤ l.length ∧ Kept st s' ∧ Mine st s' v (lowOf (l.take i)) ∧ e 0 = .str l ∧ e 3 = v ∧ e 4 = .int .i64 (i : Int) := ⟨_, rfl⟩
  refine W_loop I ?_ (n := l.length) (by
    rw [hI]
    exact ⟨0, .nils, rfl, by omega, Kept.start, Mine.nil, rfl, rfl, rfl⟩)
  intro k e s' hh
  rw [hI] at hh
  obtain ⟨i, v, rfl, hi, hk, hm, h0, h3, h4⟩ := hh
  by_cases hlt : i < l.length
  · obtain ⟨c, hc⟩ : ∃ c, c = l.getD i 0 := ⟨_, rfl⟩
    have hlow := lowOf_take hlt
    rw [← hc] at hlow
    obtain ⟨y, s2, a1, k1, k2⟩ := hk.push (c := lowC c) hm (by simp [room, lowOf]; omega)
    have hnext : ∀ E : Env, E 0 = .str l → E 3 = y → E 4 = .int .i64 ((i + 1 : Nat) : Int) → I (l.length - (i + 1)) E s2 := fun E q0 q3 q4 => by
      rw [hI]; exact ⟨i + 1, y, rfl, by omega, k1, by rw [hlow]; exact k2, q0, q3, q4⟩
    by_cases h65 : 65 ≤ c
    · by_cases h90 : c ≤ 90
      · rw [show lowC c = c + 32 by simp [lowC, h65, h90]] at a1
        simp (maxSteps := 1000000) (disch := omega) only [h0, h3, h4, len_s, hlt, idx_s, ← hc, h65, h90, add_8, lit8_1, freshT_eq, a1, add_n, abR, WO_consG, wantedA_eq, wantB, evOp, ↓reduceIte, Nat.reduceEqDiff, List.nil_append, List.cons_append, List.append_nil, List.map_cons, List.map_nil, Option.map_some, Option.map_none, condW_bool, Bool.not_eq_true', decide_eq_true_eq, decide_eq_false_iff_not, decide_true, decide_false, Int.toNat_natCast, Int.ofNat_lt, Int.ofNat_le, Int.natCast_inj, Bool.false_eq_true, Bool.true_eq_false, extPV, List.getElem?_cons_zero, List.getElem?_cons_succ, nilckPV, Int.reduceToNat, Int.reduceLE, true_and, and_true, reduceCtorEq, or_false, false_or, or_true, Option.some.injEq, exists_eq_left', Bool.not_true, Bool.not_false, ne_eq, Int.reduceEq, not_true_eq_false, not_false_eq_true, Int.reduceLT, UInt8.reduceLT, UInt8.reduceLE, UInt8.reduceToNat]
        exact loopQ_intro (m := l.length - (i + 1)) (by omega) (hnext _ h0 rfl rfl)
      · rw [show lowC c = c by simp [lowC, h90]] at a1
        simp (maxSteps := 1000000) (disch := omega) only [h0, h3, h4, len_s, hlt, idx_s, ← hc, h65, h90, lit8_1, freshT_eq, a1, add_n, abR, WO_consG, wantedA_eq, wantB, evOp, ↓reduceIte, Nat.reduceEqDiff, List.nil_append, List.cons_append, List.append_nil, List.map_cons, List.map_nil, Option.map_some, Option.map_none, condW_bool, Bool.not_eq_true', decide_eq_true_eq, decide_eq_false_iff_not, decide_true, decide_false, Int.toNat_natCast, Int.ofNat_lt, Int.ofNat_le, Int.natCast_inj, Bool.false_eq_true, Bool.true_eq_false, extPV, List.getElem?_cons_zero, List.getElem?_cons_succ, nilckPV, Int.reduceToNat, Int.reduceLE, true_and, and_true, reduceCtorEq, or_false, false_or, or_true, Option.some.injEq, exists_eq_left', Bool.not_true, Bool.not_false, ne_eq, Int.reduceEq, not_true_eq_false, not_false_eq_true, Int.reduceLT, UInt8.reduceLT, UInt8.reduceLE, UInt8.reduceToNat]
        exact loopQ_intro (m := l.length - (i + 1)) (by omega) (hnext _ h0 rfl rfl)
    · rw [show lowC c = c by simp [lowC, h65]] at a1
      simp (maxSteps := 1000000) (disch := omega) only [h0, h3, h4, len_s, hlt, idx_s, ← hc, h65, lit8_1, freshT_eq, a1, add_n, abR, WO_consG, wantedA_eq, wantB, evOp, ↓reduceIte, Nat.reduceEqDiff, List.nil_append, List.cons_append, List.append_nil, List.map_cons, List.map_nil, Option.map_some, Option.map_none, condW_bool, Bool.not_eq_true', decide_eq_true_eq, decide_eq_false_iff_not, decide_true, decide_false, Int.toNat_natCast, Int.ofNat_lt, Int.ofNat_le, Int.natCast_inj, Bool.false_eq_true, Bool.true_eq_false, extPV, List.getElem?_cons_zero, List.getElem?_cons_succ, nilckPV, Int.reduceToNat, Int.reduceLE, true_and, and_true, reduceCtorEq, or_false, false_or, or_true, Option.some.injEq, exists_eq_left', Bool.not_true, Bool.not_false, ne_eq, Int.reduceEq, not_true_eq_false, not_false_eq_true, Int.reduceLT, UInt8.reduceLT, UInt8.reduceLE, UInt8.reduceToNat]
      exact loopQ_intro (m := l.length - (i + 1)) (by omega) (hnext _ h0 rfl rfl)
  · obtain rfl : i = l.length := by omega
    rw [List.take_length] at hm
    simp (maxSteps := 1000000) (disch := omega) only [h0, h3, h4, len_s, hlt, b2s_by hm.by, abR, WO_consG, wantedA_eq, wantB, evOp, ↓reduceIte, Nat.reduceEqDiff, List.nil_append, List.cons_append, List.append_nil, List.map_cons, List.map_nil, Option.map_some, Option.map_none, condW_bool, Bool.not_eq_true', decide_eq_true_eq, decide_eq_false_iff_not, decide_true, decide_false, Int.toNat_natCast, Int.ofNat_lt, Int.ofNat_le, Int.natCast_inj, Bool.false_eq_true, Bool.true_eq_false, extPV, List.getElem?_cons_zero, List.getElem?_cons_succ, nilckPV, Int.reduceToNat, Int.reduceLE, true_and, and_true, reduceCtorEq, or_false, false_or, or_true, Option.some.injEq, exists_eq_left', Bool.not_true, Bool.not_false, ne_eq, Int.reduceEq, not_true_eq_false, not_false_eq_true, Int.reduceLT, UInt8.reduceLT, UInt8.reduceLE, UInt8.reduceToNat]
    exact ⟨.str (lowOf l), rfl, hk.leave rfl (fun _ _ => rfl)⟩

theorem rSame_spec {a b : List UInt8} (ha : a.length ≤ 100000000) (hb : b.length ≤ 100000000) : call prog (.fn 163 []) [.str a, .str b] st = some (.bool (decide (lowOf a = lowOf b)), st) := by
  refine call_of_W prog_163 ?_
  unfold F_posthornref06_Same; dsimp only
  simp (maxSteps := 1000000) (disch := omega) only [rLower_spec ha, rLower_spec hb, abR, WO_consG, wantedA_eq, wantB, evOp, ↓reduceIte, Nat.reduceEqDiff, List.nil_append, List.cons_append, List.append_nil, List.map_cons, List.map_nil, Option.map_some, Option.map_none, condW_bool, Bool.not_eq_true', decide_eq_true_eq, decide_eq_false_iff_not, decide_true, decide_false, Int.toNat_natCast, Int.ofNat_lt, Int.ofNat_le, Int.natCast_inj, Bool.false_eq_true, Bool.true_eq_false, extPV, List.getElem?_cons_zero, List.getElem?_cons_succ, nilckPV, Int.reduceToNat, Int.reduceLE, true_and, and_true, reduceCtorEq, or_false, false_or, or_true, Option.some.injEq, exists_eq_left', Bool.not_true, Bool.not_false, ne_eq, Int.reduceEq, not_true_eq_false, not_false_eq_true, Int.reduceLT, UInt8.reduceLT, UInt8.reduceLE, UInt8.reduceToNat]
  exact end1 rfl Kp_bool

theorem Grew.kept (h : Grew st s) : Kept st s := ⟨by rw [h.bx]; simp, h.lp, by rw [h.lw]; exact Nat.le_refl _, h.tk⟩
theorem lits1 {a : List UInt8} : litFill 1 (List.replicate 1 (.str [])) [(0, .str a)] = some [.str a] := by
  simp [litFill, strip, stripLeaf, PV.cells]
theorem len_own {v : PV} {xs : List PV} (h : Own st s 1 v xs) : v.vs 1 = some xs := by
  rcases h with ⟨rfl, rfl⟩ | ⟨i, rfl, _⟩ <;> simp [PV.vs]

def matchOf (fs : List Fld) (n : List UInt8) : List (List UInt8) := (fs.filter (fun f => decide (lowOf f.1 = lowOf n))).map (·.2)
theorem matchOf_snoc {fs : List Fld} {f : Fld} {n : List UInt8} : matchOf (fs ++ [f]) n = if lowOf f.1 = lowOf n then matchOf fs n ++ [f.2] else matchOf fs n := by
  unfold matchOf; simp only [List.filter_append, List.filter_cons, List.filter_nil]
  by_cases h : lowOf f.1 = lowOf n <;> simp [h]
theorem getOf_match {fs : List Fld} {n : List UInt8} : getOf fs n = ((matchOf fs n).head?.getD [], (matchOf fs n).length) := by
  unfold getOf matchOf; simp

theorem rGet_spec {x : PV} {fs : List Fld} {n : List UInt8} (hx : x.vs 2 = some (fs.map fV)) (hn : n.length ≤ 100000000) (hf : ∀ f ∈ fs, okF f) (hl : fs.length ≤ 100000000) : call prog (.fn 148 []) [x, .str n] st = some (getV (getOf fs n), st) := by
  refine call_of_W prog_148 ?_
  unfold F_posthornref06_Get; dsimp only
  have hlen := len_vs hx
  rw [List.length_map] at hlen
  simp (maxSteps := 1000000) (disch := omega) only [abR, WO_consG, wantedA_eq, wantB, evOp, ↓reduceIte, Nat.reduceEqDiff, List.nil_append, List.cons_append, List.append_nil, List.map_cons, List.map_nil, Option.map_some, Option.map_none, condW_bool, Bool.not_eq_true', decide_eq_true_eq, decide_eq_false_iff_not, decide_true, decide_false, Int.toNat_natCast, Int.ofNat_lt, Int.ofNat_le, Int.natCast_inj, Bool.false_eq_true, Bool.true_eq_false, extPV, List.getElem?_cons_zero, List.getElem?_cons_succ, nilckPV, Int.reduceToNat, Int.reduceLE, true_and, and_true, reduceCtorEq, or_false, false_or, or_true, Option.some.injEq, exists_eq_left', Bool.not_true, Bool.not_false, ne_eq, Int.reduceEq, not_true_eq_false, not_false_eq_true, Int.reduceLT, UInt8.reduceLT, UInt8.reduceLE, UInt8.reduceToNat]
  obtain ⟨I, hI⟩ : ∃ I : Nat → Env → St → Prop, I = fun k e s' => ∃ (i : Nat) (v : PV), k = fs.length - i ∧ i ≤ fs.length ∧ Grew st s' ∧ Own st s' 1 v ((matchOf (fs.take i) n).map .str) ∧ e 0 = x ∧ e 1 = .str n ∧ e 6 = v ∧ e 7 = .int .i64 (i : Int) := ⟨_, rfl⟩
  refine W_loop I ?_ (n := fs.length) (by
    rw [hI]
    exact ⟨0, .nils, rfl, by omega, Grew.start, .inl ⟨rfl, rfl⟩, rfl, rfl, rfl, rfl⟩)
  intro k e s' hh
  rw [hI] at hh
  obtain ⟨i, v, rfl, hi, hg, ho, h0, h1, h6, h7⟩ := hh
  have hml : ((matchOf (fs.take i) n).map PV.str).length ≤ fs.length := by
    have := List.length_filter_le (fun f : Fld => decide (lowOf f.1 = lowOf n)) (fs.take i)
    simp only [matchOf, List.length_map]
    simp at this; omega
  by_cases hlt : i < fs.length
  · obtain ⟨f, hfe⟩ : ∃ f, f = fs.getD i ([], []) := ⟨_, rfl⟩
    have hfm : f ∈ fs := by rw [hfe]; simp [List.getD, hlt]
    have hfo := hf f hfm
    have hgm := matchOf_snoc (fs := fs.take i) (f := f) (n := n)
    rw [hfe, ← take_getD' hlt, ← hfe] at hgm
    have hS : ∀ S : St, call prog (.fn 163 []) [.str f.1, .str n] S = some (.bool (decide (lowOf f.1 = lowOf n)), S) := fun S => rSame_spec (by have := hfo.1; omega) hn
    by_cases hs : lowOf f.1 = lowOf n
    · rw [if_pos hs] at hgm
      have happ := appV_own (u := .str f.2) (t := .own s'.toks.length) ho.tok1 (by simp only [room]; omega)
      obtain ⟨g2, o2⟩ := Own.app (ys := (matchOf (fs.take i) n).map PV.str ++ [.str f.2]) hg.tok1 ho.tok1
      simp (maxSteps := 1000000) (disch := omega) only [h0, h1, h6, h7, hlen, hlt, iaddr_f hx, ← hfe, fa_cp, load_cp0, load_cp1', hS, hs, lits1, freshT_eq, happ, add_n, abR, WO_consG, wantedA_eq, wantB, evOp, ↓reduceIte, Nat.reduceEqDiff, List.nil_append, List.cons_append, List.append_nil, List.map_cons, List.map_nil, Option.map_some, Option.map_none, condW_bool, Bool.not_eq_true', decide_eq_true_eq, decide_eq_false_iff_not, decide_true, decide_false, Int.toNat_natCast, Int.ofNat_lt, Int.ofNat_le, Int.natCast_inj, Bool.false_eq_true, Bool.true_eq_false, extPV, List.getElem?_cons_zero, List.getElem?_cons_succ, nilckPV, Int.reduceToNat, Int.reduceLE, true_and, and_true, reduceCtorEq, or_false, false_or, or_true, Option.some.injEq, exists_eq_left', Bool.not_true, Bool.not_false, ne_eq, Int.reduceEq, not_true_eq_false, not_false_eq_true, Int.reduceLT, UInt8.reduceLT, UInt8.reduceLE, UInt8.reduceToNat]
      refine loopQ_intro (m := fs.length - (i + 1)) (by omega) ?_
      rw [hI]
      exact ⟨i + 1, _, rfl, by omega, g2, by rw [hgm, List.map_append]; exact o2, h0, h1, rfl, rfl⟩
    · rw [if_neg hs] at hgm
      simp (maxSteps := 1000000) (disch := omega) only [h0, h1, h6, h7, hlen, hlt, iaddr_f hx, ← hfe, fa_cp, load_cp0, load_cp1', hS, hs, add_n, abR, WO_consG, wantedA_eq, wantB, evOp, ↓reduceIte, Nat.reduceEqDiff, List.nil_append, List.cons_append, List.append_nil, List.map_cons, List.map_nil, Option.map_some, Option.map_none, condW_bool, Bool.not_eq_true', decide_eq_true_eq, decide_eq_false_iff_not, decide_true, decide_false, Int.toNat_natCast, Int.ofNat_lt, Int.ofNat_le, Int.natCast_inj, Bool.false_eq_true, Bool.true_eq_false, extPV, List.getElem?_cons_zero, List.getElem?_cons_succ, nilckPV, Int.reduceToNat, Int.reduceLE, true_and, and_true, reduceCtorEq, or_false, false_or, or_true, Option.some.injEq, exists_eq_left', Bool.not_true, Bool.not_false, ne_eq, Int.reduceEq, not_true_eq_false, not_false_eq_true, Int.reduceLT, UInt8.reduceLT, UInt8.reduceLE, UInt8.reduceToNat]
      refine loopQ_intro (m := fs.length - (i + 1)) (by omega) ?_
      rw [hI]
      exact ⟨i + 1, v, rfl, by omega, hg, by rw [hgm]; exact ho, h0, h1, h6, rfl⟩
  · obtain rfl : i = fs.length := by omega
    rw [List.take_length] at ho
    have hvs := len_own ho
    have hlv := len_vs hvs
    rw [List.length_map] at hlv
    have hgo := getOf_match (fs := fs) (n := n)
    cases hmm : matchOf fs n with
    | nil =>
      have hd : (((matchOf fs n).length : Nat) : Int) = 0 := by rw [hmm]; rfl
      have hd' : decide ((((matchOf fs n).length : Nat) : Int) = 0) = true := by rw [hd]; rfl
      simp (maxSteps := 1000000) (disch := omega) only [h0, h1, h6, h7, hlen, hlt, hlv, hd', abR, WO_consG, wantedA_eq, wantB, evOp, ↓reduceIte, Nat.reduceEqDiff, List.nil_append, List.cons_append, List.append_nil, List.map_cons, List.map_nil, Option.map_some, Option.map_none, condW_bool, Bool.not_eq_true', decide_eq_true_eq, decide_eq_false_iff_not, decide_true, decide_false, Int.toNat_natCast, Int.ofNat_lt, Int.ofNat_le, Int.natCast_inj, Bool.false_eq_true, Bool.true_eq_false, extPV, List.getElem?_cons_zero, List.getElem?_cons_succ, nilckPV, Int.reduceToNat, Int.reduceLE, true_and, and_true, reduceCtorEq, or_false, false_or, or_true, Option.some.injEq, exists_eq_left', Bool.not_true, Bool.not_false, ne_eq, Int.reduceEq, not_true_eq_false, not_false_eq_true, Int.reduceLT, UInt8.reduceLT, UInt8.reduceLE, UInt8.reduceToNat]
      refine ⟨getV (getOf fs n), ?_, hg.kept.leave rfl (fun _ _ => rfl)⟩
      rw [hgo, hmm]; rfl
    | cons a r =>
      have hd : ¬ (((matchOf fs n).length : Nat) : Int) = 0 := by rw [hmm]; simp; omega
      have hlp : 0 < ((matchOf fs n).map PV.str).length := by rw [hmm]; simp
      have hia : iaddrPV 1 v (.int .i64 0) = some (.cp [.str a]) := by
        rw [iaddr_vs hvs (by omega) (by simpa using hlp)]
        rw [hmm]; rfl
      simp (maxSteps := 1000000) (disch := omega) only [h0, h1, h6, h7, hlen, hlt, hlv, hd, hia, abR, WO_consG, wantedA_eq, wantB, evOp, ↓reduceIte, Nat.reduceEqDiff, List.nil_append, List.cons_append, List.append_nil, List.map_cons, List.map_nil, Option.map_some, Option.map_none, condW_bool, Bool.not_eq_true', decide_eq_true_eq, decide_eq_false_iff_not, decide_true, decide_false, Int.toNat_natCast, Int.ofNat_lt, Int.ofNat_le, Int.natCast_inj, Bool.false_eq_true, Bool.true_eq_false, extPV, List.getElem?_cons_zero, List.getElem?_cons_succ, nilckPV, Int.reduceToNat, Int.reduceLE, true_and, and_true, reduceCtorEq, or_false, false_or, or_true, Option.some.injEq, exists_eq_left', Bool.not_true, Bool.not_false, ne_eq, Int.reduceEq, not_true_eq_false, not_false_eq_true, Int.reduceLT, UInt8.reduceLT, UInt8.reduceLE, UInt8.reduceToNat]
      refine ⟨getV (getOf fs n), ?_, hg.kept.leave rfl (fun _ _ => rfl)⟩
      rw [hgo, hmm]; rfl
end Go.Ab

/-
  Addresses: plain.
-/
namespace Go.Ab
set_option linter.unusedVariables false
set_option linter.unusedSimpArgs false

abbrev Bs := List UInt8
/-- What holds of all bytes, looked at one by one. -/
theorem all8 {p : UInt8 → Bool} (h : (List.range 256).all (fun n => p (UInt8.ofNat n)) = true) (c : UInt8) : p c = true := by
  have := List.all_eq_true.1 h c.toNat (List.mem_range.2 c.toNat_lt)
  simpa using this

def alnC (c : UInt8) : Bool := (decide (97 ≤ c) && decide (c ≤ 122)) || (decide (65 ≤ c) && decide (c ≤ 90)) || (decide (48 ≤ c) && decide (c ≤ 57))
def signs : Bs := [33, 35, 36, 37, 38, 39, 42, 43, 45, 47, 61, 63, 94, 95, 123, 124, 125, 126, 96]
def atC (c : UInt8) : Bool := alnC c || signs.contains c
def atomB (l : Bs) : Bool := l.all atC && !l.isEmpty
def labC (c : UInt8) : Bool := alnC c || decide (c = 45)
def labB (l : Bs) : Bool := l.all labC && !l.isEmpty && decide (l.length ≤ 63) && !decide (l.getD 0 0 = 45) && !decide (l.getD (l.length - 1) 0 = 45)
def prC (c : UInt8) : Bool := !decide (c < 32) && !decide (126 < c)
def nmA (l : Bs) : Bool := l.all prC && decide (l.length ≤ 128)
def partsB (sep : UInt8) (p : Bs → Bool) (l : Bs) : Bool := (splitOn sep [] l).all p

/-- Name, local part, domain. -/
abbrev Adr := Bs × Bs × Bs
def aV (a : Adr) : PV := .agg [.str a.1, .str a.2.1, .str a.2.2]
def rightA (a : Adr) : Bool := decide (a.2.1.length ≤ 64) && partsB 46 atomB a.2.1 && decide (a.2.2.length ≤ 253) && partsB 46 labB a.2.2 && nmA a.1
def atA (a : Adr) : Bs := a.2.1 ++ 64 :: a.2.2
def normalA (a : Adr) : Bs := if rightA a = true then lowOf (atA a) else []
def noA : Adr := ([], [], [])
def cutA (s : Bs) : Adr := if 0 ≤ Lib.index s [64] then ([], s.take (Lib.index s [64]).toNat, s.drop ((Lib.index s [64]).toNat + 1)) else ([], s, [])
def plainA (s : Bs) : Adr × Int := if rightA (cutA s) = true then (cutA s, 0) else (noA, 60)
def escQ (l : Bs) : Bs := l.flatMap fun c => if c = 34 ∨ c = 92 then [92, c] else [c]
def textA (a : Adr) : Bs := if a.1 = [] then atA a else if partsB 32 atomB a.1 = true then a.1 ++ [32, 60] ++ atA a ++ [62] else 34 :: escQ a.1 ++ [34, 32, 60] ++ atA a ++ [62]
def writeA (a : Adr) : Bs × Int := if rightA a = true then (textA a, 0) else ([], 60)
def ltrimS : Bs → Bs
  | [] => []
  | c :: r => if c = 32 then ltrimS r else c :: r
def rtrimS (l : Bs) : Bs := (ltrimS l.reverse).reverse
def trimS (l : Bs) : Bs := rtrimS (ltrimS l)
def unqGo : Bs → Bs → Option (Bs × Bs)
  | [], _ => none
  | c :: r, acc => if c = 34 then some (acc, r) else if c = 92 then (match r with | [] => none | d :: r' => if d = 34 ∨ d = 92 then unqGo r' (acc ++ [d]) else none) else unqGo r (acc ++ [c])
/-- The name, and what stands behind it. -/
def nameA (s : Bs) : Option (Bs × Bs) :=
  if s.getD 0 0 = 34 then (unqGo (s.drop 1) []).map fun q => (q.1, trimS q.2)
  else if Lib.indexByte s 60 < 0 then none
  else if trimS (s.take (Lib.indexByte s 60).toNat) = [] ∨ partsB 32 atomB (trimS (s.take (Lib.indexByte s 60).toNat)) = true then some (trimS (s.take (Lib.indexByte s 60).toNat), s.drop (Lib.indexByte s 60).toNat) else none
def readB (s : Bs) : Adr × Int :=
  if s.length = 0 ∨ s.getD (s.length - 1) 0 ≠ 62 then plainA s
  else match nameA s with
    | none => (noA, 60)
    | some (n, rest) =>
      if rest.length < 2 ∨ rest.getD 0 0 ≠ 60 then (noA, 60)
      else if (plainA ((rest.take (rest.length - 1)).drop 1)).2 = 0 ∧ rightA (n, (plainA ((rest.take (rest.length - 1)).drop 1)).1.2) = true then ((n, (plainA ((rest.take (rest.length - 1)).drop 1)).1.2), 0) else (noA, 60)
def readA (s : Bs) : Adr × Int := readB (trimS s)
def splitQ : Bs → Bs → Bool → List Bs
  | [], acc, _ => [acc]
  | c :: r, acc, q => if q = true ∧ c = 92 then (match r with | [] => [acc ++ [c]] | d :: r' => splitQ r' (acc ++ [c, d]) q) else if c = 34 then splitQ r (acc ++ [c]) (!q) else if c = 44 ∧ q = false then acc :: splitQ r [] false else splitQ r (acc ++ [c]) q
def readAll : List Bs → List Adr × Int
  | [] => ([], 0)
  | x :: r => if (readA x).2 ≠ 0 then ([], (readA x).2) else if (readAll r).2 ≠ 0 then ([], (readAll r).2) else ((readA x).1 :: (readAll r).1, 0)
def listA (s : Bs) : List Adr × Int := if 64 < (splitQ s [] false).length then ([], 2) else readAll (splitQ s [] false)

/-! ### Parts -/
theorem split_chars {sep : UInt8} {q : UInt8 → Prop} : ∀ (l acc : Bs), (∀ x ∈ splitOn sep acc l, ∀ c ∈ x, q c) → (∀ c ∈ acc, q c) ∧ ∀ c ∈ l, q c ∨ c = sep := by
  intro l
  induction l with
  | nil => intro acc h; exact ⟨fun c hc => h acc (by simp [splitOn]) c hc, fun c hc => (by cases hc)⟩
  | cons d r ih =>
    intro acc h
    simp only [splitOn] at h
    by_cases hd : d = sep
    · rw [if_pos hd] at h
      have h2 := ih [] (fun x hx => h x (by simp [hx]))
      refine ⟨fun c hc => h acc (by simp) c hc, fun c hc => ?_⟩
      rcases List.mem_cons.1 hc with rfl | hc
      · exact .inr hd
      · exact h2.2 c hc
    · rw [if_neg hd] at h
      have h2 := ih (acc ++ [d]) h
      refine ⟨fun c hc => h2.1 c (by simp [hc]), fun c hc => ?_⟩
      rcases List.mem_cons.1 hc with rfl | hc
      · exact .inl (h2.1 c (by simp))
      · exact h2.2 c hc
theorem split_map {sep : UInt8} {g : UInt8 → UInt8} (hg : ∀ c, g c = sep ↔ c = sep) : ∀ (l acc : Bs), splitOn sep (acc.map g) (l.map g) = (splitOn sep acc l).map (·.map g) := by
  intro l
  induction l with
  | nil => intro acc; simp [splitOn]
  | cons d r ih =>
    intro acc
    simp only [List.map_cons, splitOn]
    by_cases hd : d = sep
    · rw [if_pos hd, if_pos ((hg d).2 hd)]
      have := ih []
      simp only [List.map_nil] at this
      simp [this]
    · rw [if_neg hd, if_neg (fun h => hd ((hg d).1 h))]
      have := ih (acc ++ [d])
      simp only [List.map_append, List.map_cons, List.map_nil] at this
      exact this
theorem split_last {sep : UInt8} : ∀ (l acc : Bs), [] ∈ splitOn sep acc (l ++ [sep]) := by
  intro l
  induction l with
  | nil => intro acc; simp [splitOn]
  | cons d r ih =>
    intro acc
    simp only [List.cons_append, splitOn]
    split
    · exact List.mem_cons_of_mem _ (ih [])
    · exact ih _

theorem atom_ne {l : Bs} (h : atomB l = true) : l ≠ [] ∧ ∀ c ∈ l, atC c = true := by
  simp only [atomB, Bool.and_eq_true, List.all_eq_true, Bool.not_eq_true', List.isEmpty_eq_false_iff] at h
  exact ⟨h.2, h.1⟩
theorem lab_ne {l : Bs} (h : labB l = true) : l ≠ [] ∧ ∀ c ∈ l, labC c = true := by
  simp only [labB, Bool.and_eq_true, List.all_eq_true, Bool.not_eq_true', List.isEmpty_eq_false_iff] at h
  exact ⟨h.1.1.1.2, h.1.1.1.1⟩
theorem parts_chars {sep : UInt8} {p : Bs → Bool} {q : UInt8 → Prop} {l : Bs} (hp : ∀ x, p x = true → ∀ c ∈ x, q c) (h : partsB sep p l = true) : ∀ c ∈ l, q c ∨ c = sep :=
  (split_chars l [] (fun x hx => hp x (List.all_eq_true.1 h x hx))).2
theorem parts_ends {sep : UInt8} {p : Bs → Bool} {l : Bs} (hp : p [] = false) (h : partsB sep p l = true) : l ≠ [] ∧ l.head? ≠ some sep ∧ l.getLast? ≠ some sep := by
  refine ⟨?_, ?_, ?_⟩
  · rintro rfl
    simp [partsB, splitOn, hp] at h
  · intro hh
    cases l with
    | nil => cases hh
    | cons c r =>
      simp only [List.head?_cons, Option.some.injEq] at hh
      subst hh
      simp [partsB, splitOn, hp] at h
  · intro hh
    obtain ⟨r, rfl⟩ := List.getLast?_eq_some_iff.1 hh
    have := List.all_eq_true.1 h [] (split_last r [])
    rw [hp] at this; cases this
theorem parts_low {p : Bs → Bool} {sep : UInt8} {l : Bs} (hp : ∀ x, p (lowOf x) = p x) (hs : ∀ c, lowC c = sep ↔ c = sep) : partsB sep p (lowOf l) = partsB sep p l := by
  have := split_map (g := lowC) hs l []
  simp only [List.map_nil] at this
  unfold partsB lowOf
  rw [this, List.all_map]
  congr 1
  funext x
  exact hp x

/-! ### Small letters -/
theorem lowC_46 (c : UInt8) : lowC c = 46 ↔ c = 46 := by
  have := all8 (p := fun c => decide (lowC c = 46) == decide (c = 46)) (by kernel_rfl) c
  simpa using this
theorem lowC_64 (c : UInt8) : lowC c = 64 ↔ c = 64 := by
  have := all8 (p := fun c => decide (lowC c = 64) == decide (c = 64)) (by kernel_rfl) c
  simpa using this
theorem lowC_45 (c : UInt8) : lowC c = 45 ↔ c = 45 := by
  have := all8 (p := fun c => decide (lowC c = 45) == decide (c = 45)) (by kernel_rfl) c
  simpa using this
theorem lowC_at (c : UInt8) : atC (lowC c) = atC c := by
  have := all8 (p := fun c => atC (lowC c) == atC c) (by kernel_rfl) c
  simpa using this
theorem lowC_lab (c : UInt8) : labC (lowC c) = labC c := by
  have := all8 (p := fun c => labC (lowC c) == labC c) (by kernel_rfl) c
  simpa using this
theorem lowC_low (c : UInt8) : lowC (lowC c) = lowC c := by
  have := all8 (p := fun c => lowC (lowC c) == lowC c) (by kernel_rfl) c
  simpa using this
theorem atomB_low (x : Bs) : atomB (lowOf x) = atomB x := by
  unfold atomB lowOf
  rw [List.all_map]
  congr 1
  · congr 1; funext c; exact lowC_at c
  · cases x <;> rfl
theorem getD_low {x : Bs} {i : Nat} : (lowOf x).getD i 0 = lowC (x.getD i 0) := by
  simp only [lowOf, List.getD, List.getElem?_map]
  cases x[i]? <;> rfl
theorem labB_low (x : Bs) : labB (lowOf x) = labB x := by
  unfold labB
  rw [getD_low, getD_low]
  have h1 : (lowOf x).length = x.length := by simp [lowOf]
  have h2 : (lowOf x).all labC = x.all labC := by
    unfold lowOf; rw [List.all_map]; congr 1; funext c; exact lowC_lab c
  have h3 : (lowOf x).isEmpty = x.isEmpty := by cases x <;> rfl
  rw [h1, h2, h3]
  simp only [lowC_45]
theorem right_low {a : Adr} (h : rightA a = true) : rightA ([], lowOf a.2.1, lowOf a.2.2) = true := by
  simp only [rightA, Bool.and_eq_true, decide_eq_true_eq] at h ⊢
  obtain ⟨⟨⟨⟨h1, h2⟩, h3⟩, h4⟩, h5⟩ := h
  refine ⟨⟨⟨⟨by simpa [lowOf] using h1, ?_⟩, by simpa [lowOf] using h3⟩, ?_⟩, rfl⟩
  · rw [parts_low atomB_low lowC_46]; exact h2
  · rw [parts_low labB_low lowC_46]; exact h4

/-! ### Signs that stand in no address -/
theorem index_chr {k : UInt8} : ∀ (n r : Bs), (∀ c ∈ n, c ≠ k) → Lib.index (n ++ k :: r) [k] = n.length := by
  intro n
  induction n with
  | nil => intro r _; simp [Lib.index, List.isPrefixOf]
  | cons c n ih =>
    intro r h
    have hc : c ≠ k := h c (by simp)
    have := ih r (fun d hd => h d (by simp [hd]))
    rw [List.cons_append, Lib.index]
    have hp : ([k] : Bs).isPrefixOf (c :: (n ++ k :: r)) = false := by
      simp [List.isPrefixOf]; exact fun h => hc h.symm
    rw [hp, this]
    simp <;> omega
theorem indexB_chr {k : UInt8} : ∀ (n r : Bs), (∀ c ∈ n, c ≠ k) → Lib.indexByte (n ++ k :: r) k = n.length := by
  intro n
  induction n with
  | nil => intro r _; simp [Lib.indexByte]
  | cons c n ih =>
    intro r h
    have hc : c ≠ k := h c (by simp)
    have := ih r (fun d hd => h d (by simp [hd]))
    have h1 : ((n.length : Int) == -1) = false := by rw [beq_eq_false_iff_ne]; omega
    rw [List.cons_append, Lib.indexByte, if_neg (by simpa using hc), this, h1]
    simp
theorem cut_same {k : UInt8} {n r n' r' : Bs} (h : n ++ k :: r = n' ++ k :: r') (h1 : ∀ c ∈ n, c ≠ k) (h2 : ∀ c ∈ n', c ≠ k) : n = n' ∧ r = r' := by
  have e1 := index_chr n r h1
  have e2 := index_chr n' r' h2
  rw [h, e2] at e1
  have := List.append_inj h (by omega)
  exact ⟨this.1, by simpa using this.2⟩

/-- The signs of an address's local part, and of its domain. -/
def locC (c : UInt8) : Prop := atC c = true ∨ c = 46
def domC (c : UInt8) : Prop := labC c = true ∨ c = 46
theorem locC_ne {c : UInt8} (h : locC c) : c ≠ 64 ∧ c ≠ 32 ∧ c ≠ 34 ∧ c ≠ 60 ∧ c ≠ 44 ∧ c ≠ 62 := by
  rcases h with h | h
  · have := all8 (p := fun c => !atC c || (!decide (c = 64) && !decide (c = 32) && !decide (c = 34) && !decide (c = 60) && !decide (c = 44) && !decide (c = 62))) (by kernel_rfl) c
    rw [h] at this
    simpa [and_assoc] using this
  · subst h; decide
theorem domC_ne {c : UInt8} (h : domC c) : c ≠ 32 ∧ c ≠ 34 ∧ c ≠ 44 ∧ c ≠ 62 ∧ c ≠ 64 := by
  rcases h with h | h
  · have := all8 (p := fun c => !labC c || (!decide (c = 32) && !decide (c = 34) && !decide (c = 44) && !decide (c = 62) && !decide (c = 64))) (by kernel_rfl) c
    rw [h] at this
    simpa [and_assoc] using this
  · subst h; decide
structure RightA (a : Adr) : Prop where
  lc : ∀ c ∈ a.2.1, locC c
  ln : a.2.1 ≠ []
  dc : ∀ c ∈ a.2.2, domC c
  dn : a.2.2 ≠ []
  nl : a.1.length ≤ 128
  ll : a.2.1.length ≤ 64
  dl : a.2.2.length ≤ 253
theorem right_facts {a : Adr} (h : rightA a = true) : RightA a := by
  simp only [rightA, Bool.and_eq_true, decide_eq_true_eq] at h
  obtain ⟨⟨⟨⟨h1, h2⟩, h3⟩, h4⟩, h5⟩ := h
  simp only [nmA, Bool.and_eq_true, decide_eq_true_eq] at h5
  exact ⟨parts_chars (fun x hx c hc => (atom_ne hx).2 c hc) h2, (parts_ends (by rfl) h2).1, parts_chars (fun x hx c hc => (lab_ne hx).2 c hc) h4, (parts_ends (by rfl) h4).1, h5.2, h1, h3⟩
theorem right_name {a : Adr} (n : Bs) (h : rightA a = true) (hn : nmA n = true) : rightA (n, a.2.1, a.2.2) = true := by
  simp only [rightA, Bool.and_eq_true] at h ⊢
  exact ⟨h.1, hn⟩

theorem plain_at {l d : Bs} (h : rightA ([], l, d) = true) : plainA (l ++ 64 :: d) = (([], l, d), 0) := by
  have hf := right_facts h
  have hi := index_chr l d (fun c hc => (locC_ne (hf.lc c hc)).1)
  have hd : (l ++ 64 :: d).drop (l.length + 1) = d := by
    rw [← List.drop_drop, List.drop_left]; rfl
  have h0 : (0 : Int) ≤ (l.length : Int) := by omega
  have hc : cutA (l ++ 64 :: d) = ([], l, d) := by
    unfold cutA
    rw [hi]
    simp only [Int.toNat_natCast, List.take_left, hd, h0, if_true]
  simp only [plainA, hc, h, if_true]
theorem chr_split (k : UInt8) : ∀ s : Bs, (k ∉ s ∧ Lib.index s [k] = -1) ∨ ∃ n r, s = n ++ k :: r ∧ ∀ c ∈ n, c ≠ k := by
  intro s
  by_cases h : k ∈ s
  · right
    induction s with
    | nil => cases h
    | cons c s ih =>
      by_cases hc : c = k
      · exact ⟨[], s, by simp [hc], fun c hc => (by cases hc)⟩
      · rcases List.mem_cons.1 h with h | h
        · exact absurd h.symm hc
        · obtain ⟨n, r, e1, e2⟩ := ih h
          refine ⟨c :: n, r, by simp [e1], fun d hd => ?_⟩
          rcases List.mem_cons.1 hd with rfl | hd
          · exact hc
          · exact e2 d hd
  · left
    refine ⟨h, ?_⟩
    have h1 := Lib.index_ge s [k]
    have h2 := index_one (l := s) (c := k)
    have h3 : ¬ 0 ≤ Lib.index s [k] := fun h0 => h (h2.1 h0)
    omega
theorem plain_bad {m r : Bs} {c : UInt8} (hc : ¬ locC c) (hm : ∀ x ∈ m, x ≠ 64) (hc6 : c ≠ 64) : plainA (m ++ c :: r) = (noA, 60) := by
  rcases chr_split 64 (m ++ c :: r) with ⟨h1, h2⟩ | ⟨n, r2, e1, e2⟩
  · have hcut : cutA (m ++ c :: r) = ([], m ++ c :: r, []) := by simp [cutA, h2]
    unfold plainA
    rw [hcut, if_neg]
    intro hr
    exact hc ((right_facts hr).lc c (by simp))
  · have hi := index_chr n r2 e2
    have h0 : (0 : Int) ≤ (n.length : Int) := by omega
    have hcut : (cutA (m ++ c :: r)).2.1 = n := by
      unfold cutA
      rw [e1, hi]
      simp only [Int.toNat_natCast, List.take_left, h0, if_true]
    unfold plainA
    rw [if_neg]
    intro hr
    have hlc := (right_facts hr).lc
    rw [hcut] at hlc
    refine hc (hlc c ?_)
    show c ∈ n
    rw [show m ++ c :: r = (m ++ [c]) ++ r by simp] at e1
    rcases List.append_eq_append_iff.1 e1 with ⟨a, h1, h2⟩ | ⟨a, h1, h2⟩
    · rw [h1]; simp
    · cases a with
      | nil => simp only [List.append_nil] at h1; rw [← h1]; simp
      | cons x a =>
        simp only [List.cons_append, List.cons.injEq] at h2
        have hx : x ∈ m ++ [c] := by rw [h1]; simp
        rw [← h2.1] at hx
        rcases List.mem_append.1 hx with hx | hx
        · exact absurd rfl (hm 64 hx)
        · simp only [List.mem_singleton] at hx; exact absurd hx.symm hc6

/-- AddrNormal: normal forms are alike just if the parts are. -/
theorem normal_same {a b : Adr} (ha : rightA a = true) (hb : rightA b = true) : (normalA a = normalA b) ↔ (lowOf a.2.1 = lowOf b.2.1 ∧ lowOf a.2.2 = lowOf b.2.2) := by
  have h64 : ∀ {l : Bs}, (∀ c ∈ l, locC c) → ∀ c ∈ lowOf l, c ≠ 64 := by
    intro l hl c hc
    obtain ⟨d, hd, rfl⟩ := List.mem_map.1 hc
    exact fun h => (locC_ne (hl d hd)).1 ((lowC_64 d).1 h)
  have hap : ∀ a : Adr, lowOf (atA a) = lowOf a.2.1 ++ 64 :: lowOf a.2.2 := fun a => by
    simp only [atA, lowOf, List.map_append, List.map_cons]; rfl
  simp only [normalA, ha, hb, if_true, hap]
  constructor
  · intro h
    exact cut_same h (h64 (right_facts ha).lc) (h64 (right_facts hb).lc)
  · rintro ⟨h1, h2⟩
    rw [h1, h2]
theorem normal_plain {a : Adr} (ha : rightA a = true) : plainA (normalA a) = (([], lowOf a.2.1, lowOf a.2.2), 0) ∧ normalA ([], lowOf a.2.1, lowOf a.2.2) = normalA a := by
  have hr := right_low ha
  have hap : ∀ a : Adr, lowOf (atA a) = lowOf a.2.1 ++ 64 :: lowOf a.2.2 := fun a => by
    simp only [atA, lowOf, List.map_append, List.map_cons]; rfl
  have hll : ∀ l : Bs, lowOf (lowOf l) = lowOf l := fun l => by
    simp only [lowOf, List.map_map]; congr 1; funext c; exact lowC_low c
  constructor
  · rw [normalA, if_pos ha, hap]; exact plain_at hr
  · rw [normalA, if_pos hr, normalA, if_pos ha, hap, hap]
    simp only [hll]
end Go.Ab

/-
  Addresses are read as they were written: plain.
-/
namespace Go.Ab
set_option linter.unusedVariables false
set_option linter.unusedSimpArgs false

/-! ### Blanks at the ends -/
theorem ltrimS_stop {l : Bs} (h : l.head? ≠ some 32) : ltrimS l = l := by
  cases l with
  | nil => rfl
  | cons c r =>
    simp only [List.head?_cons, ne_eq, Option.some.injEq] at h
    simp [ltrimS, h]
theorem ltrimS_pad {l : Bs} : ∀ n : Nat, ltrimS (List.replicate n 32 ++ l) = ltrimS l := by
  intro n
  induction n with
  | zero => rfl
  | succ n ih => simp [List.replicate_succ, ltrimS, ih]
theorem rtrimS_stop {l : Bs} (h : l.getLast? ≠ some 32) : rtrimS l = l := by
  unfold rtrimS
  rw [ltrimS_stop (by rw [List.head?_reverse]; exact h), List.reverse_reverse]
theorem rtrimS_pad {l : Bs} (n : Nat) : rtrimS (l ++ List.replicate n 32) = rtrimS l := by
  unfold rtrimS
  rw [List.reverse_append, List.reverse_replicate, ltrimS_pad]
theorem trimS_stop {l : Bs} (h1 : l.head? ≠ some 32) (h2 : l.getLast? ≠ some 32) : trimS l = l := by
  unfold trimS
  rw [ltrimS_stop h1, rtrimS_stop h2]
theorem trimS_pad {l : Bs} {p q : Nat} (h0 : l ≠ []) (h1 : l.head? ≠ some 32) (h2 : l.getLast? ≠ some 32) : trimS (List.replicate p 32 ++ l ++ List.replicate q 32) = l := by
  unfold trimS
  rw [List.append_assoc, ltrimS_pad, ltrimS_stop, rtrimS_pad, rtrimS_stop h2]
  cases l with
  | nil => exact absurd rfl h0
  | cons c r => simpa using h1

/-! ### Names between quotes -/
theorem unq_q {r acc : Bs} : unqGo (34 :: r) acc = some (acc, r) := by cases r <;> simp [unqGo]
theorem unq_b {d : UInt8} {r acc : Bs} : unqGo (92 :: d :: r) acc = if d = 34 ∨ d = 92 then unqGo r (acc ++ [d]) else none := by simp [unqGo]
theorem unq_b0 {acc : Bs} : unqGo [92] acc = none := by simp [unqGo]
theorem unq_o {c : UInt8} {r acc : Bs} (h1 : c ≠ 34) (h2 : c ≠ 92) : unqGo (c :: r) acc = unqGo r (acc ++ [c]) := by cases r <;> simp [unqGo, h1, h2]
theorem spq_0 {acc : Bs} {q : Bool} : splitQ [] acc q = [acc] := by simp [splitQ]
theorem spq_b {d : UInt8} {r acc : Bs} : splitQ (92 :: d :: r) acc true = splitQ r (acc ++ [92, d]) true := by simp [splitQ]
theorem spq_b0 {acc : Bs} : splitQ [92] acc true = [acc ++ [92]] := by simp [splitQ]
theorem spq_q {r acc : Bs} {q : Bool} : splitQ (34 :: r) acc q = splitQ r (acc ++ [34]) (!q) := by cases r <;> simp [splitQ]
theorem spq_c {r acc : Bs} : splitQ (44 :: r) acc false = acc :: splitQ r [] false := by cases r <;> simp [splitQ]
theorem spq_o {c : UInt8} {r acc : Bs} {q : Bool} (h1 : c ≠ 34) (h2 : q = true → c ≠ 92) (h3 : q = false → c ≠ 44) : splitQ (c :: r) acc q = splitQ r (acc ++ [c]) q := by
  cases q with
  | true => have := h2 rfl; cases r <;> simp [splitQ, h1, this]
  | false => have := h3 rfl; cases r <;> simp [splitQ, h1, this]
theorem last_snoc {l : Bs} {c : UInt8} : (l ++ [c]).getLast? = some c := by simp
theorem last_app {l r : Bs} (h : r ≠ []) : (l ++ r).getLast? = r.getLast? := by
  rw [List.getLast?_append]
  cases hq : r.getLast? with
  | none => rw [List.getLast?_eq_none_iff] at hq; exact absurd hq h
  | some x => rfl
theorem unq_esc {r : Bs} : ∀ (n acc : Bs), unqGo (escQ n ++ 34 :: r) acc = some (acc ++ n, r) := by
  intro n
  induction n with
  | nil => intro acc; simp [escQ, unq_q]
  | cons c n ih =>
    intro acc
    have hcons : escQ (c :: n) = (if c = 34 ∨ c = 92 then [92, c] else [c]) ++ escQ n := by simp [escQ]
    rw [hcons]
    by_cases h : c = 34 ∨ c = 92
    · rw [if_pos h]
      simp only [List.cons_append, List.nil_append]
      rw [unq_b, if_pos h, ih]; simp
    · rw [if_neg h]
      simp only [List.cons_append, List.nil_append]
      rw [unq_o (fun hc => h (.inl hc)) (fun hc => h (.inr hc)), ih]
      simp

/-! ### A text of an address -/
theorem atA_ends {a : Adr} (h : RightA a) : atA a ≠ [] ∧ (atA a).head? ≠ some 32 ∧ (atA a).getLast? ≠ some 32 ∧ (atA a).getLast? ≠ some 62 ∧ (atA a).head? ≠ some 34 := by
  obtain ⟨c, l, hl⟩ := List.exists_cons_of_ne_nil h.ln
  have h1 := locC_ne (h.lc c (by rw [hl]; simp))
  have hlast : (atA a).getLast? = a.2.2.getLast? := by
    unfold atA
    rw [show a.2.1 ++ 64 :: a.2.2 = (a.2.1 ++ [64]) ++ a.2.2 by simp]
    exact last_app h.dn
  obtain ⟨x, hx⟩ : ∃ x, a.2.2.getLast? = some x := by
    cases hq : a.2.2.getLast? with
    | none => rw [List.getLast?_eq_none_iff] at hq; exact absurd hq h.dn
    | some x => exact ⟨x, rfl⟩
  have h2 := domC_ne (h.dc x (List.mem_of_getLast? hx))
  rw [hlast, hx]
  unfold atA
  rw [hl]
  refine ⟨by simp, ?_, ?_, ?_, ?_⟩
  · simp; exact h1.2.1
  · simp; exact h2.1
  · simp; exact h2.2.2.2.1
  · simp; exact h1.2.2.1
theorem getD_head {l : Bs} {c : UInt8} (h : l.head? = some c) : l.getD 0 0 = c := by
  cases l with
  | nil => cases h
  | cons d r => simpa using h
theorem getD_last {l : Bs} {c : UInt8} (h : l.getLast? = some c) : l.getD (l.length - 1) 0 = c := by
  rw [List.getLast?_eq_getElem?] at h
  simp [List.getD, h]

/-- What stands behind a name. -/
theorem mid_at {x : Bs} : (((60 :: x) ++ [62]).take (((60 :: x) ++ [62]).length - 1)).drop 1 = x := by
  simp [List.take_append]
theorem read_tail {n : Bs} {a : Adr} (h : rightA a = true) (hn : nameA (textA a) = some (a.1, 60 :: atA a ++ [62])) (hs : (textA a).getLast? = some 62) (h1 : (textA a).head? ≠ some 32) : readB (textA a) = (a, 0) := by
  have hne : textA a ≠ [] := fun h0 => by rw [h0] at hs; cases hs
  unfold readB
  rw [if_neg (by
    rw [getD_last hs]
    have := List.length_pos_iff.2 hne
    simp; omega), hn]
  simp only
  rw [if_neg (by simp)]
  rw [mid_at]
  have hp : rightA ([], a.2.1, a.2.2) = true := right_name [] h (by rfl)
  have := plain_at hp
  unfold atA
  rw [this]
  simp only
  rw [if_pos ⟨trivial, h⟩]
theorem textA_read {a : Adr} (h : rightA a = true) : readB (textA a) = (a, 0) ∧ textA a ≠ [] ∧ (textA a).head? ≠ some 32 ∧ (textA a).getLast? ≠ some 32 := by
  have hf := right_facts h
  have he := atA_ends hf
  obtain ⟨n, l, d⟩ := a
  by_cases h0 : n = []
  · subst h0
    have ht : textA ([], l, d) = atA ([], l, d) := by simp [textA]
    rw [ht]
    refine ⟨?_, he.1, he.2.1, he.2.2.1⟩
    unfold readB
    rw [if_pos]
    · exact plain_at h
    · right
      obtain ⟨x, hx⟩ : ∃ x, (atA ([], l, d)).getLast? = some x := by
        cases hq : (atA ([], l, d)).getLast? with
        | none => rw [List.getLast?_eq_none_iff] at hq; exact absurd hq he.1
        | some x => exact ⟨x, rfl⟩
      rw [getD_last hx]
      intro h62
      rw [hx, h62] at he
      exact he.2.2.2.1 rfl
  · by_cases hp : partsB 32 atomB n = true
    · have ht : textA (n, l, d) = n ++ [32, 60] ++ atA (n, l, d) ++ [62] := by simp [textA, h0, hp]
      have hends := parts_ends (p := atomB) (by rfl) hp
      have hch := parts_chars (q := fun c => atC c = true) (fun x hx c hc => (atom_ne hx).2 c hc) hp
      have hn60 : ∀ c ∈ n ++ [32], c ≠ 60 := by
        intro c hc
        rcases List.mem_append.1 hc with hc | hc
        · rcases hch c hc with hq | hq
          · exact (locC_ne (.inl hq)).2.2.2.1
          · subst hq; decide
        · simp only [List.mem_singleton] at hc; subst hc; decide
      have hsh : textA (n, l, d) = (n ++ [32]) ++ 60 :: (atA (n, l, d) ++ [62]) := by rw [ht]; simp
      have hhead : (textA (n, l, d)).head? = n.head? := by
        obtain ⟨c, m, hm⟩ := List.exists_cons_of_ne_nil h0
        rw [ht, hm]; rfl
      have hlast : (textA (n, l, d)).getLast? = some 62 := by rw [ht]; exact last_snoc
      have hx32 : (textA (n, l, d)).head? ≠ some 32 := by rw [hhead]; exact hends.2.1
      refine ⟨read_tail (n := n) h ?_ hlast hx32, by rw [ht]; simp, hx32, by rw [hlast]; decide⟩
      unfold nameA
      have h34 : ¬ (textA (n, l, d)).getD 0 0 = 34 := by
        obtain ⟨c, m, hm⟩ := List.exists_cons_of_ne_nil h0
        rw [ht, hm]
        show ¬ c = 34
        rcases hch c (by rw [hm]; simp) with hq | hq
        · exact (locC_ne (.inl hq)).2.2.1
        · subst hq; decide
      have hi := indexB_chr (n ++ [32]) (atA (n, l, d) ++ [62]) hn60
      rw [← hsh] at hi
      have htr : trimS (n ++ [32]) = n := by
        have := trimS_pad (l := n) (p := 0) (q := 1) h0 hends.2.1 hends.2.2
        simpa using this
      rw [if_neg h34, hi]
      have htk : (textA (n, l, d)).take (((n ++ [32]).length : Nat) : Int).toNat = n ++ [32] := by rw [hsh, Int.toNat_natCast, List.take_left]
      have hdr : (textA (n, l, d)).drop (((n ++ [32]).length : Nat) : Int).toNat = 60 :: (atA (n, l, d) ++ [62]) := by rw [hsh, Int.toNat_natCast, List.drop_left]
      rw [htk, hdr, htr, if_neg (by omega), if_pos (.inr hp)]
      rfl
    · have ht : textA (n, l, d) = 34 :: escQ n ++ [34, 32, 60] ++ atA (n, l, d) ++ [62] := by simp [textA, h0, hp]
      have hlast : (textA (n, l, d)).getLast? = some 62 := by rw [ht]; exact last_snoc
      have hhead : (textA (n, l, d)).head? = some 34 := by rw [ht]; rfl
      refine ⟨read_tail (n := n) h ?_ hlast (by rw [hhead]; decide), by rw [ht]; simp, by rw [hhead]; decide, by rw [hlast]; decide⟩
      unfold nameA
      rw [if_pos (getD_head hhead)]
      have hd1 : (textA (n, l, d)).drop 1 = escQ n ++ 34 :: (32 :: 60 :: (atA (n, l, d) ++ [62])) := by rw [ht]; simp
      rw [hd1, unq_esc]
      have := trimS_pad (l := 60 :: (atA (n, l, d) ++ [62])) (p := 1) (q := 0) (by simp) (by simp) (by simp [List.getLast?_cons, List.getLast?_append])
      simp only [List.replicate_one, List.replicate_zero, List.append_nil, List.singleton_append] at this
      simp only [Option.map_some, List.nil_append, this]
      rfl

/-- **AddrBack**: what is written is read, with blanks around it. -/
theorem read_written {a : Adr} (h : rightA a = true) (p q : Nat) : readA (List.replicate p 32 ++ textA a ++ List.replicate q 32) = (a, 0) := by
  obtain ⟨h1, h2, h3, h4⟩ := textA_read h
  unfold readA
  rw [trimS_pad h2 h3 h4, h1]
theorem read_written0 {a : Adr} (h : rightA a = true) : readA (textA a) = (a, 0) := by
  have := read_written h 0 0
  simpa using this
/-- A text with a name is no plain address. -/
theorem plain_written {a : Adr} (h : rightA a = true) : plainA (textA a) = if a.1 = [] then (a, 0) else (noA, 60) := by
  obtain ⟨n, l, d⟩ := a
  by_cases h0 : n = []
  · subst h0
    have ht : textA ([], l, d) = atA ([], l, d) := by simp [textA]
    rw [ht, if_pos rfl]
    exact plain_at h
  · rw [if_neg h0]
    by_cases hp : partsB 32 atomB n = true
    · have hch := parts_chars (q := fun c => atC c = true) (fun x hx c hc => (atom_ne hx).2 c hc) hp
      have ht : textA (n, l, d) = n ++ 32 :: (60 :: (atA (n, l, d) ++ [62])) := by simp [textA, h0, hp]
      rw [ht]
      refine plain_bad (fun hc => (locC_ne hc).2.1 rfl) (fun c hc => ?_) (by decide)
      rcases hch c hc with hq | hq
      · exact (locC_ne (.inl hq)).1
      · subst hq; decide
    · have ht : textA (n, l, d) = [] ++ 34 :: (escQ n ++ [34, 32, 60] ++ atA (n, l, d) ++ [62]) := by simp [textA, h0, hp]
      rw [ht]
      exact plain_bad (fun hc => (locC_ne hc).2.2.1 rfl) (fun c hc => by cases hc) (by decide)

/-- **AddrRight**: what is read may be. -/
theorem plain_good {s : Bs} : ((plainA s).2 = 0 ∧ rightA (plainA s).1 = true ∧ (plainA s).1.1 = []) ∨ plainA s = (noA, 60) := by
  unfold plainA
  by_cases h : rightA (cutA s) = true
  · rw [if_pos h]
    refine .inl ⟨rfl, h, ?_⟩
    show (cutA s).1 = []
    unfold cutA
    split <;> rfl
  · rw [if_neg h]; exact .inr rfl
theorem read_good {s : Bs} : ((readA s).2 = 0 ∧ rightA (readA s).1 = true) ∨ readA s = (noA, 60) := by
  unfold readA readB
  split
  · rcases plain_good (s := trimS s) with ⟨h1, h2, _⟩ | h
    · exact .inl ⟨h1, h2⟩
    · exact .inr h
  · split
    · exact .inr rfl
    · split
      · exact .inr rfl
      · split
        · rename_i h
          exact .inl ⟨rfl, h.2⟩
        · exact .inr rfl

/-! ### Lists -/
theorem splitQ_pass {r : Bs} : ∀ (y acc : Bs), (∀ c ∈ y, c ≠ 34 ∧ c ≠ 44) → splitQ (y ++ r) acc false = splitQ r (acc ++ y) false := by
  intro y
  induction y with
  | nil => intro acc _; simp
  | cons c y ih =>
    intro acc h
    have hc := h c (by simp)
    rw [List.cons_append, spq_o hc.1 (fun h => by cases h) (fun _ => hc.2), ih _ (fun d hd => h d (by simp [hd]))]
    simp
theorem splitQ_in {r : Bs} : ∀ (n acc : Bs), splitQ (escQ n ++ 34 :: r) acc true = splitQ r (acc ++ escQ n ++ [34]) false := by
  intro n
  induction n with
  | nil => intro acc; simp [escQ, spq_q]
  | cons c n ih =>
    intro acc
    have hcons : escQ (c :: n) = (if c = 34 ∨ c = 92 then [92, c] else [c]) ++ escQ n := by simp [escQ]
    rw [hcons]
    by_cases h : c = 34 ∨ c = 92
    · rw [if_pos h]
      simp only [List.cons_append, List.nil_append]
      rw [spq_b, ih]; simp
    · rw [if_neg h]
      simp only [List.cons_append, List.nil_append]
      rw [spq_o (fun hc => h (.inl hc)) (fun _ hc => h (.inr hc)) (fun h => by cases h), ih]
      simp
theorem at_chars {a : Adr} (h : RightA a) : ∀ c ∈ atA a, c ≠ 34 ∧ c ≠ 44 := by
  intro c hc
  rcases List.mem_append.1 hc with hc | hc
  · have := locC_ne (h.lc c hc); exact ⟨this.2.2.1, this.2.2.2.2.1⟩
  · rcases List.mem_cons.1 hc with rfl | hc
    · decide
    · have := domC_ne (h.dc c hc); exact ⟨this.2.1, this.2.2.1⟩
theorem splitQ_text {a : Adr} {r acc : Bs} (h : rightA a = true) : splitQ (textA a ++ r) acc false = splitQ r (acc ++ textA a) false := by
  have hf := right_facts h
  have hat := at_chars hf
  obtain ⟨n, l, d⟩ := a
  by_cases h0 : n = []
  · subst h0
    have ht : textA ([], l, d) = atA ([], l, d) := by simp [textA]
    rw [ht]; exact splitQ_pass _ _ hat
  · by_cases hp : partsB 32 atomB n = true
    · have hch := parts_chars (q := fun c => atC c = true) (fun x hx c hc => (atom_ne hx).2 c hc) hp
      have ht : textA (n, l, d) = n ++ [32, 60] ++ atA (n, l, d) ++ [62] := by simp [textA, h0, hp]
      rw [ht]
      refine splitQ_pass _ _ (fun c hc => ?_)
      simp only [List.mem_append] at hc
      rcases hc with ((hc | hc) | hc) | hc
      · rcases hch c hc with hq | hq
        · have := locC_ne (.inl hq); exact ⟨this.2.2.1, this.2.2.2.2.1⟩
        · subst hq; decide
      · simp only [List.mem_cons, List.mem_nil_iff, or_false] at hc
        rcases hc with rfl | rfl <;> decide
      · exact hat c hc
      · simp only [List.mem_cons, List.mem_nil_iff, or_false] at hc
        subst hc; decide
    · have ht : textA (n, l, d) = 34 :: (escQ n ++ 34 :: ([32, 60] ++ atA (n, l, d) ++ [62])) := by simp [textA, h0, hp]
      rw [ht, List.cons_append, spq_q, List.append_assoc]
      simp only [List.cons_append, Bool.not_false]
      rw [splitQ_in]
      have := splitQ_pass (r := r) ([32, 60] ++ atA (n, l, d) ++ [62]) (acc ++ [34] ++ escQ n ++ [34]) (fun c hc => by
        simp only [List.mem_append, List.mem_cons, List.mem_nil_iff, or_false] at hc
        rcases hc with ((rfl | rfl) | hc) | rfl
        · decide
        · decide
        · exact hat c hc
        · decide)
      simp only [List.append_assoc, List.cons_append, List.nil_append] at this ⊢
      exact this
/-- Texts with commas between. -/
def joinA : List Adr → Bs
  | [] => []
  | [a] => textA a
  | a :: r => textA a ++ [44, 32] ++ joinA r
theorem split_join : ∀ (r : List Adr) (a : Adr) (acc : Bs), (∀ b ∈ a :: r, rightA b = true) → splitQ (joinA (a :: r)) acc false = (acc ++ textA a) :: r.map (fun b => 32 :: textA b) := by
  intro r
  induction r with
  | nil =>
    intro a acc h
    have := splitQ_text (r := []) (acc := acc) (h a (by simp))
    simp only [List.append_nil] at this
    simp [joinA, this, spq_0]
  | cons b r ih =>
    intro a acc h
    have h1 := splitQ_text (r := [44, 32] ++ joinA (b :: r)) (acc := acc) (h a (by simp))
    simp only [joinA, List.append_assoc] at h1 ⊢
    rw [h1]
    simp only [List.cons_append, List.nil_append]
    rw [spq_c, spq_o (by decide) (fun h => by cases h) (fun _ => by decide)]
    rw [ih b _ (fun x hx => h x (by simp at hx ⊢; exact .inr hx))]
    simp
theorem readAll_texts : ∀ (r : List Adr), (∀ b ∈ r, rightA b = true) → readAll (r.map (fun b => 32 :: textA b)) = (r, 0) := by
  intro r
  induction r with
  | nil => intro _; rfl
  | cons b r ih =>
    intro h
    have h1 := read_written (h b (by simp)) 1 0
    simp only [List.replicate_one, List.replicate_zero, List.append_nil, List.singleton_append] at h1
    have h2 := ih (fun x hx => h x (by simp [hx]))
    simp [readAll, h1, h2]
/-- **AddrJoins**. -/
theorem list_join {a : Adr} {r : List Adr} (h : ∀ b ∈ a :: r, rightA b = true) : listA (joinA (a :: r)) = if 64 < (a :: r).length then ([], 2) else (a :: r, 0) := by
  unfold listA
  rw [split_join r a [] h]
  simp only [List.nil_append, List.length_cons, List.length_map]
  by_cases hl : 64 < r.length + 1
  · rw [if_pos hl, if_pos hl]
  · rw [if_neg hl, if_neg hl]
    have h1 := read_written0 (h a (by simp))
    have h2 := readAll_texts r (fun x hx => h x (by simp [hx]))
    simp [readAll, h1, h2]
end Go.Ab

/-
  Ids: plain.
-/
namespace Go.Ab
set_option linter.unusedVariables false
set_option linter.unusedSimpArgs false

/-- A digit's sign. -/
def sgC (d : Nat) : UInt8 := if d < 10 then UInt8.ofNat (48 + d) else UInt8.ofNat (87 + d)
/-- A number's signs. -/
def sg32 (n : Nat) : Bs := if h : n < 32 then [sgC n] else sg32 (n / 32) ++ [sgC (n % 32)]
termination_by n
decreasing_by omega

theorem sg_lt {n : Nat} (h : n < 32) : sg32 n = [sgC n] := by rw [sg32, dif_pos h]
theorem sg_ge {n : Nat} (h : ¬ n < 32) : sg32 n = sg32 (n / 32) ++ [sgC (n % 32)] := by rw [sg32, dif_neg h]

theorem sgC_all : (List.range 32).all (fun d => alnC (sgC d) && (List.range 32).all (fun e => decide (sgC d = sgC e → d = e))) = true := by kernel_rfl
theorem sgC_al {d : Nat} (h : d < 32) : alnC (sgC d) = true := by
  have := List.all_eq_true.1 sgC_all d (List.mem_range.2 h)
  simp only [Bool.and_eq_true] at this; exact this.1
theorem sgC_inj {d e : Nat} (h : d < 32) (k : e < 32) (q : sgC d = sgC e) : d = e := by
  have := List.all_eq_true.1 sgC_all d (List.mem_range.2 h)
  simp only [Bool.and_eq_true] at this
  have := List.all_eq_true.1 this.2 e (List.mem_range.2 k)
  simp only [decide_eq_true_eq] at this; exact this q

theorem sg_facts (n : Nat) : (∀ c ∈ sg32 n, alnC c = true) ∧ sg32 n ≠ [] := by
  induction n using Nat.strongRecOn with
  | ind n ih =>
    by_cases h : n < 32
    · rw [sg_lt h]; exact ⟨fun c hc => by rw [List.mem_singleton.1 hc]; exact sgC_al h, by simp⟩
    · rw [sg_ge h]
      refine ⟨fun c hc => ?_, by simp⟩
      rcases List.mem_append.1 hc with h1 | h1
      · exact (ih (n / 32) (by omega)).1 c h1
      · rw [List.mem_singleton.1 h1]; exact sgC_al (Nat.mod_lt _ (by omega))

theorem sg_inj (n : Nat) : ∀ m, sg32 n = sg32 m → n = m := by
  induction n using Nat.strongRecOn with
  | ind n ih =>
    intro m h
    by_cases h1 : n < 32 <;> by_cases h2 : m < 32
    · rw [sg_lt h1, sg_lt h2] at h
      exact sgC_inj h1 h2 (by simpa using h)
    · rw [sg_lt h1, sg_ge h2] at h
      have := congrArg List.length h
      have h3 := (sg_facts (m / 32)).2
      have h4 := List.length_pos_iff.2 h3
      rw [List.length_append] at this; simp only [List.length_singleton] at this; omega
    · rw [sg_ge h1, sg_lt h2] at h
      have := congrArg List.length h
      have h3 := (sg_facts (n / 32)).2
      have h4 := List.length_pos_iff.2 h3
      rw [List.length_append] at this; simp only [List.length_singleton] at this; omega
    · rw [sg_ge h1, sg_ge h2] at h
      obtain ⟨a, b⟩ := List.append_inj' h rfl
      have e1 := ih (n / 32) (by omega) _ a
      have e2 := sgC_inj (Nat.mod_lt _ (by omega)) (Nat.mod_lt _ (by omega)) (by simpa using b)
      omega

theorem sg_len (k : Nat) : ∀ n, n < 32 ^ (k + 1) → (sg32 n).length ≤ k + 1 := by
  induction k with
  | zero => intro n h; rw [sg_lt (by simpa using h)]; simp
  | succ k ih =>
    intro n h
    by_cases h1 : n < 32
    · rw [sg_lt h1]; simp
    · rw [sg_ge h1]
      have := ih (n / 32) (by rw [Nat.div_lt_iff_lt_mul (by omega)]; rw [Nat.pow_succ] at h; exact h)
      simp; omega

theorem alnC_ne {c : UInt8} (h : alnC c = true) : c ≠ 46 ∧ c ≠ 64 ∧ c ≠ 62 ∧ c ≠ 60 ∧ c ≠ 32 ∧ c ≠ 9 := by
  have := all8 (p := fun c => !alnC c || (decide (c ≠ 46) && decide (c ≠ 64) && decide (c ≠ 62) && decide (c ≠ 60) && decide (c ≠ 32) && decide (c ≠ 9))) (by kernel_rfl) c
  rw [h] at this
  simpa only [Bool.not_true, Bool.false_or, Bool.and_eq_true, decide_eq_true_eq, and_assoc] using this

theorem split_none {sep : UInt8} : ∀ (l acc : Bs), (∀ c ∈ l, c ≠ sep) → splitOn sep acc l = [acc ++ l]
  | [], acc, _ => by simp [splitOn]
  | c :: r, acc, h => by
    rw [splitOn, if_neg (h c (by simp)), split_none r _ fun x hx => h x (by simp [hx])]; simp
theorem split_at {sep : UInt8} (r : Bs) : ∀ (l acc : Bs), (∀ c ∈ l, c ≠ sep) → splitOn sep acc (l ++ sep :: r) = (acc ++ l) :: splitOn sep [] r
  | [], acc, _ => by simp [splitOn]
  | c :: l, acc, h => by
    rw [List.cons_append, splitOn, if_neg (h c (by simp)), split_at r l _ fun x hx => h x (by simp [hx])]; simp

/-- An id's local part. -/
def locT (t n : Nat) : Bs := sg32 t ++ 46 :: sg32 n
def idT (t n : Nat) (d : Bs) : Bs := 60 :: (locT t n ++ 64 :: d) ++ [62]

theorem atom_sg (n : Nat) : atomB (sg32 n) = true := by
  have h := sg_facts n
  simp only [atomB, Bool.and_eq_true, Bool.not_eq_true']
  refine ⟨List.all_eq_true.2 fun c hc => by simp only [atC, h.1 c hc, Bool.true_or], ?_⟩
  cases hs : sg32 n with
  | nil => exact absurd hs h.2
  | cons a b => rfl

theorem loc_parts (t n : Nat) : partsB 46 atomB (locT t n) = true := by
  unfold partsB locT
  rw [split_at _ _ _ fun c hc => (alnC_ne ((sg_facts t).1 c hc)).1, split_none _ _ fun c hc => (alnC_ne ((sg_facts n).1 c hc)).1]
  simp [atom_sg]

theorem loc_right {t n : Nat} {d : Bs} (ht : t < 2 ^ 63) (hn : n < 2 ^ 63) (hd : rightA ([], [120], d) = true) : rightA ([], locT t n, d) = true := by
  have h1 := sg_len 12 t (Nat.lt_of_lt_of_le ht (by decide))
  have h2 := sg_len 12 n (Nat.lt_of_lt_of_le hn (by decide))
  simp only [rightA, Bool.and_eq_true, decide_eq_true_eq] at hd ⊢
  exact ⟨⟨⟨⟨by simp [locT]; omega, loc_parts t n⟩, hd.1.1.2⟩, hd.1.2⟩, hd.2⟩

theorem id_plain {t n : Nat} {d : Bs} (ht : t < 2 ^ 63) (hn : n < 2 ^ 63) (hd : rightA ([], [120], d) = true) : (plainA (locT t n ++ 64 :: d)).2 = 0 := by
  rw [plain_at (loc_right ht hn hd)]

theorem dom_ne {a : Adr} (h : rightA a = true) : ∀ c ∈ a.2.2, c ≠ 62 ∧ c ≠ 64 := by
  intro c hc
  have h1 : partsB 46 labB a.2.2 = true := by
    simp only [rightA, Bool.and_eq_true] at h; exact h.1.2
  rcases parts_chars (q := fun c => labC c = true) (fun x hx c hc => (lab_ne hx).2 c hc) h1 c hc with h2 | h2
  · have := all8 (p := fun c => !labC c || (decide (c ≠ 62) && decide (c ≠ 64))) (by kernel_rfl) c
    rw [h2] at this
    simpa only [Bool.not_true, Bool.false_or, Bool.and_eq_true, decide_eq_true_eq] using this
  · rw [h2]; decide

theorem loc_ne {t n : Nat} : ∀ c ∈ locT t n, c ≠ 62 ∧ c ≠ 64 := by
  intro c hc
  simp only [locT, List.mem_append, List.mem_cons] at hc
  rcases hc with h | h | h
  · have := alnC_ne ((sg_facts t).1 c h); exact ⟨this.2.2.1, this.2.1⟩
  · rw [h]; decide
  · have := alnC_ne ((sg_facts n).1 c h); exact ⟨this.2.2.1, this.2.1⟩

theorem loc_inj {t n u m : Nat} (h : locT t n = locT u m) : t = u ∧ n = m := by
  obtain ⟨a, b⟩ := cut_same h (fun c hc => (alnC_ne ((sg_facts t).1 c hc)).1) (fun c hc => (alnC_ne ((sg_facts u).1 c hc)).1)
  exact ⟨sg_inj _ _ a, sg_inj _ _ b⟩

theorem id_inj {t n u m : Nat} {d : Bs} : idT t n d = idT u m d ↔ t = u ∧ n = m := by
  constructor
  · intro h
    simp only [idT] at h
    have h1 := (List.append_inj' h rfl).1
    simp only [List.cons.injEq, true_and] at h1
    exact loc_inj (cut_same h1 (fun c hc => (loc_ne c hc).2) (fun c hc => (loc_ne c hc).2)).1
  · rintro ⟨rfl, rfl⟩; rfl

/-- Ids are read. -/
def idsGo : Nat → Bs → List Bs → List Bs × Int
  | 0, _, acc => if 64 < acc.length then ([], 2) else (acc, 0)
  | _ + 1, [], acc => if 64 < acc.length then ([], 2) else (acc, 0)
  | n + 1, c :: r, acc =>
    if c = 32 ∨ c = 9 then idsGo n r acc
    else if 0 ≤ Lib.index (c :: r) [62] ∧ c = 60 ∧ (plainA (((c :: r).take (Lib.index (c :: r) [62]).toNat).drop 1)).2 = 0 then
      idsGo n ((c :: r).drop ((Lib.index (c :: r) [62]).toNat + 1)) (acc ++ [(c :: r).take (Lib.index (c :: r) [62]).toNat ++ [62]])
    else ([], 3)
def idsOf (s : Bs) : List Bs × Int := idsGo (s.length + 1) s []

theorem ids_blank {n : Nat} {c : UInt8} {r : Bs} {acc : List Bs} (h : c = 32 ∨ c = 9) : idsGo (n + 1) (c :: r) acc = idsGo n r acc := by
  rw [idsGo, if_pos h]

theorem ids_one {n t k : Nat} {d r : Bs} {acc : List Bs} (ht : t < 2 ^ 63) (hk : k < 2 ^ 63) (hd : rightA ([], [120], d) = true) :
    idsGo (n + 1) (idT t k d ++ r) acc = idsGo n r (acc ++ [idT t k d]) := by
  have hix : Lib.index (idT t k d ++ r) [62] = ((60 :: (locT t k ++ 64 :: d)).length : Int) := by
    rw [show idT t k d ++ r = (60 :: (locT t k ++ 64 :: d)) ++ 62 :: r by simp [idT]]
    refine index_chr _ _ fun c hc => ?_
    simp only [List.mem_cons, List.mem_append] at hc
    rcases hc with h | h | h | h
    · rw [h]; decide
    · exact (loc_ne c h).1
    · rw [h]; decide
    · exact (dom_ne hd c h).1
  obtain ⟨L, hL⟩ : ∃ L, L = locT t k ++ 64 :: d := ⟨_, rfl⟩
  have ecs : idT t k d ++ r = 60 :: (L ++ 62 :: r) := by rw [hL]; simp [idT]
  have eid : idT t k d = 60 :: L ++ [62] := by rw [hL]; simp [idT]
  rw [ecs, ← hL] at hix
  rw [ecs, eid]
  have e1 : (Int.toNat ((60 :: L).length : Int)) = L.length + 1 := by simp
  rw [idsGo, if_neg (by decide), if_pos]
  · rw [hix, e1]
    congr 1
    · simp [List.drop_append]
    · simp
  · refine ⟨by rw [hix]; omega, rfl, ?_⟩
    rw [hix, e1]
    have : ((60 :: (L ++ 62 :: r)).take (L.length + 1)).drop 1 = L := by simp
    rw [this, hL]; exact id_plain ht hk hd

end Go.Ab
