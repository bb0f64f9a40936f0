/-
  Ranges over functions; memory that grows.
-/
import Derived.Test.YtihjnlnmgbabjaaGreatDoorA3
import Derived.KernelRfl
set_option linter.unusedVariables false
set_option linter.unusedSimpArgs false
namespace Go.Ab
variable {A : AP} {st : St} {e : Env}

theorem W_rangeFunc {f : Opd} {ps : List Nat} {asg body : ACode} {fid : Nat} {caps : List PV} {fn : ACFn} {Q : Ex → Env → St → Prop} (hf : f.ev e = .fn fid caps) (hA : A fid = some (.code fn))
    (h : ∃ v s1 r, call A (.fn fid caps) [.yld st.loops.length] { st with loops := st.loops ++ [recOf e ps asg body] } = some (v, s1) ∧ s1.loops[st.loops.length]? = some r ∧ r.status ≠ 1 ∧ Q r.pend e { s1 with loops := s1.loops.take st.loops.length }) :
    W A (.rangeFunc f ps asg body) e st Q := by
  obtain ⟨v, s1, r, h1, h2, h3, h4⟩ := h
  refine ⟨(r.pend, e, { s1 with loops := s1.loops.take st.loops.length }), ?_, h4⟩
  rw [ex_rangeFunc hf hA, h1]
  simp only [h2, h3, if_false]

def roundQ (k : Nat) (K : Bool → St → Prop) : Ex → Env → St → Prop := fun x _ s2 => ∃ r2, s2.loops[k]? = some r2 ∧ K (decide (x = .normal)) { s2 with loops := s2.loops.set k { r2 with status := if x = .normal then 0 else 2, pend := x } }

theorem yld_of_W {k : Nat} {args : List PV} {r : LoopS} {e1 : Env} {K : Bool → St → Prop} (hr : st.loops[k]? = some r) (hs : r.status = 0) (hl : args.length = r.params.length)
    (ha : ex A r.assign (updAll r.env r.params args) st = some (.normal, e1, st))
    (hb : W A r.body e1 { st with loops := st.loops.set k { r with status := 1 } } (roundQ k K)) : ∃ b s', call A (.yld k) args st = some (.bool b, s') ∧ K b s' := by
  obtain ⟨⟨x, e2, s2⟩, h1, r2, h2, h3⟩ := hb
  refine ⟨decide (x = .normal), _, ?_, h3⟩
  rw [call_yld hr hs hl, ha]
  simp only [hr, hs, if_true]
  rw [h1]
  simp only at h2 ⊢
  rw [h2]

theorem ex_of_W {c : ACode} {E : Env} {S : St} {x : Ex} (h : W A c e st (fun x' e' s' => x' = x ∧ e' = E ∧ s' = S)) : ex A c e st = some (x, E, S) := by
  obtain ⟨⟨x', e', s'⟩, h1, rfl, rfl, rfl⟩ := h
  exact h1
theorem get_app {α : Type} {l r : List α} {k : Nat} : (l ++ r)[l.length + k]? = r[k]? := by
  rw [List.getElem?_append_right (by omega)]; congr 1; omega
theorem get_app0 {α : Type} {l r : List α} {a : α} : (l ++ a :: r)[l.length]? = some a := by simp
theorem set_app {α : Type} {l r : List α} {k : Nat} {v : α} : (l ++ r).set (l.length + k) v = l ++ r.set k v := by
  rw [List.set_append_right _ _ (by omega)]; congr 2; omega
theorem set_app0 {α : Type} {l r : List α} {a v : α} : (l ++ a :: r).set l.length v = l ++ v :: r := by
  have := set_app (l := l) (r := a :: r) (k := 0) (v := v)
  simp only [Nat.add_zero, List.set_cons_zero] at this; exact this

theorem tokLt_mono {x : PV} {n m : Nat} (h : x.tokLt n = true) (hnm : n ≤ m) : x.tokLt m = true := by
  cases x with
  | bys t l => cases t <;> simp_all [PV.tokLt, Tok.lt]; omega
  | sl e t l => cases t <;> simp_all [PV.tokLt, Tok.lt]; omega
  | _ => rfl
def PV.vs (esz : Nat) : PV → Option (List PV)
  | .nils => some []
  | .sl e _ xs => if e = esz then some xs else none
  | _ => none
theorem vs_cases {esz : Nat} {x : PV} {xs : List PV} (h : x.vs esz = some xs) : (x = .nils ∧ xs = []) ∨ ∃ t, x = .sl esz t xs := by
  cases x <;> simp [PV.vs] at h
  · exact .inl ⟨rfl, h⟩
  · obtain ⟨rfl, rfl⟩ := h; exact .inr ⟨_, rfl⟩
theorem len_vs {esz : Nat} {x : PV} {xs : List PV} (h : x.vs esz = some xs) : lenPV false x = some (.int .i64 (xs.length : Int)) := by
  rcases vs_cases h with ⟨rfl, rfl⟩ | ⟨t, rfl⟩ <;> rfl
theorem iaddr_vs {esz : Nat} {x : PV} {xs : List PV} {k : IntKind} {c : Int} (h : x.vs esz = some xs) (h1 : 0 ≤ c) (h2 : c.toNat < xs.length) : iaddrPV esz x (.int k c) = some (.cp (xs.getD c.toNat .undef).cells) := by
  rcases vs_cases h with ⟨rfl, rfl⟩ | ⟨t, rfl⟩
  · simp at h2
  · simp [iaddrPV, intOf, h1, show c < xs.length by omega]
theorem newSl_vs {esz : Nat} {xs : List PV} : (newSl st esz xs).vs esz = some xs := by
  unfold newSl; split
  · rename_i h; rw [h]; rfl
  · simp [PV.vs]
end Go.Ab
/-
  Cuts in code; slices that live on in boxes.
-/
namespace Go.Ab
variable {A : AP} {st : St} {e : Env}

theorem W_cut {a b : ACode} {Q : Ex → Env → St → Prop} (M : Env → St → Prop) (h1 : W A a e st (fun x e' s' => x = .normal ∧ M e' s')) (h2 : ∀ e' s', M e' s' → W A b e' s' Q) : W A (.seq a b) e st Q := by
  rw [qaaz]
  refine W_mono h1 ?_
  rintro x e s ⟨rfl, h⟩
  exact h2 e s h

theorem law_of_W {f k : Nat} {args : List PV} {fn : ACFn} (hA : A f = some (.code fn)) (hr : fn.results = [.tmp k])
    (h : W A fn.body (env0 args) { st with low := st.boxes.length } (fun x e _ => (x = .normal ∨ x = .ret) ∧ e k = .bool true)) : ∃ s', call A (.fn f []) args st = some (.bool true, s') := by
  obtain ⟨⟨x, e1, st1⟩, h1, h2, h3⟩ := h
  simp only at h2 h3
  have hl : ∃ s', leave st st1 (.bool true) = (.bool true, s') := by
    unfold leave
    simp only [PV.inB, if_true]
    split
    · exact ⟨_, rfl⟩
    · exact ⟨_, rfl⟩
  obtain ⟨s', hl⟩ := hl
  refine ⟨s', ?_⟩
  have hres : resOf e1 st1 fn.results = some (.bool true) := by rw [hr]; simp [resOf, rvAll, rv1, h3, notTup, packRes]
  refine call_of_W hA ⟨(x, e1, st1), by rw [List.append_nil]; exact h1, h2, .bool true, hres, hl⟩

def Live (s : St) (v : PV) (l : List UInt8) : Prop := (v = .nils ∧ l = []) ∨ ∃ i, v = .bys (.own i) l ∧ s.toks[i]? = some true
theorem Live.by {s : St} {v : PV} {l : List UInt8} (h : Live s v l) : v.by = some l := by
  rcases h with ⟨rfl, rfl⟩ | ⟨i, rfl, _⟩ <;> rfl
theorem Live.lt {s : St} {v : PV} {l : List UInt8} (h : Live s v l) {i : Nat} (hi : tokOf v = some i) : i < s.toks.length ∧ s.toks[i]? = some true := by
  rcases h with ⟨rfl, rfl⟩ | ⟨j, rfl, hj⟩
  · cases hi
  · simp only [tokOf, Option.some.injEq] at hi
    subst hi
    exact ⟨(List.getElem?_eq_some_iff.1 hj).1, hj⟩
theorem Live.tokLt {s : St} {v : PV} {l : List UInt8} (h : Live s v l) : v.tokLt s.toks.length = true := by
  rcases h with ⟨rfl, rfl⟩ | ⟨j, rfl, hj⟩
  · rfl
  · simp [PV.tokLt, Tok.lt, (List.getElem?_eq_some_iff.1 hj).1]
theorem Live.move {s s' : St} {v : PV} {l : List UInt8} (h : Live s v l) (ht : ∀ i, tokOf v = some i → s'.toks[i]? = s.toks[i]?) : Live s' v l := by
  rcases h with h | ⟨j, rfl, hj⟩
  · exact .inl h
  · exact .inr ⟨j, rfl, by rw [ht j rfl]; exact hj⟩
theorem Live.tok1 {s : St} {v : PV} {l : List UInt8} (h : Live s v l) : Live s.tok1 v l := h.move fun i hi => by
  show (s.toks ++ [true])[i]? = _
  rw [List.getElem?_append_left (h.lt hi).1]

theorem app8_live {s : St} {v y : PV} {l m : List UInt8} (h : Live s v l) (hy : src8 s y = some m) (hl : l.length + m.length ≤ room) :
    ∃ v' s', app8 s v y = some (v', s') ∧ s'.boxes = s.boxes ∧ s'.loops = s.loops ∧ s'.low = s.low ∧ Live s' v' (l ++ m) ∧ s.toks.length ≤ s'.toks.length ∧
      (∀ i, i < s.toks.length → tokOf v ≠ some i → s'.toks[i]? = s.toks[i]?) ∧ (∀ i, tokOf v' = some i → (tokOf v = some i ∧ s' = s) ∨ s.toks.length ≤ i) ∧ (m ≠ [] → tokOf v' = some s.toks.length) := by
  by_cases hm : m = []
  · subst hm
    refine ⟨v, s, ?_, rfl, rfl, rfl, by simpa using h, Nat.le_refl _, fun _ _ _ => rfl, fun i hi => .inl ⟨hi, rfl⟩, fun h => absurd rfl h⟩
    rcases h with ⟨rfl, rfl⟩ | ⟨j, rfl, hj⟩ <;> simp [app8, hy]
  · rcases h with ⟨rfl, rfl⟩ | ⟨j, rfl, hj⟩
    · simp at hl
      refine ⟨.bys (.own s.toks.length) m, s.tok1, by simp [app8, hy, hm, freshT, hl, St.tok1], rfl, rfl, rfl, .inr ⟨_, rfl, by simp [St.tok1]⟩, by simp [St.tok1], fun i hi _ => ?_, fun i hi => .inr ?_, fun _ => rfl⟩
      · show (s.toks ++ [true])[i]? = _
        rw [List.getElem?_append_left hi]
      · simp only [tokOf, Option.some.injEq] at hi; omega
    · refine ⟨.bys (.own s.toks.length) (l ++ m), ⟨s.boxes, s.toks.set j false ++ [true], s.loops, s.low⟩, by simp [app8, hy, hm, freshT, appTok, hj, hl], rfl, rfl, rfl, .inr ⟨_, rfl, by simp []⟩, by simp, fun i hi hne => ?_, fun i hi => .inr ?_, fun _ => rfl⟩
      · show (s.toks.set j false ++ [true])[i]? = _
        rw [List.getElem?_append_left (by simpa using hi), List.getElem?_set_ne (fun h => hne (by rw [h]; rfl))]
      · simp only [tokOf, Option.some.injEq] at hi; omega
end Go.Ab
namespace Go.Ab
variable {A : AP} {st : St} {e : Env}
end Go.Ab
/-
  strings.Builder: what is written, and its text.
-/
namespace Go.Ab
variable {P : St → Prop} {st : St} {e : Env} {s s' : St} {b : Nat} {x : PV} {l : List UInt8}

structure Bu (s : St) (b : Nat) (x : PV) (l : List UInt8) : Prop where
  bx : s.boxes[b]? = some [.bslot, x] ∨ s.boxes[b]? = some [.ptr b 0, x]
  lv : Live s x l

structure BuStep (s s' : St) (b : Nat) (x x' : PV) (l' : List UInt8) : Prop where
  bx : s'.boxes = s.boxes.set b [.ptr b 0, x']
  lv : Live s' x' l'
  lp : s'.loops = s.loops
  tl : s.toks.length ≤ s'.toks.length
  tk : ∀ i, i < s.toks.length → tokOf x ≠ some i → s'.toks[i]? = s.toks[i]?
  tn : ∀ i, tokOf x' = some i → tokOf x = some i ∨ s.toks.length ≤ i
  lw : min s.low b ≤ s'.low

theorem Bu.lt (h : Bu s b x l) : b < s.boxes.length := by
  rcases h.bx with h | h <;> exact (List.getElem?_eq_some_iff.1 h).1
structure Kept (st s : St) : Prop where
  bx : s.boxes.take st.boxes.length = st.boxes
  lp : s.loops = st.loops
  lw : st.boxes.length ≤ s.low
  tk : s.toks.take st.toks.length = st.toks

theorem Kept.start : Kept st { boxes := st.boxes, toks := st.toks, loops := st.loops, low := st.boxes.length } := ⟨by simp, rfl, Nat.le_refl _, by simp⟩
theorem Kept.bl (h : Kept st s) : st.boxes.length ≤ s.boxes.length := by
  have := congrArg List.length h.bx
  simp at this; omega
theorem Kept.tl (h : Kept st s) : st.toks.length ≤ s.toks.length := by
  have := congrArg List.length h.tk
  simp at this; omega
theorem Kept.get (h : Kept st s) {i : Nat} (hi : i < st.toks.length) : s.toks[i]? = st.toks[i]? := by
  have := congrArg (fun z => z[i]?) h.tk
  simpa [List.getElem?_take, hi] using this
theorem Kept.of {s' : St} (h : Kept st s) (hb : s'.boxes.take st.boxes.length = s.boxes.take st.boxes.length) (hl : s'.loops = s.loops) (hw : st.boxes.length ≤ s'.low) (ht : ∀ i, i < st.toks.length → s'.toks[i]? = s.toks[i]?) (hn : st.toks.length ≤ s'.toks.length) : Kept st s' :=
  ⟨hb.trans h.bx, hl.trans h.lp, hw, by
    apply List.ext_getElem?
    intro i
    rw [List.getElem?_take]
    split
    · rename_i hi
      rw [ht i hi, h.get hi]
    · rename_i hi
      rw [List.getElem?_eq_none (by omega)]⟩
theorem Kept.tok1 (h : Kept st s) : Kept st s.tok1 := h.of rfl rfl h.lw (fun i hi => by
  show (s.toks ++ [true])[i]? = _
  rw [List.getElem?_append_left (by have := h.tl; omega)]) (by have := h.tl; simp [St.tok1]; omega)
theorem Kept.leave (h : Kept st s) {v : PV} (h1 : v.inB st.boxes.length = true) (h2 : ∀ n toks, keepRes n toks v = (v, [])) : leave st s v = (v, st) := by
  have e1 := h.bx; have e2 := h.lp; have e3 := h.tk
  simp [Ab.leave, h1, h.lw, h2, e1, e2, e3]
theorem Kept.alloc {z : List PV} (h : Kept st s) : Kept st { s with boxes := s.boxes ++ [z] } := h.of (by
  have := h.bl
  rw [List.take_append_of_le_length this]) rfl h.lw (fun _ _ => rfl) h.tl
theorem Kept.step {x' : PV} {l' : List UInt8} (h : Kept st s) (hs : BuStep s s' b x x' l') (hb : st.boxes.length ≤ b) (hm : ∀ i, tokOf x = some i → st.toks.length ≤ i) : Kept st s' ∧ ∀ i, tokOf x' = some i → st.toks.length ≤ i := by
  have htl := h.tl
  refine ⟨h.of ?_ hs.lp (by have := hs.lw; have := h.lw; omega) (fun i hi => hs.tk i (by omega) fun hh => by have := hm i hh; omega) (by have := hs.tl; omega), fun i hi => ?_⟩
  · rw [hs.bx, List.take_set_of_le hb]
  · rcases hs.tn i hi with h1 | h1
    · exact hm i h1
    · omega

theorem Kept.string (h : Kept st s) (hs : ∃ s', P s' ∧ s'.boxes = s.boxes ∧ s'.loops = s.loops ∧ s'.low = s.low ∧ s'.toks.length = s.toks.length ∧ ∀ i, tokOf x ≠ some i → s'.toks[i]? = s.toks[i]?) (hm : ∀ i, tokOf x = some i → st.toks.length ≤ i) : ∃ s', P s' ∧ Kept st s' := by
  obtain ⟨s', h0, h1, h2, h3, h4, h5⟩ := hs
  exact ⟨s', h0, h.of (by rw [h1]) h2 (by rw [h3]; exact h.lw) (fun i hi => h5 i fun hh => by have := hm i hh; omega) (by rw [h4]; exact h.tl)⟩

def Mine (st s : St) (v : PV) (l : List UInt8) : Prop := Live s v l ∧ ∀ t, tokOf v = some t → st.toks.length ≤ t
theorem Mine.nil : Mine st s .nils [] := ⟨.inl ⟨rfl, rfl⟩, fun t h => (by cases h)⟩
theorem Mine.by {v : PV} (h : Mine st s v l) : v.by = some l := h.1.by
theorem Mine.tok1 {v : PV} (h : Mine st s v l) : Mine st s.tok1 v l := ⟨h.1.tok1, h.2⟩
theorem Kept.app8 {v y : PV} {m : List UInt8} (hk : Kept st s) (h : Mine st s v l) (hy : src8 s y = some m) (hl : l.length + m.length ≤ room) :
    ∃ v' s', Ab.app8 s v y = some (v', s') ∧ Kept st s' ∧ Mine st s' v' (l ++ m) := by
  obtain ⟨v', s', a1, a2, a3, a4, a5, a6, a7, a8, a9⟩ := app8_live h.1 hy hl
  have htl := hk.tl
  refine ⟨v', s', a1, hk.of (by rw [a2]) a3 (by rw [a4]; exact hk.lw) (fun i hi => a7 i (by omega) fun hh => by have := h.2 i hh; omega) (by omega), a5, fun t ht => ?_⟩
  rcases a8 t ht with ⟨h1, _⟩ | h1
  · exact h.2 t h1
  · omega
theorem Kept.push {v : PV} {c : UInt8} (hk : Kept st s) (h : Mine st s v l) (hl : l.length + 1 ≤ room) :
    ∃ v' s', Ab.app8 s.tok1 v (.bys (.own s.toks.length) [c]) = some (v', s') ∧ Kept st s' ∧ Mine st s' v' (l ++ [c]) :=
  hk.tok1.app8 h.tok1 rfl (by simpa using hl)
theorem lit8_2 {c d : UInt8} : lit8Fill (List.replicate 2 0) [(0, .b8 c), (1, .b8 d)] = some [c, d] := rfl
def Flat (v : PV) : Prop := (∀ n, v.inB n = true) ∧ (∀ n toks, keepRes n toks v = (v, []))
theorem Kept.leave' (h : Kept st s) {v : PV} (hv : Flat v) : Ab.leave st s v = (v, st) := h.leave (hv.1 _) hv.2
end Go.Ab
/-
  Operations on texts; the library's and the document's searches in them.
-/
namespace Go.Ab
variable {A : AP} {st : St} {e : Env}

theorem len_s {l : List UInt8} : lenPV true (.str l) = some (.int .i64 (l.length : Int)) := rfl
theorem idx_s {l : List UInt8} {k : IntKind} {c : Int} (h1 : 0 ≤ c) (h2 : c.toNat < l.length) : idxSPV (.str l) (.int k c) = some (.b8 (l.getD c.toNat 0)) := by
  simp [idxSPV, intOf, h1, show c < l.length by omega]
theorem slc_s_lo {l : List UInt8} {k : IntKind} {c : Int} (h1 : 0 ≤ c) (h2 : c.toNat ≤ l.length) : slcPV 0 (.str l) (some (.int k c)) none none = some (.str (l.drop c.toNat)) := by
  simp [slcPV, bnd, intOf, h1, show c ≤ l.length by omega]
theorem slc_s_hi {l : List UInt8} {k : IntKind} {c : Int} (h1 : 0 ≤ c) (h2 : c.toNat ≤ l.length) : slcPV 0 (.str l) none (some (.int k c)) none = some (.str (l.take c.toNat)) := by
  simp [slcPV, bnd, intOf, h1, show c ≤ l.length by omega]
theorem adds {ek : EK} {a b : List UInt8} (h : a.length + b.length ≤ 9223372036854775807) : binPV .add ek (.str a) (.str b) = some (.str (a ++ b)) := by
  simp [binPV, binS, h]

theorem drop_getD {l : List UInt8} {i : Nat} (h : i < l.length) : l.drop i = l.getD i 0 :: l.drop (i + 1) := by
  rw [List.drop_eq_getElem_cons h]; congr 1; simp [List.getD, h]
theorem take_getD {l : List UInt8} {i : Nat} (h : i < l.length) : l.take (i + 1) = l.take i ++ [l.getD i 0] := by
  rw [List.take_succ_eq_append_getElem h]; simp [List.getD, h]

theorem index_one {l : List UInt8} {c : UInt8} : 0 ≤ Lib.index l [c] ↔ c ∈ l := by
  induction l with
  | nil => simp [Lib.index]
  | cons d r ih =>
    simp only [Lib.index]
    by_cases h : c = d
    · subst h; simp
    · have h' : ([c] : List UInt8).isPrefixOf (d :: r) = false := by simp [List.isPrefixOf, h]
      have hge := Lib.index_ge r [c]
      rw [h']
      simp only [Bool.false_eq_true, if_false, List.mem_cons, h, false_or]
      rw [← ih]
      split
      · rename_i h2; simp at h2; omega
      · rename_i h2; simp at h2; omega

theorem strIndex_spec {a b : List UInt8} (h : a.length < 4294967281) : call prog (.fn 82 []) [.str a, .str b] st = some (.int .i64 (Lib.index a b), st) := by
  rw [call_prim prog_82]; simp [pStrIndex, h]
theorem strIndexByte_spec {a : List UInt8} {c : UInt8} : call prog (.fn 78 []) [.str a, .b8 c] st = some (.int .i64 (Lib.indexByte a c), st) := by
  rw [call_prim prog_78]; simp [pStrIndexByte]

end Go.Ab
/-
  Names in small letters; fields of a name; how big a header is.
-/
namespace Go.Ab
variable {st : St} {e : Env}

def bst (st : St) (l : List UInt8) : St := ⟨st.boxes ++ [l.map .b8], st.toks, st.loops, st.boxes.length⟩
theorem bst_eq {l : List UInt8} : (⟨st.boxes ++ [l.map .b8], st.toks, st.loops, st.boxes.length⟩ : St) = bst st l := rfl
theorem iaddr_ms {b n : Nat} {k : IntKind} {c : Int} (h1 : 0 ≤ c) (h2 : c.toNat < n) : iaddrPV 1 (.ms b 0 n) (.int k c) = some (.ptr b c.toNat) := by
  simp [iaddrPV, intOf, h1, show c < n by omega]
theorem len_ms {b n : Nat} : lenPV false (.ms b 0 n) = some (.int .i64 (n : Int)) := rfl
theorem load_bst {l : List UInt8} {i : Nat} (h : i < l.length) : loadPV (bst st l) false 1 (.ptr st.boxes.length i) = some (.b8 (l.getD i 0)) := by
  simp only [loadPV, bst, get_app0]
  rw [← List.map_drop, drop_getD h]; rfl
theorem store_bst {l : List UInt8} {i : Nat} {c : UInt8} (h : i < l.length) : storePV (bst st l) 1 (.ptr st.boxes.length i) (.b8 c) = some (bst st (l.set i c)) := by
  simp only [storePV, bst, get_app0, PV.cells]
  have h2 : i + 1 ≤ l.length := by omega
  simp [h2, PV.inB, leafOk, setCells, hasTok, tokOf, List.map_set]
theorem bytesOf_map : ∀ l : List UInt8, bytesOf (l.map .b8) = some l := by
  intro l
  induction l with
  | nil => rfl
  | cons c r ih => simp [bytesOf, ih]
theorem b2s_bst {l : List UInt8} {n : Nat} (h : n = l.length) : b2s true (bst st l) (.ms st.boxes.length 0 n) = some l := by
  subst h
  simp only [b2s, if_true, src8, bst, get_app0]
  rw [if_pos (by simp), List.drop_zero, List.take_of_length_le (by simp), bytesOf_map]
theorem leave_bst {l : List UInt8} {v : PV} (h1 : v.inB st.boxes.length = true) (h2 : ∀ n toks, keepRes n toks v = (v, [])) : leave st (bst st l) v = (v, st) := by
  simp [leave, bst, h1, h2]

theorem add_8 {ek : EK} {a b : UInt8} : binPV .add ek (.b8 a) (.b8 b) = some (.b8 (a + b)) := rfl
def lowC (c : UInt8) : UInt8 := if 65 ≤ c ∧ c ≤ 90 then c + 32 else c
def lowOf (s : List UInt8) : List UInt8 := s.map lowC

theorem lower_spec {s : List UInt8} (h : s.length ≤ 1000000) : call prog (.fn 167 []) [.str s] st = some (.str (lowOf s), st) := by
  refine call_of_W prog_167 ?_
  unfold F_fields_lower; dsimp only
  simp (maxSteps := 1000000) (disch := omega) only [bst_eq, len_ms, qaaz, qabz, qadz, qajz, qalz, evOp, qaoz, qapz, qarz, qatz, qavz,
 ↓reduceIte, List.append_nil, qawz, Option.map_some, qazz, reduceCtorEq]
  obtain ⟨I, hI⟩ : ∃ I : Nat → Env → St → Prop, I = fun n e s' => ∃ (i : Nat) (l : List UInt8), n = s.length - i ∧ i ≤ s.length ∧ l = lowOf (s.take i) ++ s.drop i ∧ s' = bst st l ∧ e 3 = .ms st.boxes.length 0 s.length ∧ e 8 = .ms st.boxes.length 0 s.length ∧ e 9 = .int .i64 (s.length : Int) ∧ e 10 = .int .i64 (i : Int) := ⟨_, rfl⟩
  refine W_loop I ?_ (n := s.length) (by
    rw [hI]
    exact ⟨0, s, rfl, by omega, by simp [lowOf], rfl, rfl, rfl, rfl, rfl⟩)
  intro n e s' hh
  rw [hI] at hh
  obtain ⟨i, l, rfl, hi, hl, rfl, h3, h8, h9, h10⟩ := hh
  have hll : l.length = s.length := by rw [hl]; simp [lowOf]; omega
  by_cases hlt : i < s.length
  · obtain ⟨c, hc⟩ : ∃ c, c = s.getD i 0 := ⟨_, rfl⟩
    have hlc : l.getD i 0 = c := by
      rw [hl, hc]
      simp only [List.getD]
      rw [List.getElem?_append_right (by simp [lowOf]; omega)]
      simp [lowOf, Nat.min_eq_left hi]
    have hnext : ∀ (E : Env) (l' : List UInt8), l' = l.set i (lowC c) → E 3 = .ms st.boxes.length 0 s.length → E 8 = .ms st.boxes.length 0 s.length → E 9 = .int .i64 (s.length : Int) → E 10 = .int .i64 ((i + 1 : Nat) : Int) → I (s.length - (i + 1)) E (bst st l') := by
      intro E l' k0 k1 k2 k3 k4
      rw [hI]
      refine ⟨i + 1, l', rfl, by omega, ?_, rfl, k1, k2, k3, k4⟩
      rw [k0, hl, take_getD hlt, ← hc, drop_getD hlt]
      have hn : (lowOf (s.take i)).length = i := by simp [lowOf]; omega
      rw [List.set_append_right _ _ (by omega), hn]
      simp [lowOf]
    by_cases h65 : 65 ≤ c
    · by_cases h90 : c ≤ 90
      · simp (maxSteps := 1000000) (disch := omega) only [h3, h8, h9, h10, hlt, iaddr_ms, load_bst (st := st) (l := l) (i := i) (by omega), hlc, h65, h90, add_8, store_bst (st := st) (l := l) (i := i) (by omega), add_n, qaaz, qabz, qacz, qadz, qaez, qajz, qakz, qalz, qamz, qanz, evOp, qaoz, qapz, qarz, qatz, qauz, qavz,
 ↓reduceIte, Nat.reduceEqDiff, Option.map_some, qazz, qbdz, qbhz, qbpz, qbyz, qcaz, beq_true, decide_true, Int.toNat_natCast, Int.ofNat_lt, Int.reduceToNat]
        exact loopQ_intro (m := s.length - (i + 1)) (by omega) (hnext _ (l.set i (c + 32)) (by simp [lowC, h65, h90]) h3 h8 h9 rfl)
      · simp (maxSteps := 1000000) (disch := omega) only [h8, h9, h10, hlt, iaddr_ms, load_bst (st := st) (l := l) (i := i) (by omega), hlc, h65, h90, add_n, qaaz, qabz, qacz, qadz, qaez, qajz, qakz, qalz, qamz, qanz, evOp, qaoz, qapz, qarz, qatz, qavz,
 ↓reduceIte, Nat.reduceEqDiff, Option.map_some, qazz, qbdz, qbhz, qbpz, qbyz, qcaz, beq_true, decide_true, decide_false,
 Int.toNat_natCast, Int.ofNat_lt, Bool.false_eq_true, Int.reduceToNat]
        exact loopQ_intro (m := s.length - (i + 1)) (by omega) (hnext _ l (by simp only [lowC, h90, and_false, if_false]; rw [← hlc, List.getD, List.getElem?_eq_getElem (by omega)]; simp) h3 h8 h9 rfl)
    · simp (maxSteps := 1000000) (disch := omega) only [h8, h9, h10, hlt, iaddr_ms, load_bst (st := st) (l := l) (i := i) (by omega), hlc, h65, add_n, qaaz, qabz, qacz, qadz, qaez, qajz, qakz, qalz, qamz, qanz, evOp, qaoz, qapz, qarz, qatz, qavz,
 ↓reduceIte, Nat.reduceEqDiff, Option.map_some, qazz, qbdz, qbhz, qbpz, qcaz, beq_true, decide_true, decide_false,
 Int.toNat_natCast, Int.ofNat_lt, Bool.false_eq_true, Int.reduceToNat]
      exact loopQ_intro (m := s.length - (i + 1)) (by omega) (hnext _ l (by simp only [lowC, h65, false_and, if_false]; rw [← hlc, List.getD, List.getElem?_eq_getElem (by omega)]; simp) h3 h8 h9 rfl)
  · obtain rfl : i = s.length := by omega
    simp (maxSteps := 1000000) (disch := omega) only [h3, h9, h10, hlt, b2s_bst (st := st) (l := l) hll.symm, qaaz, qabz, qacz, qagz, qaiz, qajz, qalz, evOp, qaoz, qarz, qatz, qavz,
 ↓reduceIte, Nat.reduceEqDiff, Option.map_some, qazz, qbbz, qbfz, qbhz, qbjz, qblz, qbpz, decide_false,
 Int.ofNat_lt, Bool.false_eq_true]
    exact ⟨.str (lowOf s), by rw [hl]; simp [resOf, rvAll, rv1, qavz, notTup, packRes], leave_bst rfl (fun _ _ => rfl)⟩

theorem Same_spec {a b : List UInt8} (ha : a.length ≤ 1000000) (hb : b.length ≤ 1000000) : call prog (.fn 155 []) [.str a, .str b] st = some (.bool (decide (lowOf a = lowOf b)), st) := by
  refine call_of_W prog_155 ?_
  unfold F_fields_Same; dsimp only
  simp (maxSteps := 1000000) (disch := omega) only [lower_spec ha, lower_spec hb, qaaz, qabz, qaiz, qajz, qalz, evOp, qaoz, qapz, qaqz, qarz, qatz, qavz,
 ↓reduceIte, Nat.reduceEqDiff, List.append_nil, List.map_cons, List.map_nil, qawz, qaxz, Option.map_some, qazz, qblz, qcbz, reduceCtorEq]
  exact end1 rfl Kp_bool
end Go.Ab
/-
  Fields of a name; how big a header is.
-/
namespace Go.Ab
variable {st s : St} {e : Env}

abbrev Fld := List UInt8 × List UInt8
def fV (f : Fld) : PV := .agg [.str f.1, .str f.2]
theorem take_getD' {α : Type} {l : List α} {i : Nat} {d : α} (h : i < l.length) : l.take (i + 1) = l.take i ++ [l.getD i d] := by
  rw [List.take_succ_eq_append_getElem h]; simp [List.getD, h]

theorem iaddr_f {x : PV} {fs : List Fld} {k : IntKind} {c : Int} (h : x.vs 2 = some (fs.map fV)) (h1 : 0 ≤ c) (h2 : c.toNat < fs.length) : iaddrPV 2 x (.int k c) = some (.cp [.str (fs.getD c.toNat ([], [])).1, .str (fs.getD c.toNat ([], [])).2]) := by
  rw [iaddr_vs h h1 (by simpa using h2)]
  simp [List.getD, h2, fV, PV.cells]
theorem load_f2 {a b : PV} : loadPV st true 2 (.cp [a, b]) = some (.agg [a, b]) := rfl
theorem store_f {B : List (List PV)} {T : List Bool} {L : List LoopS} {lo : Nat} {a b : List UInt8} : storePV ⟨B ++ [[.str [], .str []]], T, L, lo⟩ 2 (.ptr B.length 0) (.agg [.str a, .str b]) = some ⟨B ++ [[.str a, .str b]], T, L, lo⟩ := by
  simp [storePV, PV.cells, PV.inB, PV.inB.inBAll, leafOk, setCells, hasTok, tokOf]
theorem load_b0 {B : List (List PV)} {T : List Bool} {L : List LoopS} {lo : Nat} {a b : List UInt8} : loadPV ⟨B ++ [[.str a, .str b]], T, L, lo⟩ false 1 (.ptr B.length 0) = some (.str a) := by
  simp [loadPV, readCells]
theorem load_b1 {B : List (List PV)} {T : List Bool} {L : List LoopS} {lo : Nat} {a b : List UInt8} : loadPV ⟨B ++ [[.str a, .str b]], T, L, lo⟩ false 1 (.ptr B.length 1) = some (.str b) := by
  simp [loadPV, readCells]

def okF (f : Fld) : Prop := f.1.length ≤ 200 ∧ f.2.length ≤ 5000
theorem Kept.alloc' {z : List PV} (h : Kept st s) : Kept st ⟨s.boxes ++ [z], s.toks, s.loops, s.low⟩ := h.alloc

end Go.Ab
/-
  Names and values of fields; texts without blanks at their ends.
-/
namespace Go.Ab
variable {st s : St} {e : Env}

theorem all_getD {p : UInt8 → Bool} {l : List UInt8} (h : ∀ j, j < l.length → p (l.getD j 0) = true) : l.all p = true := by
  rw [List.all_eq_true]
  intro c hc
  obtain ⟨i, hi, rfl⟩ := List.mem_iff_getElem.1 hc
  have := h i hi
  simpa [List.getD, hi] using this
theorem all_bad {p : UInt8 → Bool} {l : List UInt8} {j : Nat} (hj : j < l.length) (h : p (l.getD j 0) = false) : l.all p = false := by
  rw [List.all_eq_false]
  refine ⟨l.getD j 0, ?_, by rw [h]; simp⟩
  simp [List.getD, hj]

def nameC (c : UInt8) : Bool := !decide (c < 33) && !decide (126 < c) && !decide (c = 58)
def nameB (l : List UInt8) : Bool := decide (1 ≤ l.length) && decide (l.length ≤ 64) && l.all nameC

theorem isName_spec {l : List UInt8} : call prog (.fn 157 []) [.str l] st = some (.bool (nameB l), st) := by
  refine call_of_W prog_157 ?_
  unfold F_fields_isName; dsimp only
  by_cases h1 : l.length < 1
  · have e1 : (l.length : Int) < 1 := by omega
    simp (maxSteps := 1000000) (disch := omega) only [len_s, e1, qaaz, qabz, qacz, qaiz, qajz, qakz, qalz, qamz, qanz, evOp, qaoz, qapz, qarz, qatz, qavz,
 ↓reduceIte, Nat.reduceEqDiff, List.append_nil, qawz, Option.map_some, qazz, qbaz, qbhz, qblz, qbpz, beq_false, decide_true, Bool.false_eq_true, reduceCtorEq, Bool.not_true]
    rw [show nameB l = false by simp [nameB]; omega]
    exact end1 rfl Kp_bool
  have e1 : ¬ (l.length : Int) < 1 := by omega
  by_cases h2 : 64 < l.length
  · have e2 : (64 : Int) < (l.length : Int) := by omega
    simp (maxSteps := 1000000) (disch := omega) only [len_s, e1, e2, qaaz, qabz, qacz, qaiz, qajz, qakz, qalz, qamz, qanz, evOp, qaoz, qapz, qarz, qatz, qavz,
 ↓reduceIte, Nat.reduceEqDiff, List.append_nil, qawz, Option.map_some, qazz, qbaz, qbhz, qblz, qbpz, qbrz, beq_false, decide_true, decide_false,
 Bool.false_eq_true, reduceCtorEq, Bool.not_false]
    rw [show nameB l = false by simp [nameB]; omega]
    exact end1 rfl Kp_bool
  have e2 : ¬ (64 : Int) < (l.length : Int) := by omega
  simp (maxSteps := 1000000) (disch := omega) only [len_s, e1, e2, qaaz, qabz, qacz, qadz, qaez, qajz, qakz, qalz, qamz, qanz, evOp, qaoz, qapz, qarz, qatz, qavz,
 ↓reduceIte, Nat.reduceEqDiff, List.append_nil, qawz, Option.map_some, qazz, qbhz, qbpz, qbrz, beq_false, decide_false,
 Bool.false_eq_true, reduceCtorEq, Bool.not_false]
  obtain ⟨I, hI⟩ : ∃ I : Nat → Env → St → Prop, I = fun k e s' => ∃ (i : Nat), k = l.length - i ∧ i ≤ l.length ∧ Kept st s' ∧ (∀ j, j < i → nameC (l.getD j 0) = true) ∧ e 0 = .str l ∧ e 13 = .int .i64 (l.length : Int) ∧ e 14 = .int .i64 (i : Int) := ⟨_, rfl⟩
  refine W_loop I ?_ (n := l.length) (by
    rw [hI]
    exact ⟨0, rfl, by omega, Kept.start, fun j h => by omega, rfl, rfl, rfl⟩)
  intro k e s' hh
  rw [hI] at hh
  obtain ⟨i, rfl, hi, hk, hall, h0, h13, h14⟩ := hh
  by_cases hlt : i < l.length
  · obtain ⟨c, hc⟩ : ∃ c, c = l.getD i 0 := ⟨_, rfl⟩
    have bad : nameC c = false → ∀ E : Env, E 2 = .bool false → ∃ rv, resOf E s' [.tmp 2] = some rv ∧ leave st s' rv = (.bool (nameB l), st) := fun h E k2 =>
      ⟨.bool false, by simp [resOf, rvAll, rv1, k2, notTup, packRes], by
        rw [show nameB l = false by simp only [nameB, all_bad (p := nameC) hlt (by rw [← hc]; exact h), Bool.and_false]]
        exact hk.leave rfl (fun _ _ => rfl)⟩
    by_cases q1 : c < 33
    · simp (maxSteps := 1000000) (disch := omega) only [h0, h13, h14, hlt, idx_s, ← hc, eq_true q1, qaaz, qabz, qacz, qadz, qaez, qaiz, qajz, qakz, qalz, qamz, qanz, evOp, qaoz, qapz, qarz, qatz, qavz,
 ↓reduceIte, Nat.reduceEqDiff, Option.map_some, qazz, qbaz, qbez, qbhz, qbiz, qblz, qbpz, qbxz, beq_false, decide_true, Int.toNat_natCast, Int.ofNat_lt, Bool.false_eq_true, reduceCtorEq, Bool.not_true]
      exact bad (by simp [nameC, q1]) _ rfl
    by_cases q2 : 126 < c
    · simp (maxSteps := 1000000) (disch := omega) only [h0, h13, h14, hlt, idx_s, ← hc, q1, eq_true q2, qaaz, qabz, qacz, qadz, qaez, qaiz, qajz, qakz, qalz, qamz, qanz, evOp, qaoz, qapz, qarz, qatz, qavz,
 ↓reduceIte, Nat.reduceEqDiff, Option.map_some, qazz, qbaz, qbez, qbhz, qbiz, qblz, qbpz, qbxz, qbzz, beq_false, decide_true, decide_false,
 Int.toNat_natCast, Int.ofNat_lt, Bool.false_eq_true, reduceCtorEq, Bool.not_true, Bool.not_false]
      exact bad (by simp [nameC, q2]) _ rfl
    by_cases q3 : c = 58
    · simp (maxSteps := 1000000) (disch := omega) only [h0, h13, h14, hlt, idx_s, ← hc, q1, q2, eq_true q3, qaaz, qabz, qacz, qadz, qaez, qaiz, qajz, qakz, qalz, qamz, qanz, evOp, qaoz, qapz, qarz, qatz, qavz,
 ↓reduceIte, Nat.reduceEqDiff, Option.map_some, qazz, qbaz, qbez, qbhz, qbiz, qblz, qbpz, qbvz, qbxz, qbzz, beq_false, decide_true, decide_false,
 Int.toNat_natCast, Int.ofNat_lt, Bool.false_eq_true, reduceCtorEq, Bool.not_false]
      exact bad (by simp [nameC, q3]) _ rfl
    · simp (maxSteps := 1000000) (disch := omega) only [h0, h13, h14, hlt, idx_s, ← hc, q1, q2, q3, add_n, qaaz, qabz, qacz, qadz, qaez, qajz, qakz, qalz, qamz, qanz, evOp, qaoz, qapz, qarz, qatz, qavz,
 ↓reduceIte, Nat.reduceEqDiff, Option.map_some, qazz, qbdz, qbhz, qbpz, qbvz, qbxz, qbzz, beq_false, decide_true, decide_false,
 Int.toNat_natCast, Int.ofNat_lt, Bool.false_eq_true, Int.reduceToNat, reduceCtorEq, Bool.not_false]
      refine loopQ_intro (m := l.length - (i + 1)) (by omega) ?_
      rw [hI]
      refine ⟨i + 1, rfl, by omega, hk, fun j hj => ?_, h0, h13, rfl⟩
      by_cases hji : j = i
      · subst hji; rw [← hc]; simp [nameC, q1, q2, q3]
      · exact hall j (by omega)
  · obtain rfl : i = l.length := by omega
    simp (maxSteps := 1000000) (disch := omega) only [h13, h14, hlt, qaaz, qabz, qacz, qagz, qaiz, qajz, qalz, evOp, qaoz, qapz, qarz, qatz, qavz,
 ↓reduceIte, Option.map_some, qazz, qbbz, qbfz, qbhz, qbjz, qblz, qbpz, decide_false,
 Int.ofNat_lt, Bool.false_eq_true]
    refine ⟨.bool true, rfl, ?_⟩
    rw [show nameB l = true by simp only [nameB, all_getD (p := nameC) hall, Bool.and_true, Bool.and_eq_true, decide_eq_true_eq]; omega]
    exact hk.leave rfl (fun _ _ => rfl)

def blankC (c : UInt8) : Bool := decide (c = 32) || decide (c = 9)
def ltrim : List UInt8 → List UInt8
  | [] => []
  | c :: r => if blankC c then ltrim r else c :: r
def rtrim (l : List UInt8) : List UInt8 := (ltrim l.reverse).reverse
def trimOf (l : List UInt8) : List UInt8 := rtrim (ltrim l)

theorem ltrim_len : ∀ {l : List UInt8}, (ltrim l).length ≤ l.length := by
  intro l
  induction l with
  | nil => simp [ltrim]
  | cons c r ih => simp only [ltrim]; split <;> simp; omega
theorem rtrim_snoc {l : List UInt8} {c : UInt8} : rtrim (l ++ [c]) = if blankC c then rtrim l else l ++ [c] := by
  unfold rtrim
  simp only [List.reverse_append, List.reverse_cons, List.reverse_nil, List.nil_append, List.singleton_append, ltrim]
  split <;> simp
theorem rtrim_len {l : List UInt8} : (rtrim l).length ≤ l.length := by
  unfold rtrim; have := ltrim_len (l := l.reverse); simpa using this
theorem trimOf_len {l : List UInt8} : (trimOf l).length ≤ l.length := by
  have := rtrim_len (l := ltrim l); have := ltrim_len (l := l); unfold trimOf; omega

end Go.Ab
/-
  Texts without blanks at their ends; values of fields.
-/
namespace Go.Ab
variable {st s : St} {e : Env}

theorem head_split {m : List UInt8} {c : UInt8} (h : 0 < m.length) (hc : c = m.getD 0 0) : m = c :: m.drop 1 := by
  have := drop_getD (l := m) (i := 0) h
  rw [hc]; simpa using this
theorem last_split {m : List UInt8} {c : UInt8} (h : 0 < m.length) (hc : c = m.getD (m.length - 1) 0) : m = m.take (m.length - 1) ++ [c] := by
  have := take_getD (l := m) (i := m.length - 1) (by omega)
  rw [show m.length - 1 + 1 = m.length by omega, List.take_length] at this
  rw [hc]; exact this

theorem ltrim_blank {m : List UInt8} {c : UInt8} (h : 0 < m.length) (hc : c = m.getD 0 0) (hb : blankC c = true) : ltrim (m.drop 1) = ltrim m := by
  have e := head_split h hc
  obtain ⟨r, hr⟩ : ∃ r, r = m.drop 1 := ⟨_, rfl⟩
  rw [← hr] at e ⊢
  rw [e]; simp [ltrim, hb]
theorem ltrim_stop {m : List UInt8} {c : UInt8} (h : 0 < m.length) (hc : c = m.getD 0 0) (hb : blankC c = false) : ltrim m = m := by
  have e := head_split h hc
  obtain ⟨r, hr⟩ : ∃ r, r = m.drop 1 := ⟨_, rfl⟩
  rw [← hr] at e
  rw [e]; simp [ltrim, hb]
theorem rtrim_blank {m : List UInt8} {c : UInt8} (h : 0 < m.length) (hc : c = m.getD (m.length - 1) 0) (hb : blankC c = true) : rtrim (m.take (m.length - 1)) = rtrim m := by
  have e := last_split h hc
  obtain ⟨r, hr⟩ : ∃ r, r = m.take (m.length - 1) := ⟨_, rfl⟩
  rw [← hr] at e ⊢
  rw [e, rtrim_snoc, if_pos hb]
theorem rtrim_stop {m : List UInt8} {c : UInt8} (h : 0 < m.length) (hc : c = m.getD (m.length - 1) 0) (hb : blankC c = false) : rtrim m = m := by
  have e := last_split h hc
  obtain ⟨r, hr⟩ : ∃ r, r = m.take (m.length - 1) := ⟨_, rfl⟩
  rw [← hr] at e
  rw [e, rtrim_snoc, if_neg (by simp [hb])]

theorem trim_spec {l : List UInt8} (hl : l.length ≤ 100000000) : call prog (.fn 168 []) [.str l] st = some (.str (trimOf l), st) := by
  refine call_of_W prog_168 ?_
  unfold F_fields_trim; dsimp only
  obtain ⟨J, hJ⟩ : ∃ J : List UInt8 → Env → St → Prop, J = fun m E S => Kept st S ∧ E 0 = .str m := ⟨_, rfl⟩
  refine W_cut (J l) ?_ ?_
  · simp (maxSteps := 1000000) (disch := omega) only [hJ, env0, qabz, qajz, qalz, evOp, qapz, qarz, qatz, qavz,
 ↓reduceIte, List.append_nil, true_and, reduceCtorEq]
    exact ⟨Kept.start, rfl⟩
  intro e S hj
  refine W_cut (J (ltrim l)) ?_ ?_
  · rw [hJ] at hj
    obtain ⟨hk, h0⟩ := hj
    rw [qadz]
    obtain ⟨I, hI⟩ : ∃ I : Nat → Env → St → Prop, I = fun k e s' => ∃ (m : List UInt8), k = m.length ∧ m.length ≤ l.length ∧ ltrim m = ltrim l ∧ Kept st s' ∧ e 0 = .str m := ⟨_, rfl⟩
    refine W_loop I ?_ (n := l.length) (by
      rw [hI]
      exact ⟨l, rfl, by omega, rfl, hk, h0⟩)
    clear hk h0
    intro k e s' hh
    rw [hI] at hh
    obtain ⟨m, rfl, hml, ht, hk, h0⟩ := hh
    by_cases hlt : 0 < m.length
    · have e1 : (0 : Int) < (m.length : Int) := by omega
      obtain ⟨c, hc⟩ : ∃ c, c = m.getD 0 0 := ⟨_, rfl⟩
      have hnext : blankC c = true → ∀ E : Env, E 0 = .str (m.drop 1) → I (m.length - 1) E s' := fun hb E k0 => by
        rw [hI]; exact ⟨m.drop 1, by simp, by simp; omega, by rw [← ht]; exact ltrim_blank hlt hc hb, hk, k0⟩
      by_cases q1 : c = 32
      · simp (maxSteps := 1000000) (disch := omega) only [h0, len_s, e1, idx_s, ← hc, eq_true q1, slc_s_lo, qaaz, qabz, qacz, qadz, qaez, qajz, qakz, qalz, qamz, qanz, evOp, qaoz, qapz, qarz, qatz, qavz,
 ↓reduceIte, Nat.reduceEqDiff, Option.map_some, Option.map_none, qazz, qbdz, qbhz, qbrz, qbvz, beq_true, beq_false, decide_true, Bool.false_eq_true, Int.reduceToNat, reduceCtorEq, Bool.not_true]
        exact loopQ_intro (m := m.length - 1) (by omega) (hnext (by simp [blankC, q1]) _ rfl)
      by_cases q2 : c = 9
      · simp (maxSteps := 1000000) (disch := omega) only [h0, len_s, e1, idx_s, ← hc, q1, eq_true q2, slc_s_lo, qaaz, qabz, qacz, qadz, qaez, qajz, qakz, qalz, qamz, qanz, evOp, qaoz, qapz, qarz, qatz, qavz,
 ↓reduceIte, Nat.reduceEqDiff, Option.map_some, Option.map_none, qazz, qbdz, qbhz, qbrz, qbvz, beq_true, beq_false, decide_true, decide_false,
 Bool.false_eq_true, Int.reduceToNat, reduceCtorEq, Bool.not_false]
        exact loopQ_intro (m := m.length - 1) (by omega) (hnext (by simp [blankC, q2]) _ rfl)
      · simp (maxSteps := 1000000) (disch := omega) only [h0, len_s, e1, idx_s, ← hc, q1, q2, hJ, qaaz, qabz, qacz, qagz, qajz, qakz, qalz, qamz, qanz, evOp, qaoz, qapz, qarz, qatz, qavz,
 ↓reduceIte, Nat.reduceEqDiff, Option.map_some, qazz, qbbz, qbfz, qbhz, qbjz, qbrz, qbvz, beq_true, beq_false, decide_true, decide_false,
 Bool.false_eq_true, Int.reduceToNat, true_and, reduceCtorEq, Bool.not_false]
        refine ⟨hk, ?_⟩
        rw [← ht, ltrim_stop hlt hc (by simp [blankC, q1, q2])]
    · have e1 : ¬ (0 : Int) < (m.length : Int) := by omega
      simp (maxSteps := 1000000) (disch := omega) only [h0, len_s, e1, hJ, qaaz, qabz, qacz, qagz, qajz, qakz, qalz, qamz, qanz, evOp, qaoz, qapz, qarz, qatz, qavz,
 ↓reduceIte, Nat.reduceEqDiff, Option.map_some, qazz, qbbz, qbfz, qbhz, qbjz, qbrz, beq_true, decide_false,
 Bool.false_eq_true, true_and, reduceCtorEq]
      refine ⟨hk, ?_⟩
      rw [← ht, List.length_eq_zero_iff.1 (by omega : m.length = 0)]; rfl
  clear hj
  intro e S hj
  refine W_cut (J (trimOf l)) ?_ ?_
  · rw [hJ] at hj
    obtain ⟨hk, h0⟩ := hj
    rw [qadz]
    have hll := ltrim_len (l := l)
    obtain ⟨I, hI⟩ : ∃ I : Nat → Env → St → Prop, I = fun k e s' => ∃ (m : List UInt8), k = m.length ∧ m.length ≤ l.length ∧ rtrim m = rtrim (ltrim l) ∧ Kept st s' ∧ e 0 = .str m := ⟨_, rfl⟩
    refine W_loop I ?_ (n := (ltrim l).length) (by
      rw [hI]
      exact ⟨ltrim l, rfl, hll, rfl, hk, h0⟩)
    clear hk h0
    intro k e s' hh
    rw [hI] at hh
    obtain ⟨m, rfl, hml, ht, hk, h0⟩ := hh
    by_cases hlt : 0 < m.length
    · have e1 : (0 : Int) < (m.length : Int) := by omega
      obtain ⟨c, hc⟩ : ∃ c, c = m.getD (m.length - 1) 0 := ⟨_, rfl⟩
      have hnext : blankC c = true → ∀ E : Env, E 0 = .str (m.take (m.length - 1)) → I (m.length - 1) E s' := fun hb E k0 => by
        rw [hI]; exact ⟨m.take (m.length - 1), by simp, by simp; omega, by
          rw [← ht]; exact rtrim_blank hlt hc hb, hk, k0⟩
      by_cases q1 : c = 32
      · simp (maxSteps := 1000000) (disch := omega) only [h0, len_s, e1, sub_n, idx_s, ← hc, eq_true q1, slc_s_hi, qaaz, qabz, qacz, qadz, qaez, qajz, qakz, qalz, qamz, qanz, evOp, qaoz, qapz, qarz, qatz, qavz,
 ↓reduceIte, Nat.reduceEqDiff, Option.map_some, Option.map_none, qazz, qbdz, qbhz, qbrz, qbvz, beq_true, beq_false, decide_true, Int.toNat_natCast, Bool.false_eq_true, Int.reduceToNat, reduceCtorEq, Bool.not_true]
        exact loopQ_intro (m := m.length - 1) (by omega) (hnext (by simp [blankC, q1]) _ rfl)
      by_cases q2 : c = 9
      · simp (maxSteps := 1000000) (disch := omega) only [h0, len_s, e1, sub_n, idx_s, ← hc, q1, eq_true q2, slc_s_hi, qaaz, qabz, qacz, qadz, qaez, qajz, qakz, qalz, qamz, qanz, evOp, qaoz, qapz, qarz, qatz, qavz,
 ↓reduceIte, Nat.reduceEqDiff, Option.map_some, Option.map_none, qazz, qbdz, qbhz, qbrz, qbvz, beq_true, beq_false, decide_true, decide_false,
 Int.toNat_natCast, Bool.false_eq_true, Int.reduceToNat, reduceCtorEq, Bool.not_false]
        exact loopQ_intro (m := m.length - 1) (by omega) (hnext (by simp [blankC, q2]) _ rfl)
      · simp (maxSteps := 1000000) (disch := omega) only [h0, len_s, e1, sub_n, idx_s, ← hc, q1, q2, hJ, qaaz, qabz, qacz, qagz, qajz, qakz, qalz, qamz, qanz, evOp, qaoz, qapz, qarz, qatz, qavz,
 ↓reduceIte, Nat.reduceEqDiff, Option.map_some, qazz, qbbz, qbfz, qbhz, qbjz, qbrz, qbvz, beq_true, beq_false, decide_true, decide_false,
 Int.toNat_natCast, Bool.false_eq_true, Int.reduceToNat, true_and, reduceCtorEq, Bool.not_false]
        refine ⟨hk, ?_⟩
        unfold trimOf
        rw [← ht, rtrim_stop hlt hc (by simp [blankC, q1, q2])]
    · have e1 : ¬ (0 : Int) < (m.length : Int) := by omega
      simp (maxSteps := 1000000) (disch := omega) only [h0, len_s, e1, hJ, qaaz, qabz, qacz, qagz, qajz, qakz, qalz, qamz, qanz, evOp, qaoz, qapz, qarz, qatz, qavz,
 ↓reduceIte, Nat.reduceEqDiff, Option.map_some, qazz, qbbz, qbfz, qbhz, qbjz, qbrz, beq_true, decide_false,
 Bool.false_eq_true, true_and, reduceCtorEq]
      refine ⟨hk, ?_⟩
      unfold trimOf
      rw [← ht, List.length_eq_zero_iff.1 (by omega : m.length = 0)]; rfl
  clear hj
  intro e S hj
  rw [hJ] at hj
  obtain ⟨hk, h0⟩ := hj
  simp (maxSteps := 1000000) (disch := omega) only [h0, qaaz, qabz, qaiz, qajz, qalz, evOp, qaoz, qarz, qatz, qavz,
 ↓reduceIte, qazz, qblz]
  exact ⟨.str (trimOf l), rfl, hk.leave rfl (fun _ _ => rfl)⟩
end Go.Ab
/-
  The document's trimming; values; small letters; fields of a name, by the document.
-/
namespace Go.Ab
variable {st s : St} {e : Env}

end Go.Ab
/-
  Values of fields; small letters and fields of a name, by the document.
-/
namespace Go.Ab
variable {st s : St} {e : Env}

def valC (c : UInt8) : Bool := decide (c = 9) || (!decide (c < 32) && !decide (126 < c))
def valB (l : List UInt8) : Bool := l.all valC && decide (l.length ≤ 4096) && decide (trimOf l = l)

theorem isValue_spec {l : List UInt8} (hl : l.length ≤ 100000000) : call prog (.fn 158 []) [.str l] st = some (.bool (valB l), st) := by
  refine call_of_W prog_158 ?_
  unfold F_fields_isValue; dsimp only
  simp (maxSteps := 1000000) (disch := omega) only [len_s, qaaz, qabz, qadz, qajz, qalz, evOp, qaoz, qapz, qarz, qatz, qavz,
 ↓reduceIte, List.append_nil, qawz, Option.map_some, qazz, reduceCtorEq]
  obtain ⟨I, hI⟩ : ∃ I : Nat → Env → St → Prop, I = fun k e s' => ∃ (i : Nat), k = l.length - i ∧ i ≤ l.length ∧ Kept st s' ∧ (∀ j, j < i → valC (l.getD j 0) = true) ∧ e 0 = .str l ∧ e 5 = .int .i64 (l.length : Int) ∧ e 6 = .int .i64 (i : Int) := ⟨_, rfl⟩
  refine W_loop I ?_ (n := l.length) (by
    rw [hI]
    exact ⟨0, rfl, by omega, Kept.start, fun j h => by omega, rfl, rfl, rfl⟩)
  intro k e s' hh
  rw [hI] at hh
  obtain ⟨i, rfl, hi, hk, hall, h0, h5, h6⟩ := hh
  by_cases hlt : i < l.length
  · obtain ⟨c, hc⟩ : ∃ c, c = l.getD i 0 := ⟨_, rfl⟩
    have bad : valC c = false → ∀ E : Env, E 2 = .bool false → ∃ rv, resOf E s' [.tmp 2] = some rv ∧ leave st s' rv = (.bool (valB l), st) := fun h E k2 =>
      ⟨.bool false, by simp [resOf, rvAll, rv1, k2, notTup, packRes], by
        rw [show valB l = false by simp only [valB, all_bad (p := valC) hlt (by rw [← hc]; exact h), Bool.false_and]]
        exact hk.leave rfl (fun _ _ => rfl)⟩
    have good : valC c = true → ∀ E : Env, E 0 = .str l → E 5 = .int .i64 (l.length : Int) → E 6 = .int .i64 ((i + 1 : Nat) : Int) → I (l.length - (i + 1)) E s' := fun h E k0 k5 k6 => by
      rw [hI]
      refine ⟨i + 1, rfl, by omega, hk, fun j hj => ?_, k0, k5, k6⟩
      by_cases hji : j = i
      · subst hji; rw [← hc]; exact h
      · exact hall j (by omega)
    by_cases q3 : c = 9
    · simp (maxSteps := 1000000) (disch := omega) only [h0, h5, h6, hlt, idx_s, ← hc, eq_true q3, add_n, qaaz, qabz, qacz, qadz, qaez, qajz, qakz, qalz, qamz, qanz, evOp, qaoz, qapz, qarz, qatz, qavz,
 ↓reduceIte, Nat.reduceEqDiff, Option.map_some, qazz, qbdz, qbhz, qbpz, qbwz, beq_true, decide_true, decide_false,
 Int.toNat_natCast, Int.ofNat_lt, Bool.false_eq_true, Int.reduceToNat, reduceCtorEq, ne_eq, not_true_eq_false]
      exact loopQ_intro (m := l.length - (i + 1)) (by omega) (good (by simp [valC, q3]) _ h0 h5 rfl)
    by_cases q1 : c < 32
    · simp (maxSteps := 1000000) (disch := omega) only [h0, h5, h6, hlt, idx_s, ← hc, q3, eq_true q1, qaaz, qabz, qacz, qadz, qaez, qaiz, qajz, qakz, qalz, qamz, qanz, evOp, qaoz, qapz, qarz, qatz, qavz,
 ↓reduceIte, Nat.reduceEqDiff, Option.map_some, qazz, qbaz, qbez, qbhz, qbiz, qblz, qbpz, qbwz, qbxz, beq_true, beq_false, decide_true, Int.toNat_natCast, Int.ofNat_lt, Bool.false_eq_true, reduceCtorEq, Bool.not_true, ne_eq, not_false_eq_true]
      exact bad (by simp [valC, q1, q3]) _ rfl
    by_cases q2 : 126 < c
    · simp (maxSteps := 1000000) (disch := omega) only [h0, h5, h6, hlt, idx_s, ← hc, q3, q1, eq_true q2, qaaz, qabz, qacz, qadz, qaez, qaiz, qajz, qakz, qalz, qamz, qanz, evOp, qaoz, qapz, qarz, qatz, qavz,
 ↓reduceIte, Nat.reduceEqDiff, Option.map_some, qazz, qbaz, qbez, qbhz, qbiz, qblz, qbpz, qbwz, qbxz, qbzz, beq_true, beq_false, decide_true, decide_false,
 Int.toNat_natCast, Int.ofNat_lt, Bool.false_eq_true, reduceCtorEq, Bool.not_false, ne_eq, not_false_eq_true]
      exact bad (by simp [valC, q2, q3]) _ rfl
    · simp (maxSteps := 1000000) (disch := omega) only [h0, h5, h6, hlt, idx_s, ← hc, q1, q2, q3, add_n, qaaz, qabz, qacz, qadz, qaez, qajz, qakz, qalz, qamz, qanz, evOp, qaoz, qapz, qarz, qatz, qavz,
 ↓reduceIte, Nat.reduceEqDiff, Option.map_some, qazz, qbdz, qbhz, qbpz, qbwz, qbxz, qbzz, beq_true, beq_false, decide_true, decide_false,
 Int.toNat_natCast, Int.ofNat_lt, Bool.false_eq_true, Int.reduceToNat, reduceCtorEq, Bool.not_false, ne_eq, not_false_eq_true]
      exact loopQ_intro (m := l.length - (i + 1)) (by omega) (good (by simp [valC, q1, q2]) _ h0 h5 rfl)
  · obtain rfl : i = l.length := by omega
    have ha := all_getD (p := valC) hall
    by_cases g1 : l.length ≤ 4096
    · have e1 : (l.length : Int) ≤ 4096 := by omega
      simp (maxSteps := 1000000) (disch := omega) only [h0, h5, h6, hlt, len_s, e1, trim_spec hl, qaaz, qabz, qacz, qagz, qaiz, qajz, qakz, qalz, qamz, qanz, evOp, qaoz, qapz, qaqz, qarz, qatz, qavz,
 ↓reduceIte, Nat.reduceEqDiff, List.map_cons, List.map_nil, Option.map_some, qazz, qbbz, qbfz, qbhz, qbjz, qblz, qbpz, qbqz, qcbz, beq_true, decide_true, decide_false,
 Int.ofNat_lt, Bool.false_eq_true, reduceCtorEq]
      refine ⟨.bool (decide (trimOf l = l)), rfl, ?_⟩
      rw [show valB l = decide (trimOf l = l) by simp [valB, ha, g1]]
      exact hk.leave rfl (fun _ _ => rfl)
    · have e1 : ¬ (l.length : Int) ≤ 4096 := by omega
      simp (maxSteps := 1000000) (disch := omega) only [h0, h5, h6, hlt, len_s, e1, qaaz, qabz, qacz, qagz, qaiz, qajz, qakz, qalz, qamz, qanz, evOp, qaoz, qapz, qarz, qatz, qavz,
 ↓reduceIte, Nat.reduceEqDiff, Option.map_some, qazz, qbbz, qbfz, qbhz, qbjz, qblz, qbpz, qbqz, beq_true, decide_false,
 Int.ofNat_lt, Bool.false_eq_true, reduceCtorEq]
      refine ⟨.bool false, rfl, ?_⟩
      rw [show valB l = false by simp [valB, g1]]
      exact hk.leave rfl (fun _ _ => rfl)

theorem Grew.kept (h : Grew st s) : Kept st s := ⟨by rw [h.bx]; simp, h.lp, by rw [h.lw]; exact Nat.le_refl _, h.tk⟩
theorem lits1 {a : List UInt8} : litFill 1 (List.replicate 1 (.str [])) [(0, .str a)] = some [.str a] := by
  simp [litFill, strip, stripLeaf, PV.cells]
end Go.Ab
/-
  Addresses: plain.
-/
namespace Go.Ab

abbrev Bs := List UInt8
theorem all8 {p : UInt8 → Bool} (h : (List.range 256).all (fun n => p (UInt8.ofNat n)) = true) (c : UInt8) : p c = true := by
  have := List.all_eq_true.1 h c.toNat (List.mem_range.2 c.toNat_lt)
  simpa using this

def alnC (c : UInt8) : Bool := (decide (97 ≤ c) && decide (c ≤ 122)) || (decide (65 ≤ c) && decide (c ≤ 90)) || (decide (48 ≤ c) && decide (c ≤ 57))
def signs : Bs := [33, 35, 36, 37, 38, 39, 42, 43, 45, 47, 61, 63, 94, 95, 123, 124, 125, 126, 96]
def atC (c : UInt8) : Bool := alnC c || signs.contains c
def atomB (l : Bs) : Bool := l.all atC && !l.isEmpty
def labC (c : UInt8) : Bool := alnC c || decide (c = 45)
def labB (l : Bs) : Bool := l.all labC && !l.isEmpty && decide (l.length ≤ 63) && !decide (l.getD 0 0 = 45) && !decide (l.getD (l.length - 1) 0 = 45)
def prC (c : UInt8) : Bool := !decide (c < 32) && !decide (126 < c)
def nmA (l : Bs) : Bool := l.all prC && decide (l.length ≤ 128)
def partsB (sep : UInt8) (p : Bs → Bool) (l : Bs) : Bool := (splitOn sep [] l).all p

abbrev Adr := Bs × Bs × Bs
def rightA (a : Adr) : Bool := decide (a.2.1.length ≤ 64) && partsB 46 atomB a.2.1 && decide (a.2.2.length ≤ 253) && partsB 46 labB a.2.2 && nmA a.1
def atA (a : Adr) : Bs := a.2.1 ++ 64 :: a.2.2
def noA : Adr := ([], [], [])
def cutA (s : Bs) : Adr := if 0 ≤ Lib.index s [64] then ([], s.take (Lib.index s [64]).toNat, s.drop ((Lib.index s [64]).toNat + 1)) else ([], s, [])
def plainA (s : Bs) : Adr × Int := if rightA (cutA s) = true then (cutA s, 0) else (noA, 60)
theorem split_chars {sep : UInt8} {q : UInt8 → Prop} : ∀ (l acc : Bs), (∀ x ∈ splitOn sep acc l, ∀ c ∈ x, q c) → (∀ c ∈ acc, q c) ∧ ∀ c ∈ l, q c ∨ c = sep := by
  intro l
  induction l with
  | nil => intro acc h; exact ⟨fun c hc => h acc (by simp [splitOn]) c hc, fun c hc => (by cases hc)⟩
  | cons d r ih =>
    intro acc h
    simp only [splitOn] at h
    by_cases hd : d = sep
    · rw [if_pos hd] at h
      have h2 := ih [] (fun x hx => h x (by simp [hx]))
      refine ⟨fun c hc => h acc (by simp) c hc, fun c hc => ?_⟩
      rcases List.mem_cons.1 hc with rfl | hc
      · exact .inr hd
      · exact h2.2 c hc
    · rw [if_neg hd] at h
      have h2 := ih (acc ++ [d]) h
      refine ⟨fun c hc => h2.1 c (by simp [hc]), fun c hc => ?_⟩
      rcases List.mem_cons.1 hc with rfl | hc
      · exact .inl (h2.1 c (by simp))
      · exact h2.2 c hc
theorem split_last {sep : UInt8} : ∀ (l acc : Bs), [] ∈ splitOn sep acc (l ++ [sep]) := by
  intro l
  induction l with
  | nil => intro acc; simp [splitOn]
  | cons d r ih =>
    intro acc
    simp only [List.cons_append, splitOn]
    split
    · exact List.mem_cons_of_mem _ (ih [])
    · exact ih _

theorem atom_ne {l : Bs} (h : atomB l = true) : l ≠ [] ∧ ∀ c ∈ l, atC c = true := by
  simp only [atomB, Bool.and_eq_true, List.all_eq_true, Bool.not_eq_true', List.isEmpty_eq_false_iff] at h
  exact ⟨h.2, h.1⟩
theorem lab_ne {l : Bs} (h : labB l = true) : l ≠ [] ∧ ∀ c ∈ l, labC c = true := by
  simp only [labB, Bool.and_eq_true, List.all_eq_true, Bool.not_eq_true', List.isEmpty_eq_false_iff] at h
  exact ⟨h.1.1.1.2, h.1.1.1.1⟩
theorem parts_chars {sep : UInt8} {p : Bs → Bool} {q : UInt8 → Prop} {l : Bs} (hp : ∀ x, p x = true → ∀ c ∈ x, q c) (h : partsB sep p l = true) : ∀ c ∈ l, q c ∨ c = sep :=
  (split_chars l [] (fun x hx => hp x (List.all_eq_true.1 h x hx))).2
theorem parts_ends {sep : UInt8} {p : Bs → Bool} {l : Bs} (hp : p [] = false) (h : partsB sep p l = true) : l ≠ [] ∧ l.head? ≠ some sep ∧ l.getLast? ≠ some sep := by
  refine ⟨?_, ?_, ?_⟩
  · rintro rfl
    simp [partsB, splitOn, hp] at h
  · intro hh
    cases l with
    | nil => cases hh
    | cons c r =>
      simp only [List.head?_cons, Option.some.injEq] at hh
      subst hh
      simp [partsB, splitOn, hp] at h
  · intro hh
    obtain ⟨r, rfl⟩ := List.getLast?_eq_some_iff.1 hh
    have := List.all_eq_true.1 h [] (split_last r [])
    rw [hp] at this; cases this
theorem index_chr {k : UInt8} : ∀ (n r : Bs), (∀ c ∈ n, c ≠ k) → Lib.index (n ++ k :: r) [k] = n.length := by
  intro n
  induction n with
  | nil => intro r _; simp [Lib.index, List.isPrefixOf]
  | cons c n ih =>
    intro r h
    have hc : c ≠ k := h c (by simp)
    have := ih r (fun d hd => h d (by simp [hd]))
    rw [List.cons_append, Lib.index]
    have hp : ([k] : Bs).isPrefixOf (c :: (n ++ k :: r)) = false := by
      simp [List.isPrefixOf]; exact fun h => hc h.symm
    rw [hp, this]
    simp <;> omega
def locC (c : UInt8) : Prop := atC c = true ∨ c = 46
def domC (c : UInt8) : Prop := labC c = true ∨ c = 46
structure RightA (a : Adr) : Prop where
  lc : ∀ c ∈ a.2.1, locC c
  ln : a.2.1 ≠ []
  dc : ∀ c ∈ a.2.2, domC c
  dn : a.2.2 ≠ []
  nl : a.1.length ≤ 128
  ll : a.2.1.length ≤ 64
  dl : a.2.2.length ≤ 253
theorem right_facts {a : Adr} (h : rightA a = true) : RightA a := by
  simp only [rightA, Bool.and_eq_true, decide_eq_true_eq] at h
  obtain ⟨⟨⟨⟨h1, h2⟩, h3⟩, h4⟩, h5⟩ := h
  simp only [nmA, Bool.and_eq_true, decide_eq_true_eq] at h5
  exact ⟨parts_chars (fun x hx c hc => (atom_ne hx).2 c hc) h2, (parts_ends (by rfl) h2).1, parts_chars (fun x hx c hc => (lab_ne hx).2 c hc) h4, (parts_ends (by rfl) h4).1, h5.2, h1, h3⟩
theorem chr_split (k : UInt8) : ∀ s : Bs, (k ∉ s ∧ Lib.index s [k] = -1) ∨ ∃ n r, s = n ++ k :: r ∧ ∀ c ∈ n, c ≠ k := by
  intro s
  by_cases h : k ∈ s
  · right
    induction s with
    | nil => cases h
    | cons c s ih =>
      by_cases hc : c = k
      · exact ⟨[], s, by simp [hc], fun c hc => (by cases hc)⟩
      · rcases List.mem_cons.1 h with h | h
        · exact absurd h.symm hc
        · obtain ⟨n, r, e1, e2⟩ := ih h
          refine ⟨c :: n, r, by simp [e1], fun d hd => ?_⟩
          rcases List.mem_cons.1 hd with rfl | hd
          · exact hc
          · exact e2 d hd
  · left
    refine ⟨h, ?_⟩
    have h1 := Lib.index_ge s [k]
    have h2 := index_one (l := s) (c := k)
    have h3 : ¬ 0 ≤ Lib.index s [k] := fun h0 => h (h2.1 h0)
    omega
end Go.Ab
/-
  Addresses are read as they were written: plain.
-/
namespace Go.Ab

end Go.Ab
/-
  Points of Unicode as bytes: the program's answer.
-/
namespace Go.Ab
variable {st s : St} {e : Env}

def lead (c : Nat) : Nat × Nat := if 192 ≤ c ∧ c < 224 then (c % 32, 2) else if 224 ≤ c ∧ c < 240 then (c % 16, 3) else if 240 ≤ c ∧ c < 248 then (c % 8, 4) else (0, 0)
def accP (l : List UInt8) (p : Nat) : Nat → Nat
  | 0 => p
  | k + 1 => 64 * accP l p k + (l.getD (k + 1) 0).toNat % 64
def contB (l : List UInt8) (k : Nat) : Prop := ∀ j, j < k → 128 ≤ (l.getD (j + 1) 0).toNat ∧ (l.getD (j + 1) 0).toNat < 192
instance {l : List UInt8} {k : Nat} : Decidable (contB l k) := by unfold contB; infer_instance
def pointN (q : Nat) : Prop := q < 55296 ∨ (57343 < q ∧ q ≤ 1114111)
instance {q : Nat} : Decidable (pointN q) := by unfold pointN; infer_instance
def lowN (n : Nat) : Nat := if n = 2 then 128 else if n = 3 then 2048 else 65536
def nextOf (l : List UInt8) : Option (Nat × Nat) :=
  if l = [] then none else if (l.getD 0 0).toNat < 128 then some ((l.getD 0 0).toNat, 1) else
    let r := lead (l.getD 0 0).toNat
    if r.2 = 0 ∨ l.length < r.2 ∨ ¬ contB l (r.2 - 1) ∨ ¬ pointN (accP l r.1 (r.2 - 1)) ∨ accP l r.1 (r.2 - 1) < lowN r.2 then none else some (accP l r.1 (r.2 - 1), r.2)
end Go.Ab
/-
  The point at a text's front: the program's function.
-/
namespace Go.Ab
variable {A : AP} {st s : St} {e : Env}

end Go.Ab
/-
  A point's bytes, by the document; the point at a text's front is the one whose bytes stand there.
-/
namespace Go.Ab
variable {st s : St} {e : Env}

def putOf (p : Nat) : List UInt8 :=
  if p < 128 then [UInt8.ofNat p] else if p < 2048 then [UInt8.ofNat (192 + p / 64), UInt8.ofNat (128 + p % 64)]
  else if p < 65536 then [UInt8.ofNat (224 + p / 4096), UInt8.ofNat (128 + p / 64 % 64), UInt8.ofNat (128 + p % 64)]
  else [UInt8.ofNat (240 + p / 262144), UInt8.ofNat (128 + p / 4096 % 64), UInt8.ofNat (128 + p / 64 % 64), UInt8.ofNat (128 + p % 64)]

end Go.Ab
/-
  The point at the front is the one whose bytes stand there.
-/
namespace Go.Ab
variable {st s : St} {e : Env}

def mdN (n : Nat) : Nat := if n = 2 then 32 else if n = 3 then 16 else 8
def qN (l : List UInt8) (n : Nat) : Nat := accP l ((l.getD 0 0).toNat % mdN n) (n - 1)
def succN (l : List UInt8) (n : Nat) : Prop := pointN (qN l n) ∧ putOf (qN l n) = l.take n

theorem u8_of {a : UInt8} {k : Nat} (h : k = a.toNat) : UInt8.ofNat k = a := by rw [h]; simp
theorem of_u8 {a : UInt8} {k : Nat} (h : UInt8.ofNat k = a) (hk : k < 256) : k = a.toNat := by
  rw [← h]; simp; omega

theorem lead2 {c : Nat} (h : 192 ≤ c ∧ c < 224) : lead c = (c % 32, 2) := by unfold lead; rw [if_pos h]
theorem lead3 {c : Nat} (h : 224 ≤ c ∧ c < 240) : lead c = (c % 16, 3) := by unfold lead; rw [if_neg (by omega), if_pos h]
theorem lead4 {c : Nat} (h : 240 ≤ c ∧ c < 248) : lead c = (c % 8, 4) := by unfold lead; rw [if_neg (by omega), if_neg (by omega), if_pos h]

theorem next_of {l : List UInt8} {p n : Nat} (hne : l ≠ []) (hc : ¬ (l.getD 0 0).toNat < 128) (hl : lead (l.getD 0 0).toNat = (p, n)) (hn : n ≠ 0) (hlen : n ≤ l.length) (hcb : contB l (n - 1)) (hp : pointN (accP l p (n - 1))) (hlow : lowN n ≤ accP l p (n - 1)) :
    nextOf l = some (accP l p (n - 1), n) := by
  unfold nextOf
  rw [if_neg hne, if_neg hc, hl, if_neg]
  simp only [not_or, Classical.not_not]
  exact ⟨hn, by omega, hcb, hp, by omega⟩

theorem succ_next {l : List UInt8} {n : Nat} (hn : n = 2 ∨ n = 3 ∨ n = 4) (hlen : n ≤ l.length) (hc : ¬ (l.getD 0 0).toNat < 128) (h : succN l n) : nextOf l = some (qN l n, n) := by
  have hne : l ≠ [] := by rintro rfl; simp at hlen; omega
  obtain ⟨h1, h2⟩ := h
  rcases hn with rfl | rfl | rfl
  · match l, hlen with
    | a :: b :: r, _ =>
      simp only [qN, mdN, accP, if_true, List.getD_cons_zero, List.getD_cons_succ, Nat.reduceSub, List.take_succ_cons, List.take_zero] at h1 h2 hc ⊢
      have ha := a.toNat_lt; have hb := b.toNat_lt
      obtain ⟨q, hq⟩ : ∃ q, q = 64 * (a.toNat % 32) + b.toNat % 64 := ⟨_, rfl⟩
      rw [← hq] at h1 h2 ⊢
      unfold putOf at h2
      split at h2
      · simp at h2
      · split at h2
        · simp only [List.cons.injEq, and_true] at h2
          have e1 := of_u8 h2.1 (by omega)
          have e2 := of_u8 h2.2 (by omega)
          have := next_of (l := a :: b :: r) (p := a.toNat % 32) (n := 2) hne (by simpa using hc) (lead2 (by simp only [List.getD_cons_zero]; omega)) (by omega) (by simp) (by
            intro j hj
            match j, hj with
            | 0, _ => simp only [List.getD_cons_succ, List.getD_cons_zero]; omega) (by simpa [accP, ← hq] using h1) (by simp [accP, lowN, ← hq]; omega)
          simpa [accP, ← hq] using this
        · split at h2 <;> simp at h2
  · match l, hlen with
    | a :: b :: c :: r, _ =>
      simp only [qN, mdN, accP, if_true, List.getD_cons_zero, List.getD_cons_succ, Nat.reduceSub, Nat.reduceEqDiff, if_false, List.take_succ_cons, List.take_zero] at h1 h2 hc ⊢
      have ha := a.toNat_lt; have hb := b.toNat_lt; have hcc := c.toNat_lt
      obtain ⟨q, hq⟩ : ∃ q, q = 64 * (64 * (a.toNat % 16) + b.toNat % 64) + c.toNat % 64 := ⟨_, rfl⟩
      rw [← hq] at h1 h2 ⊢
      unfold putOf at h2
      split at h2
      · simp at h2
      · split at h2
        · simp at h2
        · split at h2
          · simp only [List.cons.injEq, and_true] at h2
            have e1 := of_u8 h2.1 (by omega)
            have e2 := of_u8 h2.2.1 (by omega)
            have e3 := of_u8 h2.2.2 (by omega)
            have := next_of (l := a :: b :: c :: r) (p := a.toNat % 16) (n := 3) hne (by simpa using hc) (lead3 (by simp only [List.getD_cons_zero]; omega)) (by omega) (by simp) (by
              intro j hj
              match j, hj with
              | 0, _ => simp only [List.getD_cons_succ, List.getD_cons_zero]; omega
              | 1, _ => simp only [List.getD_cons_succ, List.getD_cons_zero]; omega) (by simpa [accP, ← hq] using h1) (by simp [accP, lowN, ← hq]; omega)
            simpa [accP, ← hq] using this
          · simp at h2
  · match l, hlen with
    | a :: b :: c :: d :: r, _ =>
      simp only [qN, mdN, accP, List.getD_cons_zero, List.getD_cons_succ, Nat.reduceSub, Nat.reduceEqDiff, if_false, List.take_succ_cons, List.take_zero] at h1 h2 hc ⊢
      have ha := a.toNat_lt; have hb := b.toNat_lt; have hcc := c.toNat_lt; have hdd := d.toNat_lt
      obtain ⟨q, hq⟩ : ∃ q, q = 64 * (64 * (64 * (a.toNat % 8) + b.toNat % 64) + c.toNat % 64) + d.toNat % 64 := ⟨_, rfl⟩
      rw [← hq] at h1 h2 ⊢
      have hq2 : q ≤ 1114111 := by unfold pointN at h1; omega
      unfold putOf at h2
      split at h2
      · simp at h2
      · split at h2
        · simp at h2
        · split at h2
          · simp at h2
          · simp only [List.cons.injEq, and_true] at h2
            have e1 := of_u8 h2.1 (by omega)
            have e2 := of_u8 h2.2.1 (by omega)
            have e3 := of_u8 h2.2.2.1 (by omega)
            have e4 := of_u8 h2.2.2.2 (by omega)
            have := next_of (l := a :: b :: c :: d :: r) (p := a.toNat % 8) (n := 4) hne (by simpa using hc) (lead4 (by simp only [List.getD_cons_zero]; omega)) (by omega) (by simp) (by
              intro j hj
              match j, hj with
              | 0, _ => simp only [List.getD_cons_succ, List.getD_cons_zero]; omega
              | 1, _ => simp only [List.getD_cons_succ, List.getD_cons_zero]; omega
              | 2, _ => simp only [List.getD_cons_succ, List.getD_cons_zero]; omega) (by simpa [accP, ← hq] using h1) (by simp [accP, lowN, ← hq]; omega)
            simpa [accP, ← hq] using this

theorem next_succ {l : List UInt8} {v n : Nat} (hc : ¬ (l.getD 0 0).toNat < 128) (h : nextOf l = some (v, n)) : (n = 2 ∨ n = 3 ∨ n = 4) ∧ n ≤ l.length ∧ succN l n := by
  unfold nextOf at h
  split at h
  · cases h
  rename_i hne
  simp only at h
  split at h
  · cases h
  rename_i hcond
  simp only [not_or, Classical.not_not] at hcond
  obtain ⟨c1, c2, c3, c4, c5⟩ := hcond
  simp only [Option.some.injEq, Prod.mk.injEq] at h
  obtain ⟨hv, hn⟩ := h
  rw [hn] at c1 c2 c3 c4 c5 hv
  have hl : lead (l.getD 0 0).toNat = ((lead (l.getD 0 0).toNat).1, n) := by rw [← hn]
  unfold lead at hl
  split at hl
  · rename_i hr
    simp only [Prod.mk.injEq] at hl
    obtain ⟨-, rfl⟩ := hl
    rw [lead2 hr] at c4 c5
    match l, c2 with
    | a :: b :: r, _ =>
      refine ⟨.inl rfl, by simp, ?_⟩
      have hb := c3 0 (by omega)
      simp only [succN, qN, mdN, accP, lowN, if_true, List.getD_cons_zero, List.getD_cons_succ, Nat.reduceSub, List.take_succ_cons, List.take_zero] at hr hb c4 c5 ⊢
      obtain ⟨q, hq⟩ : ∃ q, q = 64 * (a.toNat % 32) + b.toNat % 64 := ⟨_, rfl⟩
      rw [← hq] at c4 c5 ⊢
      refine ⟨c4, ?_⟩
      unfold putOf
      rw [if_neg (by omega), if_pos (by omega), u8_of (a := a) (by omega), u8_of (a := b) (by omega)]
    | [], h => simp at h
    | [a], h => simp at h
  · split at hl
    · rename_i hr
      simp only [Prod.mk.injEq] at hl
      obtain ⟨-, rfl⟩ := hl
      rw [lead3 hr] at c4 c5
      match l, c2 with
      | a :: b :: c :: r, _ =>
        refine ⟨.inr (.inl rfl), by simp, ?_⟩
        have hb := c3 0 (by omega)
        have hb2 := c3 1 (by omega)
        simp only [succN, qN, mdN, accP, lowN, if_true, List.getD_cons_zero, List.getD_cons_succ, Nat.reduceSub, Nat.reduceEqDiff, if_false, List.take_succ_cons, List.take_zero] at hr hb hb2 c4 c5 ⊢
        obtain ⟨q, hq⟩ : ∃ q, q = 64 * (64 * (a.toNat % 16) + b.toNat % 64) + c.toNat % 64 := ⟨_, rfl⟩
        rw [← hq] at c4 c5 ⊢
        refine ⟨c4, ?_⟩
        unfold putOf
        rw [if_neg (by omega), if_neg (by omega), if_pos (by omega), u8_of (a := a) (by omega), u8_of (a := b) (by omega), u8_of (a := c) (by omega)]
      | [], h => simp at h
      | [a], h => simp at h
      | [a, b], h => simp at h
    · split at hl
      · rename_i hr
        simp only [Prod.mk.injEq] at hl
        obtain ⟨-, rfl⟩ := hl
        rw [lead4 hr] at c4 c5
        match l, c2 with
        | a :: b :: c :: d :: r, _ =>
          refine ⟨.inr (.inr rfl), by simp, ?_⟩
          have hb := c3 0 (by omega)
          have hb2 := c3 1 (by omega)
          have hb3 := c3 2 (by omega)
          simp only [succN, qN, mdN, accP, lowN, List.getD_cons_zero, List.getD_cons_succ, Nat.reduceSub, Nat.reduceEqDiff, if_false, List.take_succ_cons, List.take_zero] at hr hb hb2 hb3 c4 c5 ⊢
          obtain ⟨q, hq⟩ : ∃ q, q = 64 * (64 * (64 * (a.toNat % 8) + b.toNat % 64) + c.toNat % 64) + d.toNat % 64 := ⟨_, rfl⟩
          rw [← hq] at c4 c5 ⊢
          refine ⟨c4, ?_⟩
          unfold putOf
          rw [if_neg (by omega), if_neg (by omega), if_neg (by omega), u8_of (a := a) (by omega), u8_of (a := b) (by omega), u8_of (a := c) (by omega), u8_of (a := d) (by omega)]
        | [], h => simp at h
        | [a], h => simp at h
        | [a, b], h => simp at h
        | [a, b, c], h => simp at h
      · simp only [Prod.mk.injEq] at hl
        exact absurd hl.2.symm c1
end Go.Ab
/-
  The point at a text's front: the document's function.
-/
namespace Go.Ab
variable {st s : St} {e : Env}

end Go.Ab
/-
  A text's points; whether it is one.
-/
namespace Go.Ab
variable {st s : St} {e : Env}

theorem next_pos {l : List UInt8} {p n : Nat} (h : nextOf l = some (p, n)) : 1 ≤ n ∧ n ≤ l.length ∧ p < 2147483648 := by
  by_cases hc : (l.getD 0 0).toNat < 128
  · unfold nextOf at h
    split at h
    · cases h
    · rename_i hne
      cases h
      have := List.length_pos_iff.2 hne
      omega
  · obtain ⟨h1, h2, h3⟩ := next_succ hc h
    have h4 := succ_next h1 h2 hc h3
    rw [h] at h4
    simp only [Option.some.injEq, Prod.mk.injEq] at h4
    have := h3.1
    rw [← h4.1] at this
    unfold pointN at this
    omega

theorem Kept.appS {esz : Nat} {v : PV} {xs : List PV} (hk : Kept st s) (h : Own st s esz v xs) : Kept st (Ab.appS s v) := by
  have htl := hk.tl
  rcases h with ⟨rfl, rfl⟩ | ⟨i, rfl, h2, h3⟩
  · exact hk.tok1
  · refine hk.of rfl rfl hk.lw (fun j hj => ?_) ?_
    · show (s.toks.set i false ++ [true])[j]? = s.toks[j]?
      rw [List.getElem?_append_left (by simp; omega), List.getElem?_set_ne (by omega)]
    · show st.toks.length ≤ (s.toks.set i false ++ [true]).length
      simp; omega
def FB (st s : St) (a b : Int) : Prop := st.boxes.length < s.boxes.length ∧ s.boxes[st.boxes.length]? = some [.int .i64 a, .int .i64 b]
theorem FB.store {a b c d : Int} (hk : Kept st s) (h : FB st s a b) : ∃ s', storePV s 2 (.ptr st.boxes.length 0) (.agg [.int .i64 c, .int .i64 d]) = some s' ∧ Kept st s' ∧ FB st s' c d ∧ s'.toks = s.toks := by
  refine ⟨{ s with boxes := s.boxes.set st.boxes.length [.int .i64 c, .int .i64 d] }, ?_, ?_, ⟨by simpa using h.1, by simp [h.1]⟩, rfl⟩
  · simp [storePV, h.2, PV.cells, PV.inB, PV.inB.inBAll, leafOk, hasTok, tokOf, setCells]
  · exact hk.of (by rw [List.take_set_of_le (Nat.le_refl _)]) rfl hk.lw (fun _ _ => rfl) hk.tl
theorem FB.load {a b : Int} (h : FB st s a b) : loadPV s true 2 (.ptr st.boxes.length 0) = some (.agg [.int .i64 a, .int .i64 b]) := by
  simp [loadPV, h.2, readCells]
theorem FB.appS {v : PV} {esz : Nat} {xs : List PV} {a b : Int} (h : FB st s a b) (ho : Own st s esz v xs) : FB st (Ab.appS s v) a b := by
  rcases ho with ⟨rfl, rfl⟩ | ⟨i, rfl, _, _⟩ <;> exact h

end Go.Ab
/-
  Whether a text is one of points; where it can be cut.
-/
namespace Go.Ab
variable {st s : St} {e : Env}

def isCont (c : UInt8) : Prop := 128 ≤ c.toNat ∧ c.toNat < 192
instance {c : UInt8} : Decidable (isCont c) := by unfold isCont; infer_instance
def back (l : List UInt8) : Nat → Nat
  | 0 => 0
  | n + 1 => if n + 1 < l.length ∧ isCont (l.getD (n + 1) 0) then back l n else n + 1
theorem next_cont {l : List UInt8} {p n : Nat} (h : nextOf l = some (p, n)) : ¬ isCont (l.getD 0 0) ∧ ∀ j, 1 ≤ j → j < n → isCont (l.getD j 0) := by
  unfold nextOf at h
  split at h
  · cases h
  split at h
  · rename_i hc
    cases h
    exact ⟨fun hh => by unfold isCont at hh; omega, fun j h1 h2 => by omega⟩
  · rename_i hc
    simp only at h
    split at h
    · cases h
    · rename_i hcond
      simp only [not_or, Classical.not_not] at hcond
      cases h
      refine ⟨fun hh => ?_, fun j h1 h2 => ?_⟩
      · apply hcond.1
        unfold isCont at hh
        unfold lead
        rw [if_neg (by omega), if_neg (by omega), if_neg (by omega)]
      · have := hcond.2.2.1 (j - 1) (by omega)
        rw [show j - 1 + 1 = j by omega] at this
        exact this

end Go.Ab
/-
  Messages, plain: which may be, whose a method is, what is wrong with a message.
-/
namespace Go.Ab

structure MD where
  (me uid : Bs) (seq stamp recur : Int) (org : Bs) (att : List (Bs × Bs)) (sta fin : Int) (sum com : Bs)

def personB (s : Bs) : Bool := decide ((plainA s).2 = 0) && decide (lowOf s = s)
structure Nd where
  (lo hi : Int) (re st ti : Bool)
/- the document's answer -/
end Go.Ab
/-
  Ids: plain.
-/
namespace Go.Ab

end Go.Ab
/-
  strings.Cut.
-/
namespace Go.Ab
variable {st : St} {e : Env}

theorem faP {n k b : Nat} : faddrPV n (.ptr b k) = some (.ptr b (k + n)) := rfl
theorem index_room' : ∀ (a b : List UInt8), 0 ≤ Lib.index a b → Lib.index a b + b.length ≤ a.length := by
  intro a b
  induction a with
  | nil =>
    intro h
    cases b with
    | nil => simp [Lib.index]
    | cons c r => simp [Lib.index] at h
  | cons c r ih =>
    intro h
    by_cases hp : b.isPrefixOf (c :: r) = true
    · have := (List.isPrefixOf_iff_prefix.1 hp).length_le
      rw [Lib.index, if_pos hp]; omega
    · have hp2 : b.isPrefixOf (c :: r) = false := Bool.eq_false_iff.2 hp
      rw [Lib.index, hp2] at h ⊢
      by_cases hq : (Lib.index r b == -1) = true
      · rw [hq] at h; simp at h
      · have hq2 : (Lib.index r b == -1) = false := by simpa using hq
        rw [hq2] at h ⊢
        simp only [Bool.false_eq_true, if_false] at h ⊢
        have hge := Lib.index_ge r b
        have hne : Lib.index r b ≠ -1 := by simpa using hq2
        have := ih (by omega)
        simp only [List.length_cons]; omega
def cutAt (a b : List UInt8) : PV := if 0 ≤ Lib.index a b then .tup [.str (a.take (Lib.index a b).toNat), .str (a.drop ((Lib.index a b).toNat + b.length)), .bool true] else .tup [.str a, .str [], .bool false]
theorem sCut_spec {a b : List UInt8} (h : a.length < 4294967281) (hb : b.length < 4294967281) : call prog (.fn 135 []) [.str a, .str b] st = some (cutAt a b, st) := by
  refine call_of_W prog_135 ?_
  unfold F_internal_stringslite_Cut; dsimp only
  have hroom := index_room' a b
  by_cases h0 : 0 ≤ Lib.index a b
  · have hr := hroom h0
    obtain ⟨k, hk⟩ : ∃ k : Nat, Lib.index a b = (k : Int) := ⟨(Lib.index a b).toNat, by omega⟩
    rw [hk] at hr
    have hadd : ∀ ek, binPV .add ek (.int .i64 (k : Int)) (.int .i64 (b.length : Int)) = some (.int .i64 ((k + b.length : Nat) : Int)) := fun ek => by
      rw [add_i (by omega) (by omega)]; simp
    have e1 : (0 : Int) ≤ (k : Int) := by omega
    simp (maxSteps := 1000000) (disch := omega) only [strIndex_spec h, hk, e1, len_s, hadd, slc_s_lo, slc_s_hi, qaaz, qabz, qacz, qaiz, qajz, qalz, evOp, qaoz, qapz, qaqz, qarz, qatz, qavz,
 ↓reduceIte, Nat.reduceEqDiff, List.append_nil, List.map_cons, List.map_nil, qawz, qaxz, Option.map_some, Option.map_none, qazz, qbaz, qbhz, qblz, qbsz, decide_true, Int.toNat_natCast, reduceCtorEq]
    rw [show cutAt a b = .tup [.str (a.take k), .str (a.drop (k + b.length)), .bool true] by simp [cutAt, hk]]
    exact end3 rfl rfl rfl Kp_str Kp_str Kp_bool
  · simp (maxSteps := 1000000) (disch := omega) only [strIndex_spec h, h0, qaaz, qabz, qacz, qaez, qaiz, qajz, qalz, evOp, qaoz, qapz, qaqz, qarz, qatz, qavz,
 ↓reduceIte, Nat.reduceEqDiff, List.append_nil, List.map_cons, List.map_nil, qawz, qaxz, Option.map_some, qazz, qbhz, qblz, qbsz, decide_false,
 Bool.false_eq_true, reduceCtorEq]
    rw [show cutAt a b = .tup [.str a, .str [], .bool false] by simp [cutAt, h0]]
    exact end3 rfl rfl rfl Kp_str Kp_str Kp_bool
theorem Cut_spec {a b : List UInt8} (h : a.length < 4294967281) (hb : b.length < 4294967281) : call prog (.fn 128 []) [.str a, .str b] st = some (cutAt a b, st) := by
  refine call_of_W prog_128 ?_
  unfold F_strings_Cut; dsimp only
  by_cases h0 : 0 ≤ Lib.index a b
  · have hc : cutAt a b = .tup [.str (a.take (Lib.index a b).toNat), .str (a.drop ((Lib.index a b).toNat + b.length)), .bool true] := by simp [cutAt, h0]
    simp (maxSteps := 1000000) (disch := omega) only [sCut_spec h hb, hc, qaaz, qabz, qaiz, qajz, qalz, evOp, qaoz, qapz, qaqz, qarz, qatz, qavz,
 ↓reduceIte, Nat.reduceEqDiff, List.append_nil, List.map_cons, List.map_nil, qawz, qaxz, Option.map_some, qazz, qblz, qcjz, List.getElem?_cons_zero, List.getElem?_cons_succ, reduceCtorEq]
    exact end3 rfl rfl rfl Kp_str Kp_str Kp_bool
  · have hc : cutAt a b = .tup [.str a, .str [], .bool false] := by simp [cutAt, h0]
    simp (maxSteps := 1000000) (disch := omega) only [sCut_spec h hb, hc, qaaz, qabz, qaiz, qajz, qalz, evOp, qaoz, qapz, qaqz, qarz, qatz, qavz,
 ↓reduceIte, Nat.reduceEqDiff, List.append_nil, List.map_cons, List.map_nil, qawz, qaxz, Option.map_some, qazz, qblz, qcjz, List.getElem?_cons_zero, List.getElem?_cons_succ, reduceCtorEq]
    exact end3 rfl rfl rfl Kp_str Kp_str Kp_bool

end Go.Ab
/-
  Rules that part the ways of a run: each way under what it was taken for.
-/
namespace Go.Ab
variable {A : AP} {st : St} {e : Env}

end Go.Ab
/-
  Helpers: how a call ends, cuts of which a first part may return.
-/
namespace Go.Ab
variable {st s : St} {e : Env}

theorem ret1 {a : Nat} {v : PV} (ha : e a = v) (hnt : notTup v = true) (hk : Kept st s) (hf : Flat v) : ∃ rv, resOf e s [.tmp a] = some rv ∧ leave st s rv = (v, st) :=
  ⟨v, by simp [resOf, rvAll, rv1, ha, hnt, packRes], hk.leave' hf⟩
theorem retB {a : Nat} {b c : Bool} (ha : e a = .bool b) (hk : Kept st s) (hb : b = c) : ∃ rv, resOf e s [.tmp a] = some rv ∧ leave st s rv = (.bool c, st) := by
  subst hb; exact ret1 ha rfl hk ⟨fun _ => rfl, fun _ _ => rfl⟩
theorem retI {a : Nat} {k : IntKind} {b c : Int} (ha : e a = .int k b) (hk : Kept st s) (hb : b = c) : ∃ rv, resOf e s [.tmp a] = some rv ∧ leave st s rv = (.int k c, st) := by
  subst hb; exact ret1 ha rfl hk ⟨fun _ => rfl, fun _ _ => rfl⟩
def endX (st : St) (rs : List RV) (R : PV × St → Prop) : Ex → Env → St → Prop := fun x e1 st1 => (x = .normal ∨ x = .ret) ∧ ∃ rv, resOf e1 st1 rs = some rv ∧ R (leave st st1 rv)
theorem call_ex {f : Nat} {args : List PV} {fn : ACFn} {R : PV × St → Prop} (hA : prog f = some (.code fn))
    (h : W prog fn.body (env0 args) { st with low := st.boxes.length } (endX st fn.results R)) : ∃ r, call prog (.fn f []) args st = some r ∧ R r := by
  obtain ⟨⟨x, e1, st1⟩, h1, h2, rv, h3, h4⟩ := h
  refine ⟨_, ?_, h4⟩
  rw [call_fn hA, List.append_nil, h1]
  rcases h2 with rfl | rfl
  · simp only [finish]; simp only at h3 h4; rw [h3]; rfl
  · simp only [finish]; simp only at h3 h4; rw [h3]; rfl
theorem Kept.box {S : St} {z : List PV} (h : Kept st S) (hbx : S.boxes.length = st.boxes.length + 1) : Kept st ⟨st.boxes ++ [z], S.toks, S.loops, S.low⟩ := ⟨by simp, h.lp, h.lw, h.tk⟩
theorem Kept.toks {T : List Bool} (h : Kept st s) : Kept st ⟨s.boxes, s.toks ++ T, s.loops, s.low⟩ := by
  refine ⟨h.bx, h.lp, h.lw, ?_⟩
  have h1 := h.tk
  have h2 : st.toks.length ≤ s.toks.length := by have := congrArg List.length h1; simp at this; omega
  simp only [List.take_append_of_le_length h2]
  exact h1
end Go.Ab
/-
  Signs, atoms, labels, names; parts of a text.
-/
namespace Go.Ab
variable {st s : St} {e : Env}

end Go.Ab
/-
  What may be an address; its normal form; an address without a name.
-/
namespace Go.Ab
variable {st s : St} {e : Env}

theorem iaddr_t {x : PV} {xs : List Bs} {k : IntKind} {c : Int} (h : x.vs 1 = some (xs.map .str)) (h1 : 0 ≤ c) (h2 : c.toNat < xs.length) : iaddrPV 1 x (.int k c) = some (.cp [.str (xs.getD c.toNat [])]) := by
  rw [iaddr_vs h h1 (by simpa using h2)]
  simp [List.getD, h2, PV.cells]
variable {B : List (List PV)} {T : List Bool} {L : List LoopS} {lo : Nat} {a b c : Bs}
theorem Kept.box1 {z : List PV} : Kept st ⟨st.boxes ++ [z], st.toks, st.loops, st.boxes.length⟩ := Kept.start.alloc

structure okA (a : Adr) : Prop where
  n : a.1.length ≤ 100000000
  l : a.2.1.length ≤ 100000000
  d : a.2.2.length ≤ 100000000

end Go.Ab
/-
  Layer 20: what must come of fixed calls; weekdays.
-/
namespace Go.Ab
set_option maxRecDepth 20000
variable {st s : St} {e : Env}

end Go.Ab
/-
  Ids are written.
-/
namespace Go.Ab
set_option maxRecDepth 20000
variable {st s : St} {e : Env}

end Go.Ab
/-
  Rows of one's own in a state that keeps what the caller has.
-/
namespace Go.Ab
variable {st s : St} {e : Env}

theorem Kept.appV {esz : Nat} {v u w : PV} {xs : List PV} (hk : Kept st s) (h : Own st s esz v xs) (hl : xs.length + 1 ≤ room) :
    ∃ v' s', Ab.appV esz s.tok1 v (.sl esz (.own s.toks.length) [u]) = some (v', s') ∧ Kept st s' ∧ Own st s' esz v' (xs ++ [u]) ∧ s'.boxes = s.boxes := by
  have hk1 := hk.tok1
  have hg : GrewAt s.tok1.boxes st.toks s.tok1.loops s.tok1.low s.tok1 := ⟨rfl, rfl, rfl, hk1.tk⟩
  have h1 := h.tok1
  obtain ⟨g2, o2⟩ := Own.app (ys := xs ++ [u]) hg h1
  refine ⟨_, _, appV_own h1 hl, ⟨?_, ?_, ?_, g2.tk⟩, o2, g2.bx⟩
  · rw [g2.bx]; exact hk1.bx
  · rw [g2.lp]; exact hk1.lp
  · rw [g2.lw]; exact hk1.lw
theorem lit_s {x : List UInt8} : litFill 1 (List.replicate 1 (.str [])) [(0, .str x)] = some [.str x] := rfl
end Go.Ab
/-
  Ids are read; the law DateUnlike.
-/
namespace Go.Ab
set_option maxRecDepth 20000
variable {st s : St} {e : Env}

end Go.Ab
/-
  The document's addresses: parts, letters, atoms, domains.
-/
namespace Go.Ab
set_option maxRecDepth 20000
variable {st s : St} {e : Env}

end Go.Ab
/-
  The document's addresses: domains, plain addresses.
-/
namespace Go.Ab
set_option maxRecDepth 20000
variable {st s : St} {e : Env}

end Go.Ab
/-
  The calendar: plain.
-/
namespace Go.Ab
set_option maxRecDepth 20000

def lpY (y : Nat) : Bool := (y % 4 == 0 && y % 100 != 0) || y % 400 == 0
def befY (y : Nat) : Nat := 365 * (y - 1970) + (y - 1) / 4 + (y - 1) / 400 - ((y - 1) / 100 + 477)
def mdY (y m : Nat) : Nat := if m = 2 then (if lpY y then 29 else 28) else if m = 4 ∨ m = 6 ∨ m = 9 ∨ m = 11 then 30 else 31
def cumY (y : Nat) : Nat → Nat
  | 0 => 0
  | m + 1 => cumY y m + if m = 0 then 0 else mdY y m

structure Ci (n y m d : Nat) : Prop where
  y1 : 1970 ≤ y
  y2 : y ≤ 9999
  m1 : 1 ≤ m
  m2 : m ≤ 12
  d1 : 1 ≤ d
  d2 : d ≤ mdY y m
  eq : n + 1 = befY y + cumY y m + d

end Go.Ab
/-
  Dates: two digits, names, the calendar's walk (the program's).
-/
namespace Go.Ab
set_option maxRecDepth 20000
variable {st s : St} {e : Env}

def shiftOK (n : Int) : Bool := decide (-86340 ≤ n) && decide (n ≤ 86340) && decide (n.tmod 60 = 0)
end Go.Ab
/-
  A day's year, month and day: both walks.
-/
namespace Go.Ab
set_option maxRecDepth 20000
variable {st s : St} {e : Env}

end Go.Ab
/-
  Dates are written, both ways; the law DatePrints.
-/
namespace Go.Ab
set_option maxRecDepth 20000
variable {st s : St} {e : Env}

end Go.Ab
/-
  The document's plain addresses and ids.
-/
namespace Go.Ab
set_option maxRecDepth 20000
variable {st s : St} {e : Env}

end Go.Ab
/-
  Methods, signs of a message and notes that may be: both walked.
-/
namespace Go.Ab
set_option maxRecDepth 20000
variable {st s : St} {e : Env}

end Go.Ab
/-
  How long an address is; its normal form, walked.
-/
namespace Go.Ab
variable {st s : St} {e : Env}
variable {B : List (List PV)} {T : List Bool} {L : List LoopS} {lo : Nat} {a b c : Bs}

end Go.Ab
/-
  Persons, roles, needs and marks, walked.
-/
namespace Go.Ab
set_option maxRecDepth 20000
variable {st s : St} {e : Env}

theorem plain_at0 {s : Bs} (h : (plainA s).2 = 0) : (plainA s).1.1 = [] ∧ atA (plainA s).1 = s ∧ rightA (plainA s).1 = true := by
  unfold plainA at h ⊢
  by_cases hr : rightA (cutA s) = true
  · rw [if_pos hr] at h ⊢
    refine ⟨by unfold cutA; split <;> rfl, ?_, hr⟩
    rcases chr_split 64 s with ⟨-, h2⟩ | ⟨n, r, rfl, hn⟩
    · exfalso
      have hc : cutA s = ([], s, []) := by unfold cutA; rw [h2]; rfl
      rw [hc] at hr
      simp only [rightA] at hr
      have : partsB 46 labB [] = false := by decide
      rw [this] at hr
      simp at hr
    · have hi := index_chr (k := 64) n r hn
      have hc : cutA (n ++ 64 :: r) = ([], n, r) := by
        unfold cutA
        rw [hi]
        have e1 : (0 : Int) ≤ (n.length : Int) := by omega
        rw [if_pos e1]
        simp
      rw [hc]; rfl
  · rw [if_neg hr] at h; simp at h
end Go.Ab
/-
  Dates are written; the law DatePrints.
-/
namespace Go.Ab
set_option maxRecDepth 20000
variable {st s : St} {e : Env}

def okP (t z : Int) : Prop := (0 ≤ t ∧ t ≤ 253402300799) ∧ shiftOK z = true ∧ (0 ≤ t + z ∧ t + z ≤ 253402300799)
end Go.Ab
/-
  Dates are read: small letters, digits.
-/
namespace Go.Ab
set_option maxRecDepth 20000
variable {st s : St} {e : Env}

end Go.Ab
/-
  Dates are read: names, years.
-/
namespace Go.Ab
set_option maxRecDepth 20000
variable {st s : St} {e : Env}

end Go.Ab
/-
  Dates are read: days, clocks, zones.
-/
namespace Go.Ab
set_option maxRecDepth 20000
variable {st s : St} {e : Env}

end Go.Ab
/-
  Dates are read: clocks.
-/
namespace Go.Ab
set_option maxRecDepth 20000
variable {st s : St} {e : Env}

end Go.Ab
/-
  Dates are read: zones.
-/
namespace Go.Ab
set_option maxRecDepth 20000
variable {st s : St} {e : Env}

end Go.Ab
/-
  Dates are read: what stands between ( and ) is left out.
-/
namespace Go.Ab
set_option maxRecDepth 20000
variable {st s : St} {e : Env} {b : Nat} {x : PV} {l : List UInt8}

end Go.Ab
/-
  Dates are read: words, plain.
-/
namespace Go.Ab
set_option maxRecDepth 20000

def noBl (w : Bs) : Prop := ∀ c ∈ w, c ≠ 32 ∧ c ≠ 9

end Go.Ab
/-
  Dates are read: the iterator over words.
-/
namespace Go.Ab
set_option maxRecDepth 20000
variable {st s : St} {e : Env}

end Go.Ab
/-
  Dates are read: a day's name ahead of the words, plain; a written date's words.
-/
namespace Go.Ab
set_option maxRecDepth 20000

end Go.Ab
/-
  Dates are read: a written date is read as it was, plain.
-/
namespace Go.Ab
set_option maxRecDepth 20000

def clW (w : Bs) : Prop := ∀ c ∈ w, c ≠ 32 ∧ c ≠ 9 ∧ c ≠ 40
theorem clW.app {a b : Bs} (h : clW a) (k : clW b) : clW (a ++ b) := fun c hc => by
  rcases List.mem_append.1 hc with h1 | h1
  · exact h c h1
  · exact k c h1
theorem clW.bl {a : Bs} (h : clW a) : noBl a := fun c hc => ⟨(h c hc).1, (h c hc).2.1⟩
end Go.Ab
/-
  Dates are read: a day's name ahead of the words, walked.
-/
namespace Go.Ab
set_option maxRecDepth 20000
variable {st s : St} {e : Env}

def rowV (t : Tok) (l : List Bs) : PV := .sl 1 t (l.map .str)
end Go.Ab
/-
  Dates are read: the whole, walked.
-/
namespace Go.Ab
set_option maxRecDepth 20000
variable {st s : St} {e : Env}

def dst (st : St) (d : PV) (B : Bs) (ts : List Bool) (lo : Nat) (rc : List LoopS) : St := ⟨st.boxes ++ [[d], [.str B]], st.toks ++ ts, st.loops ++ rc, lo⟩
variable {d d' : PV} {B : Bs} {ts : List Bool} {lo : Nat} {rc : List LoopS}
theorem dst_st (h1 : d'.cells = [d']) (h2 : leafOk d' = true) (h3 : ∀ n, d'.inB n = true) : storePV (dst st d B ts lo rc) 1 (.ptr st.boxes.length 0) d' = some (dst st d' B ts (if hasTok [d'] then min lo st.boxes.length else lo) rc) := by
  simp [storePV, dst, h1, h2, h3, setCells]
theorem tok_row {t : Tok} {l : List Bs} : (rowV t l).cells = [rowV t l] ∧ leafOk (rowV t l) = true ∧ ∀ n, (rowV t l).inB n = true := ⟨rfl, rfl, fun _ => rfl⟩

end Go.Ab
/-
  The laws DateBack and DateSame.
-/
namespace Go.Ab
set_option maxRecDepth 20000

end Go.Ab
/-
  Where a text can be cut, by the document.
-/
namespace Go.Ab
variable {st s : St} {e : Env}

theorem drop_get {l : List UInt8} {i j : Nat} : (l.drop i).getD j 0 = l.getD (i + j) 0 := by simp [List.getD]

end Go.Ab
/-
  Names and texts of a calendar's lines.
-/
namespace Go.Ab
variable {st s : St} {e : Env}

end Go.Ab
/-
  Lines that may be.
-/
namespace Go.Ab
variable {st s : St} {e : Env}

structure Ln where
  n : List UInt8
  pv : PV
  ps : List Fld
  v : List UInt8
def lV (L : Ln) : PV := .agg [.str L.n, L.pv, .str L.v]
structure Ln.ok (L : Ln) : Prop where
  vs : L.pv.vs 2 = some (L.ps.map fV)
  ib : ∀ n, L.pv.inB n = true
  lf : leafOk L.pv = true
  tk : tokOf L.pv = none
  l1 : L.n.length ≤ 300
  l2 : L.v.length ≤ 5000
  l3 : L.ps.length ≤ 30
  l4 : ∀ p ∈ L.ps, p.1.length + p.2.length ≤ 500

structure Ln.okR (L : Ln) : Prop where
  vs : L.pv.vs 2 = some (L.ps.map fV)
  ib : ∀ n, L.pv.inB n = true
  lf : leafOk L.pv = true
  l1 : L.n.length ≤ 1000000
  l2 : L.v.length ≤ 1000000
  l3 : L.ps.length ≤ 1000000
  l4 : ∀ p ∈ L.ps, p.1.length + p.2.length ≤ 1000000
theorem Ln.ok.r {L : Ln} (h : L.ok) : L.okR := ⟨h.vs, h.ib, h.lf, by have := h.l1; omega, by have := h.l2; omega, by have := h.l3; omega, fun p hp => by have := h.l4 p hp; omega⟩

def At (s : St) (b : Nat) (cs : List PV) : Prop := s.boxes[b]? = some cs
theorem At.alloc {b : Nat} {cs z : List PV} {T : List Bool} {Lp : List LoopS} {lo : Nat} (h : At s b cs) : At ⟨s.boxes ++ [z], T, Lp, lo⟩ b cs := by
  unfold At at *
  have := (List.getElem?_eq_some_iff.1 h).1
  show (s.boxes ++ [z])[b]? = _
  rw [List.getElem?_append_left this]; exact h
theorem At.last {z : List PV} {T : List Bool} {Lp : List LoopS} {lo : Nat} : At ⟨s.boxes ++ [z], T, Lp, lo⟩ s.boxes.length z := by
  unfold At; simp
theorem At.load {b k : Nat} {cs : List PV} {v : PV} {r : List PV} (h : At s b cs) (hk : cs.drop k = v :: r) : loadPV s false 1 (.ptr b k) = some v := by
  unfold At at h
  simp [loadPV, h, hk, readCells]
end Go.Ab
/-
  Lines that may be, by the document.
-/
namespace Go.Ab
variable {st s : St} {e : Env}

end Go.Ab
/-
  A line as a text.
-/
namespace Go.Ab
variable {st s : St} {e : Env}

end Go.Ab
/-
  A line as a text, by the document.
-/
namespace Go.Ab
variable {st s : St} {e : Env}

end Go.Ab
/-
  Lines are written, folded.
-/
namespace Go.Ab
variable {st s : St} {e : Env}

theorem Mine.alloc' {v : PV} {l : List UInt8} {B : List (List PV)} {Lp : List LoopS} {lo : Nat} (h : Mine st s v l) : Mine st ⟨B, s.toks, Lp, lo⟩ v l := ⟨h.1.move fun _ _ => rfl, h.2⟩
end Go.Ab
/-
  Lines are written, folded: the program's function.
-/
namespace Go.Ab
variable {st s : St} {e : Env}

end Go.Ab
/-
  Lines are written, folded: the document's function.
-/
namespace Go.Ab
variable {st s : St} {e : Env}

end Go.Ab
/-
  How big lines are; the law SheetWrites.
-/
namespace Go.Ab
variable {st s : St} {e : Env}

structure Ln.raw (L : Ln) : Prop where
  vs : L.pv.vs 2 = some (L.ps.map fV)
  ib : ∀ n, L.pv.inB n = true
  lf : leafOk L.pv = true
  tk : tokOf L.pv = none
  l1 : L.n.length ≤ 4000000000000000000
  l2 : L.v.length ≤ 4000000000000000000
  l3 : L.ps.length ≤ 9223372036854775807
  l4 : ∀ p ∈ L.ps, p.1.length ≤ 4000000000000000000 ∧ p.2.length ≤ 4000000000000000000
end Go.Ab
/-
  The law SheetWrites.
-/
namespace Go.Ab
variable {st s : St} {e : Env}

end Go.Ab
/-
  An argument of lines, opened.
-/
namespace Go.Ab

def strs2 (P : Program) (t : TypeId) : Bool := match fieldsT P t with
  | some fs => fs.toList.map (fun f => isStrT P f.type) == [true, true]
  | none => false
theorem HasTy.two {P : Program} {t : TypeId} {q : PV} (h : HasTy P t q) (hs0 : strs2 P t = true) : ∃ f : Fld, q = fV f ∧ f.1.length ≤ reachBytes ∧ f.2.length ≤ reachBytes := by
  unfold strs2 fieldsT at hs0
  obtain ⟨fs, ht⟩ : ∃ fs, P.underlying t = some (.struct fs) := by
    cases ht : P.underlying t with
    | none => simp [ht] at hs0
    | some d => cases d <;> first | exact ⟨_, rfl⟩ | (simp [ht] at hs0; done)
  simp only [ht, beq_iff_eq] at hs0
  obtain ⟨fl⟩ := fs
  have hlen : fl.length = 2 := by simpa using congrArg List.length hs0
  match fl, hlen, hs0 with
  | [f0, f1], _, hs0 =>
    simp only [List.map_cons, List.map_nil, List.cons.injEq, and_true] at hs0
    have hs := And.intro (isStrT_eq hs0.1) (isStrT_eq hs0.2)
    cases h with
    | agg xs ht' hl hx =>
      rw [ht] at ht'; cases ht'
      match xs, hl with
      | [x0, x1], _ =>
        obtain ⟨a, rfl, ha⟩ := HasTy.strR (hx 0 f0 x0 rfl rfl) hs.1
        obtain ⟨b, rfl, hb⟩ := HasTy.strR (hx 1 f1 x1 rfl rfl) hs.2
        exact ⟨(a, b), rfl, ha, hb⟩
    | bool _ ht' => rw [ht] at ht'; cases ht'
    | int _ ht' => rw [ht] at ht'; cases ht'
    | u8 _ ht' => rw [ht] at ht'; cases ht'
    | str _ ht' => rw [ht] at ht'; cases ht'
    | nils ht' => rw [ht] at ht'; cases ht'
    | bys _ ht' => rw [ht] at ht'; cases ht'
    | sl _ ht' => rw [ht] at ht'; cases ht'
theorem HasTy.twos {P : Program} {t e : TypeId} {q : PV} (h : HasTy P t q) (ht : P.underlying t = some (.slice e)) (hc : P.cellsOf e = 2) (hs : strs2 P e = true) :
    ∃ l : List Fld, q.vs 2 = some (l.map fV) ∧ (∀ f ∈ l, f.1.length ≤ reachBytes ∧ f.2.length ≤ reachBytes) ∧ l.length ≤ maxLen ∧ (∀ n, q.inB n = true) ∧ leafOk q = true ∧ tokOf q = none ∧ q.cells = [q] := by
  cases h with
  | nils ht' => exact ⟨[], rfl, fun f h => (by cases h), by simp, fun n => rfl, rfl, rfl, rfl⟩
  | bys _ ht' he' => rw [ht] at ht'; cases ht'; simp [strs2, fieldsT, he'] at hs
  | sl xs ht' he' hl hx =>
    rw [ht] at ht'; cases ht'
    have : ∀ xs : List PV, (∀ x ∈ xs, HasTy P e x) → ∃ l : List Fld, xs = l.map fV ∧ ∀ f ∈ l, f.1.length ≤ reachBytes ∧ f.2.length ≤ reachBytes := by
      intro xs
      induction xs with
      | nil => intro _; exact ⟨[], rfl, fun f h => (by cases h)⟩
      | cons x r ih =>
        intro hx
        obtain ⟨f, rfl, hf⟩ := HasTy.two (hx x (by simp)) hs
        obtain ⟨l, rfl, hl⟩ := ih (fun y hy => hx y (by simp [hy]))
        refine ⟨f :: l, rfl, fun g hg => ?_⟩
        rcases List.mem_cons.1 hg with rfl | hg
        · exact hf
        · exact hl g hg
    obtain ⟨l, rfl, hl2⟩ := this xs hx
    exact ⟨l, by simp [PV.vs, hc], hl2, by simpa using hl, fun n => rfl, rfl, rfl, rfl⟩
  | bool _ ht' => rw [ht] at ht'; cases ht'
  | int _ ht' => rw [ht] at ht'; cases ht'
  | u8 _ ht' => rw [ht] at ht'; cases ht'
  | str _ ht' => rw [ht] at ht'; cases ht'
  | agg _ ht' => rw [ht] at ht'; cases ht'

def lineT (P : Program) (t ep : TypeId) : Bool := match fieldsT P t with
  | some fs => match fs.toList with
    | [f0, f1, f2] => isStrT P f0.type && (sliceElem P f1.type == some ep) && isStrT P f2.type && strs2 P ep && (P.cellsOf ep == 2)
    | _ => false
  | none => false
theorem HasTy.line {P : Program} {t ep : TypeId} {q : PV} (h : HasTy P t q) (hs0 : lineT P t ep = true) : ∃ L : Ln, q = lV L ∧ L.raw := by
  unfold lineT fieldsT at hs0
  obtain ⟨fs, ht⟩ : ∃ fs, P.underlying t = some (.struct fs) := by
    cases ht : P.underlying t with
    | none => simp [ht] at hs0
    | some d => cases d <;> first | exact ⟨_, rfl⟩ | (simp [ht] at hs0; done)
  simp only [ht] at hs0
  obtain ⟨fl⟩ := fs
  match fl, hs0 with
  | [f0, f1, f2], hs0 =>
    simp only [Bool.and_eq_true, beq_iff_eq] at hs0
    obtain ⟨⟨⟨⟨s0, s1⟩, s2⟩, s3⟩, s4⟩ := hs0
    have hu1 : P.underlying f1.type = some (.slice ep) := by
      unfold sliceElem at s1
      split at s1
      · rename_i e he; rw [he]; cases s1; rfl
      · cases s1
    cases h with
    | agg xs ht' hl hx =>
      rw [ht] at ht'; cases ht'
      match xs, hl with
      | [x0, x1, x2], _ =>
        obtain ⟨a, rfl, ha⟩ := HasTy.strR (hx 0 f0 x0 rfl rfl) (isStrT_eq s0)
        obtain ⟨l, l1, l2, l3, l4, l5, l6, l7⟩ := HasTy.twos (hx 1 f1 x1 rfl rfl) hu1 s4 s3
        obtain ⟨b, rfl, hb⟩ := HasTy.strR (hx 2 f2 x2 rfl rfl) (isStrT_eq s2)
        have hR : reachBytes ≤ 4000000000000000000 := by decide
        refine ⟨⟨a, x1, l, b⟩, ?_, ⟨l1, l4, l5, l6, Nat.le_trans ha hR, Nat.le_trans hb hR, Nat.le_trans l3 (by decide), fun p hp => ⟨Nat.le_trans (l2 p hp).1 hR, Nat.le_trans (l2 p hp).2 hR⟩⟩⟩
        simp only [lV, flat, List.flatMap_cons, List.flatMap_nil, l7]
        rfl
    | bool _ ht' => rw [ht] at ht'; cases ht'
    | int _ ht' => rw [ht] at ht'; cases ht'
    | u8 _ ht' => rw [ht] at ht'; cases ht'
    | str _ ht' => rw [ht] at ht'; cases ht'
    | nils ht' => rw [ht] at ht'; cases ht'
    | bys _ ht' => rw [ht] at ht'; cases ht'
    | sl _ ht' => rw [ht] at ht'; cases ht'
theorem HasTy.lines {P : Program} {t e ep : TypeId} {q : PV} (h : HasTy P t q) (ht : P.underlying t = some (.slice e)) (hc : P.cellsOf e = 3) (hs : lineT P e ep = true) :
    ∃ l : List Ln, q.vs 3 = some (l.map lV) ∧ (∀ L ∈ l, L.raw) ∧ l.length ≤ 9223372036854775807 := by
  cases h with
  | nils ht' => exact ⟨[], rfl, fun f h => (by cases h), by simp⟩
  | bys _ ht' he' => rw [ht] at ht'; cases ht'; simp [lineT, fieldsT, he'] at hs
  | sl xs ht' he' hl hx =>
    rw [ht] at ht'; cases ht'
    have : ∀ xs : List PV, (∀ x ∈ xs, HasTy P e x) → ∃ l : List Ln, xs = l.map lV ∧ ∀ L ∈ l, L.raw := by
      intro xs
      induction xs with
      | nil => intro _; exact ⟨[], rfl, fun f h => (by cases h)⟩
      | cons x r ih =>
        intro hx
        obtain ⟨f, rfl, hf⟩ := HasTy.line (hx x (by simp)) hs
        obtain ⟨l, rfl, hl⟩ := ih (fun y hy => hx y (by simp [hy]))
        refine ⟨f :: l, rfl, fun g hg => ?_⟩
        rcases List.mem_cons.1 hg with rfl | hg
        · exact hf
        · exact hl g hg
    obtain ⟨l, rfl, hl2⟩ := this xs hx
    exact ⟨l, by simp [PV.vs, hc], hl2, Nat.le_trans (by simpa using hl) (by decide)⟩
  | bool _ ht' => rw [ht] at ht'; cases ht'
  | int _ ht' => rw [ht] at ht'; cases ht'
  | u8 _ ht' => rw [ht] at ht'; cases ht'
  | str _ ht' => rw [ht] at ht'; cases ht'
  | agg _ ht' => rw [ht] at ht'; cases ht'
end Go.Ab
/-
  Lines' folds are undone: bytes are replaced.
-/
namespace Go.Ab
set_option maxRecDepth 20000
variable {st s : St} {e : Env}

end Go.Ab
/-
  Lines' folds are undone, walked.
-/
namespace Go.Ab
set_option maxRecDepth 20000
variable {st s : St} {e : Env}

theorem setCells_mid (vs : List PV) : ∀ (a b : List PV), vs.length ≤ b.length → setCells (a ++ b) a.length vs = a ++ vs ++ b.drop vs.length := by
  induction vs with
  | nil => intro a b _; simp [setCells]
  | cons v vs ih =>
    intro a b h
    match b, h with
    | w :: b, h =>
      rw [setCells]
      have e1 : (a ++ w :: b).set a.length v = (a ++ [v]) ++ b := by
        rw [List.set_append_right _ _ (Nat.le_refl _)]; simp
      have := ih (a ++ [v]) b (by simpa using h)
      rw [List.length_append] at this
      rw [e1]
      show setCells (a ++ [v] ++ b) (a.length + 1) vs = _
      rw [show a.length + 1 = a.length + [v].length from rfl, this]; simp
end Go.Ab
/-
  A line is read: the parts of it.
-/
namespace Go.Ab
set_option maxRecDepth 20000
variable {st s : St} {e : Env}

end Go.Ab
/-
  Texts of points: put together, cut.
-/
namespace Go.Ab

theorem accP_congr {l m : List UInt8} {p : Nat} : ∀ k, (∀ j, j ≤ k → l.getD j 0 = m.getD j 0) → accP l p k = accP m p k := by
  intro k
  induction k with
  | zero => intro _; rfl
  | succ k ih =>
    intro h
    simp only [accP]
    rw [ih (fun j hj => h j (by omega)), h (k + 1) (by omega)]
theorem next_congr {l m : List UInt8} {p n : Nat} (h : nextOf l = some (p, n)) (hl : n ≤ m.length) (he : ∀ j, j < n → m.getD j 0 = l.getD j 0) : nextOf m = some (p, n) := by
  obtain ⟨h1, h2, -⟩ := next_pos h
  have h0 := he 0 (by omega)
  have hne : m ≠ [] := by rintro rfl; simp at hl; omega
  by_cases hc : (l.getD 0 0).toNat < 128
  · have h' := h
    unfold nextOf at h'
    split at h'
    · cases h'
    · cases h'
      unfold nextOf
      rw [if_neg hne, h0, if_pos hc]
  · obtain ⟨k1, k2, k3⟩ := next_succ hc h
    have hc2 : ¬ (m.getD 0 0).toNat < 128 := by rw [h0]; exact hc
    have hq : qN m n = qN l n := by
      unfold qN
      rw [h0]
      exact accP_congr _ (fun j hj => he j (by omega))
    have ht : m.take n = l.take n := by
      apply List.ext_getElem
      · simp; omega
      · intro i h1 h2
        simp only [List.length_take] at h1 h2
        have := he i (by omega)
        simp only [List.getElem_take]
        simpa [List.getD, show i < m.length by omega, show i < l.length by omega] using this
    have hs : succN m n := ⟨by rw [hq]; exact k3.1, by rw [hq, ht]; exact k3.2⟩
    have e1 := succ_next k1 hl hc2 hs
    have e2 := succ_next k1 k2 hc k3
    rw [h] at e2
    cases e2
    rw [e1, hq]

inductive Vd : List UInt8 → Prop
  | nil : Vd []
  | cons {l : List UInt8} {p n : Nat} (h : nextOf l = some (p, n)) (hr : Vd (l.drop n)) : Vd l

theorem Vd.app {a b : List UInt8} (ha : Vd a) (hb : Vd b) : Vd (a ++ b) := by
  induction ha with
  | nil => exact hb
  | @cons l p n h hr ih =>
    obtain ⟨n1, n2, -⟩ := next_pos h
    refine .cons (p := p) (n := n) (next_congr h (by simp; omega) fun j hj => ?_) ?_
    · simp only [List.getD]; rw [List.getElem?_append_left (by omega)]
    · rw [List.drop_append_of_le_length n2]; exact ih
theorem Vd.cut {l : List UInt8} (h : Vd l) : ∀ c, c ≤ l.length → (c = l.length ∨ ¬ isCont (l.getD c 0)) → Vd (l.take c) ∧ Vd (l.drop c) := by
  induction h with
  | nil => intro c hc _; simp at hc; subst hc; exact ⟨.nil, .nil⟩
  | @cons l p n h hr ih =>
    intro c hc hcc
    obtain ⟨n1, n2, -⟩ := next_pos h
    obtain ⟨-, c2⟩ := next_cont h
    by_cases h0 : c = 0
    · subst h0; exact ⟨.nil, .cons h hr⟩
    · have hnc : n ≤ c := by
        rcases hcc with hcc | hcc
        · omega
        · by_cases hlt : c < n
          · exact absurd (c2 c (by omega) hlt) hcc
          · omega
      have h3 := ih (c - n) (by simp; omega) (by
        rcases hcc with hcc | hcc
        · exact .inl (by simp; omega)
        · right; rw [drop_get, show n + (c - n) = c by omega]; exact hcc)
      have e1 : (l.drop n).drop (c - n) = l.drop c := by rw [List.drop_drop]; congr 1; omega
      have e2 : (l.take c).drop n = (l.drop n).take (c - n) := by rw [List.drop_take]
      refine ⟨.cons (p := p) (n := n) (next_congr h (by simp; omega) fun j hj => ?_) (by rw [e2]; exact h3.1), by rw [← e1]; exact h3.2⟩
      simp [List.getD, show j < c by omega]
theorem Vd.ascii : ∀ {l : List UInt8}, (∀ c ∈ l, c.toNat < 128) → Vd l := by
  intro l
  induction l with
  | nil => intro _; exact .nil
  | cons c r ih =>
    intro h
    refine .cons (p := c.toNat) (n := 1) ?_ (ih (fun d hd => h d (by simp [hd])))
    have := h c (by simp)
    unfold nextOf
    simp [this]
end Go.Ab
/-
  The pieces of a calendar's line: the plain law.
-/
namespace Go.Ab

def Fine (l : List UInt8) : Prop := Vd l ∧ ∀ c ∈ l, c ≠ 13
theorem Fine.app {a b : List UInt8} (ha : Fine a) (hb : Fine b) : Fine (a ++ b) := ⟨ha.1.app hb.1, fun c hc => by
  rcases List.mem_append.1 hc with h | h
  · exact ha.2 c h
  · exact hb.2 c h⟩
theorem Fine.one {c : UInt8} (h : c.toNat < 128) (h2 : c ≠ 13) : Fine [c] := ⟨Vd.ascii fun d hd => by simp at hd; subst hd; exact h, fun d hd => by simp at hd; subst hd; exact h2⟩
theorem Fine.nil : Fine [] := ⟨.nil, fun c h => by cases h⟩

end Go.Ab
/-
  A line's text is read: the plain law.
-/
namespace Go.Ab

abbrev LnD := Bs × List Fld × Bs
end Go.Ab
/-
  A pair in bytes.
-/
namespace Go.Ab
variable {st : St} {e : Env}

end Go.Ab
/-
  The document's lines.
-/
namespace Go.Ab
variable {st : St} {e : Env}

def segs : List UInt8 → List UInt8 → List (List UInt8 × Bool)
  | [], acc => if acc = [] then [] else [(acc, false)]
  | [c], acc => [(acc ++ [c], false)]
  | c :: d :: r, acc => if c = 13 ∧ d = 10 then (acc, true) :: segs r [] else segs (d :: r) (acc ++ [c])

def place : Nat → List (List UInt8 × Bool) → List (Nat × List UInt8 × Bool)
  | _, [] => []
  | a, (b, w) :: r => (a, b, w) :: place (a + b.length + 2) r

def refLines (l : List UInt8) : List (Nat × List UInt8 × Bool) := place 0 (segs l [])

theorem segs_index : ∀ (m acc : List UInt8), (Lib.index m [13, 10] = -1 ∧ segs m acc = if acc ++ m = [] then [] else [(acc ++ m, false)]) ∨
    (∃ n : Nat, Lib.index m [13, 10] = n ∧ n + 2 ≤ m.length ∧ segs m acc = (acc ++ m.take n, true) :: segs (m.drop (n + 2)) []) := by
  intro m
  induction m with
  | nil => intro acc; left; simp [Lib.index, segs]
  | cons c m ih =>
    intro acc
    cases m with
    | nil =>
      left
      simp [Lib.index, segs, List.isPrefixOf]
    | cons d r =>
      by_cases h : c = 13 ∧ d = 10
      · right
        obtain ⟨rfl, rfl⟩ := h
        exact ⟨0, by simp [Lib.index, List.isPrefixOf], by simp, by simp [segs]⟩
      · have hp : ([13, 10] : List UInt8).isPrefixOf (c :: d :: r) = false := by
          simp only [List.isPrefixOf, Bool.and_true]
          rw [Bool.eq_false_iff]
          intro hh
          simp only [Bool.and_eq_true, beq_iff_eq] at hh
          exact h ⟨hh.1.symm, hh.2.symm⟩
        have hi : Lib.index (c :: d :: r) [13, 10] = if Lib.index (d :: r) [13, 10] == -1 then -1 else Lib.index (d :: r) [13, 10] + 1 := by
          rw [Lib.index, hp]; simp
        have hs : segs (c :: d :: r) acc = segs (d :: r) (acc ++ [c]) := by simp only [segs]; rw [if_neg h]
        rcases ih (acc ++ [c]) with ⟨h1, h2⟩ | ⟨n, h1, h2, h3⟩
        · left
          refine ⟨by rw [hi, h1]; rfl, ?_⟩
          rw [hs, h2]; simp
        · right
          refine ⟨n + 1, ?_, by simp at h2 ⊢; omega, ?_⟩
          · rw [hi, h1]
            rw [if_neg (by simp <;> omega)]; rfl
          · rw [hs, h3]; simp

def full (q : Nat × List UInt8 × Bool) : List UInt8 := q.2.1 ++ (if q.2.2 then [13, 10] else [])

theorem segs_take {m : List UInt8} {n : Nat} (h : Lib.index m [13, 10] = n) : m.take (n + 2) = m.take n ++ [13, 10] := by
  induction m generalizing n with
  | nil => simp [Lib.index] at h
  | cons c m ih =>
    rw [Lib.index] at h
    split at h
    · rename_i hp
      obtain rfl : n = 0 := by omega
      match m, hp with
      | [], hp => simp [List.isPrefixOf] at hp
      | d :: r, hp =>
        simp [List.isPrefixOf] at hp
        obtain ⟨rfl, rfl⟩ := hp
        simp
    · split at h
      · omega
      · obtain ⟨k, rfl⟩ : ∃ k, n = k + 1 := ⟨n - 1, by rename_i h1 h2; have := Lib.index_ge m [13, 10]; simp at h2; omega⟩
        have := ih (n := k) (by omega)
        rw [show k + 1 + 2 = (k + 2) + 1 by omega, List.take_succ_cons, this, List.take_succ_cons]; rfl

end Go.Ab
/-
  The lines of written lines: the plain law.
-/
namespace Go.Ab

end Go.Ab
/-
  Lines' folds are undone, lines are read: the plain law.
-/
namespace Go.Ab

def ofLn (L : Ln) : LnD := (L.n, L.ps, L.v)
end Go.Ab
/-
  A line's text is read, walked.
-/
namespace Go.Ab
set_option maxRecDepth 20000
variable {st s : St} {e : Env}

structure Wrote (S S' : St) (b : Nat) (cs : List PV) : Prop where
  at_ : At S' b cs
  ot : ∀ c ds, c ≠ b → At S c ds → At S' c ds
  kp : ∀ st, Kept st S → st.boxes.length ≤ b → Kept st S'
  tk : S'.toks = S.toks
  bl : S'.boxes.length = S.boxes.length
  lp : S'.loops = S.loops
  lw : S'.low ≤ S.low
theorem At.lt {b : Nat} {cs : List PV} (h : At s b cs) : b < s.boxes.length := (List.getElem?_eq_some_iff.1 h).1
theorem At.bx {s' : St} {b : Nat} {cs : List PV} (h : At s b cs) (hb : s'.boxes = s.boxes) : At s' b cs := by unfold At at *; rw [hb]; exact h
theorem wrote_set {S : St} {b lo : Nat} {cs ds : List PV} (h : At S b cs) (hlo : lo = S.low ∨ lo = min S.low b) : Wrote S ⟨S.boxes.set b ds, S.toks, S.loops, lo⟩ b ds := by
  have hlt := h.lt
  refine ⟨by simp [At, hlt], fun c es hc hA => by simp only [At] at *; rw [List.getElem?_set_ne (Ne.symm hc)]; exact hA, fun st hk hb => ?_, rfl, by simp, rfl, by rcases hlo with rfl | rfl <;> simp only <;> omega⟩
  refine hk.of (by simp [List.take_set, List.set_eq_of_length_le (show (List.take st.boxes.length S.boxes).length ≤ b by simp; omega)]) rfl ?_ (fun i _ => rfl) hk.tl
  have := hk.lw
  simp only
  rcases hlo with rfl | rfl <;> omega
theorem At.st1 {S : St} {b off : Nat} {cs : List PV} {v : PV} (h : At S b cs) (hv : Leaf v) (hb : v.inB (b + 1) = true) (ho : off < cs.length) : ∃ S', storePV S 1 (.ptr b off) v = some S' ∧ Wrote S S' b (cs.set off v) := by
  refine ⟨_, ?_, wrote_set (ds := cs.set off v) (lo := if hasTok v.cells then min S.low b else S.low) h (by split <;> simp)⟩
  unfold At at h
  simp only [storePV, h, hv.1, setCells]
  rw [if_pos ⟨rfl, by omega, hb, by simp [hv.2]⟩]
theorem At.st2 {S : St} {b : Nat} {c0 c1 v0 v1 : PV} (h : At S b [c0, c1]) (l0 : leafOk v0 = true) (l1 : leafOk v1 = true) (i0 : v0.inB (b + 1) = true) (i1 : v1.inB (b + 1) = true) : ∃ S', storePV S 2 (.ptr b 0) (.agg [v0, v1]) = some S' ∧ Wrote S S' b [v0, v1] := by
  refine ⟨_, ?_, wrote_set (ds := [v0, v1]) (lo := if hasTok [v0, v1] then min S.low b else S.low) h (by split <;> simp)⟩
  unfold At at h
  simp [storePV, h, PV.cells, setCells, PV.inB, PV.inB.inBAll, l0, l1, i0, i1]; rfl
theorem At.ld2 {S : St} {b : Nat} {x y : PV} (h : At S b [x, y]) : loadPV S true 2 (.ptr b 0) = some (.agg [x, y]) := by
  unfold At at h; simp [loadPV, h, readCells]
end Go.Ab
/-
  Lines are read, walked.
-/
namespace Go.Ab
set_option maxRecDepth 20000
variable {st s : St} {e : Env}

theorem At.take {X : St} {b n : Nat} {cs : List PV} (h : At s b cs) (hb : b < n) (hX : X.boxes = s.boxes.take n) : At X b cs := by
  unfold At at *; rw [hX, List.getElem?_take, if_pos hb]; exact h
def stL (st : St) (rs : List LoopS) : St := ⟨st.boxes, st.toks, st.loops ++ rs, st.low⟩
theorem Kept.newS {S : St} {b : Bool} (h : Kept st S) : Kept st (newS S b) := by cases b; exact h.tok1; exact h
theorem Own.newS {S : St} {b : Bool} {esz : Nat} {v : PV} {xs : List PV} (h : Own st S esz v xs) : Own st (newS S b) esz v xs := by cases b; exact h.tok1; exact h
end Go.Ab
/-
  Lines are read, walked.
-/
namespace Go.Ab
set_option maxRecDepth 20000
variable {st s : St} {e : Env}

theorem Kept.swap {S : St} {r r' : LoopS} (h : Kept (stL st [r]) S) : Kept (stL st [r']) { S with loops := S.loops.set st.loops.length r' } := by
  refine ⟨h.bx, ?_, h.lw, h.tk⟩
  have := h.lp
  simp only [stL] at this ⊢
  rw [this, set_app0]
end Go.Ab
/-
  A line's text is read by the document, walked.
-/
namespace Go.Ab
set_option maxRecDepth 20000
variable {st s : St} {e : Env}

end Go.Ab
/-
  Lines are read by the document, walked; equal lines.
-/
namespace Go.Ab
set_option maxRecDepth 20000
variable {st s : St} {e : Env}

end Go.Ab
/-
  The sheet's values: escaped, unescaped; the program's and the document's answers.
-/
namespace Go.Ab
variable {st : St} {e : Env}

end Go.Ab
/-
  Equal lines; what must come of fixed calls.
-/
namespace Go.Ab
set_option maxRecDepth 20000
variable {st s : St} {e : Env}

end Go.Ab
/-
  What the laws of lines' reading ask: plain.
-/
namespace Go.Ab
set_option maxRecDepth 20000
variable {st s : St} {e : Env}

end Go.Ab
/-
  Trees: plain.
-/
namespace Go.Ab

inductive TD where
  | mk (n : Bs) (ls : List LnD) (cs : List TD)
def T0 : TD := .mk [] [] []
def TD.n : TD → Bs
  | .mk n _ _ => n
def TD.ls : TD → List LnD
  | .mk _ ls _ => ls
def TD.cs : TD → List TD
  | .mk _ _ cs => cs
mutual
def TD.deep : TD → Nat
  | .mk _ _ cs => 1 + deepL cs
def deepL : List TD → Nat
  | [] => 0
  | c :: r => max c.deep (deepL r)
end
def begS : Bs := [66, 69, 71, 73, 78]
def endS : Bs := [69, 78, 68]
theorem take_snoc {α : Type} {d : α} {l : List α} {i : Nat} (h : i < l.length) : l.take (i + 1) = l.take i ++ [l.getD i d] := by
  rw [List.take_succ_eq_append_getElem h]; simp [List.getD, h]
theorem getD_mem {α : Type} {d : α} {l : List α} {i : Nat} (h : i < l.length) : l.getD i d ∈ l := by simp [List.getD, h]

def Ln.good (L : Ln) : Prop := L.pv.vs 2 = some (L.ps.map fV) ∧ tokOf L.pv = none
def okD (d : LnD) : Prop := d.1.length ≤ 300 ∧ d.2.2.length ≤ 5000 ∧ d.2.1.length ≤ 30 ∧ ∀ p ∈ d.2.1, p.1.length + p.2.length ≤ 500
theorem vs_leaf {v : PV} {e : Nat} {xs : List PV} (h : v.vs e = some xs) : leafOk v = true ∧ ∀ n, v.inB n = true := by
  rcases vs_cases h with ⟨rfl, _⟩ | ⟨t, rfl⟩ <;> exact ⟨rfl, fun _ => rfl⟩
theorem Ln.good.ok {L : Ln} (h : L.good) (hb : okD (ofLn L)) : L.ok := ⟨h.1, (vs_leaf h.1).2, (vs_leaf h.1).1, h.2, hb.1, hb.2.1, hb.2.2.1, hb.2.2.2⟩
inductive IsT : TD → PV → Prop
  | mk {n : Bs} {ls : List LnD} {cs : List TD} {lv cv : PV} {Ls : List Ln} {ys : List PV} (h1 : lv.vs 3 = some (Ls.map lV)) (h2 : Ls.map ofLn = ls) (h3 : ∀ L ∈ Ls, L.good) (h5 : cv.vs 3 = some ys) (h6 : ys.length = cs.length) (h7 : ∀ i, i < cs.length → IsT (cs.getD i T0) (ys.getD i .undef)) : IsT (.mk n ls cs) (.agg [.str n, lv, cv])
inductive TD.sm : TD → Prop
  | mk {n : Bs} {ls : List LnD} {cs : List TD} (h1 : n.length ≤ 5000) (h2 : ls.length ≤ 100000) (h3 : ∀ d ∈ ls, okD d) (h4 : cs.length ≤ 100000) (h5 : ∀ c ∈ cs, c.sm) : TD.sm (.mk n ls cs)
theorem IsT.inv {n : Bs} {ls : List LnD} {cs : List TD} {v : PV} (h : IsT (.mk n ls cs) v) : ∃ (lv cv : PV) (Ls : List Ln) (ys : List PV), v = .agg [.str n, lv, cv] ∧ lv.vs 3 = some (Ls.map lV) ∧ Ls.map ofLn = ls ∧ (∀ L ∈ Ls, L.good) ∧ cv.vs 3 = some ys ∧ ys.length = cs.length ∧ ∀ i, i < cs.length → IsT (cs.getD i T0) (ys.getD i .undef) := by
  cases h with
  | mk h1 h2 h3 h5 h6 h7 => exact ⟨_, _, _, _, rfl, h1, h2, h3, h5, h6, h7⟩
theorem IsT.agg {T : TD} {v : PV} (h : IsT T v) : ∃ lv cv, v = .agg [.str T.n, lv, cv] ∧ (leafOk lv = true ∧ ∀ n, lv.inB n = true) ∧ (leafOk cv = true ∧ ∀ n, cv.inB n = true) := by
  obtain ⟨n, ls, cs⟩ := T
  obtain ⟨lv, cv, Ls, ys, rfl, h1, h2, h3, h5, -, -⟩ := h.inv
  exact ⟨lv, cv, rfl, vs_leaf h1, vs_leaf h5⟩
mutual
def TD.lines : TD → List LnD
  | .mk n ls cs => (begS, [], n) :: (ls ++ linesL cs) ++ [(endS, [], n)]
def linesL : List TD → List LnD
  | [] => []
  | c :: r => c.lines ++ linesL r
end
end Go.Ab
/-
  Trees: small functions, equal trees, how many there are.
-/
namespace Go.Ab
set_option maxRecDepth 20000
variable {st s : St} {e : Env}

end Go.Ab
/-
  Marks of a mail's way: which may be, and how they are written.
-/
namespace Go.Ab
set_option maxRecDepth 20000
variable {st s : St} {e : Env}

structure TM where
  (fr by_ id for_ : Bs) (at_ sh : Int)
instance okP_dec (t z : Int) : Decidable (okP t z) := by unfold okP; infer_instance
variable {m : TM}
structure okT (m : TM) : Prop where
  fr : m.fr.length ≤ 1000000
  by_ : m.by_.length ≤ 1000000
  id : m.id.length ≤ 1000000
  for_ : m.for_.length ≤ 1000000

structure rwT (m : TM) : Prop where
  fr : m.fr.length ≤ 4000000000000000000
  by_ : m.by_.length ≤ 4000000000000000000
  id : m.id.length ≤ 9000000000000000000
  for_ : m.for_.length ≤ 9000000000000000000
end Go.Ab
/-
  strings.HasSuffix.
-/
namespace Go.Ab
variable {st s : St} {e : Env}

end Go.Ab
/-
  Marks are read: a path's person; the iterator over words.
-/
namespace Go.Ab
set_option maxRecDepth 20000
variable {st s : St} {e : Env}

end Go.Ab
/-
  A message's people, walked: a map of the addresses that were seen.
-/
namespace Go.Ab
set_option maxRecDepth 20000
variable {st s : St} {e : Env}

theorem ldp2 {a b : PV} : loadPV st true 2 (.cp [a, b]) = some (.agg [a, b]) := rfl
theorem ldp0 {a : PV} {r : List PV} : loadPV st false 1 (.cp (a :: r)) = some a := rfl
end Go.Ab
/-
  A mark is read: the words gathered.
-/
namespace Go.Ab
set_option maxRecDepth 20000
variable {st s : St} {e : Env}

def Gath (st : St) (ts : List Bool) (lo : Nat) (d : PV) (xs : List Bs) : Prop := (d = .nils ∧ xs = []) ∨ ∃ i, d = rowV (.own i) xs ∧ st.toks.length ≤ i ∧ (st.toks ++ ts)[i]? = some true ∧ lo ≤ st.boxes.length
theorem Gath.vs {st : St} {ts : List Bool} {lo : Nat} {d : PV} {xs : List Bs} (h : Gath st ts lo d xs) : d.vs 1 = some (xs.map .str) := by
  rcases h with ⟨rfl, rfl⟩ | ⟨i, rfl, _⟩ <;> simp [PV.vs, rowV]
theorem Gath.app {st : St} {ts : List Bool} {lo : Nat} {d : PV} {xs : List Bs} {w B : Bs} {rc : List LoopS} (h : Gath st ts lo d xs) (hlo : st.boxes.length ≤ lo) (hxl : xs.length + 1 ≤ 100) :
    ∃ d' ts', appV 1 ⟨(dst st d B ts lo rc).boxes, (dst st d B ts lo rc).toks ++ [true], (dst st d B ts lo rc).loops, (dst st d B ts lo rc).low⟩ d (.sl 1 (.own (st.toks ++ ts).length) [.str w]) = some (d', dst st d B ts' lo rc) ∧
      storePV (dst st d B ts' lo rc) 1 (.ptr st.boxes.length 0) d' = some (dst st d' B ts' st.boxes.length rc) ∧ Gath st ts' st.boxes.length d' (xs ++ [w]) := by
  obtain ⟨i, ts', ha, hi1, hi2⟩ : ∃ i ts', appV 1 ⟨(dst st d B ts lo rc).boxes, (dst st d B ts lo rc).toks ++ [true], (dst st d B ts lo rc).loops, (dst st d B ts lo rc).low⟩ d (.sl 1 (.own (st.toks ++ ts).length) [.str w]) = some (rowV (.own i) (xs ++ [w]), dst st d B ts' lo rc) ∧ st.toks.length ≤ i ∧ (st.toks ++ ts')[i]? = some true := by
    rcases h with ⟨rfl, rfl⟩ | ⟨i, rfl, hi1, hi2, hi3⟩
    · refine ⟨st.toks.length + (ts.length + 1), ts ++ [true, true], ?_, by omega, by rw [get_app, get_app]; rfl⟩
      simp [appV, srcV, freshT, dst, rowV, room]
    · have hlt : i < (st.toks ++ ts).length := (List.getElem?_eq_some_iff.1 hi2).1
      have hg : (st.toks ++ ts ++ [true])[i]? = some true := by rw [List.getElem?_append_left hlt]; exact hi2
      refine ⟨st.toks.length + (ts.length + 1), (ts ++ [true]).set (i - st.toks.length) false ++ [true], ?_, by omega, ?_⟩
      · have hs : (st.toks ++ (ts ++ [true])).set i false = st.toks ++ (ts ++ [true]).set (i - st.toks.length) false := by
          rw [List.set_append_right _ _ hi1]
        have hr : xs.length + 1 ≤ room := by unfold room; omega
        have hg2 : (st.toks ++ (ts ++ [true]))[i]? = some true := by rw [← List.append_assoc]; exact hg
        simp [appV, srcV, rowV, appTok, freshT, dst, hg2, hs, hr, List.append_assoc]
      · have hsl : ((ts ++ [true]).set (i - st.toks.length) false).length = ts.length + 1 := by simp
        rw [get_app, ← hsl]
        exact get_app0
  have hm : min lo st.boxes.length = st.boxes.length := by omega
  refine ⟨_, ts', ha, ?_, .inr ⟨i, rfl, hi1, hi2, Nat.le_refl _⟩⟩
  rw [dst_st tok_row.1 tok_row.2.1 tok_row.2.2]
  simp [hasTok, rowV, tokOf, hm]

end Go.Ab
/-
  What must come of fixed calls of trace, reckoned.
-/
namespace Go.Ab
set_option maxRecDepth 100000 in
theorem al25_0 : evV prog 4000 (.fn 347 []) [] ⟨[], [], [], 0⟩ = some (.bool true, ⟨[], [], [], 0⟩) := by kernel_rfl
theorem alive25 : callpV (call prog) (.fn 347 []) [] = some (.bool true) := callp_of rfl rfl rfl (call_of al25_0)
end Go.Ab
/-
  Marks go there and back, plain; the law TraceBack.
-/
namespace Go.Ab
set_option maxRecDepth 20000
variable {st s : St} {e : Env} {m : TM}

def okC (c : UInt8) : Prop := c ≠ 32 ∧ c ≠ 9 ∧ c ≠ 59
theorem labC_ok {c : UInt8} (h : labC c = true) : okC c := by
  have := all8 (p := fun c => !labC c || (c != 32 && c != 9 && c != 59)) (by kernel_rfl) c
  rw [h] at this
  simpa [okC, and_assoc] using this
theorem atC_ok {c : UInt8} (h : atC c = true) : okC c := by
  have := all8 (p := fun c => !atC c || (c != 32 && c != 9 && c != 59)) (by kernel_rfl) c
  rw [h] at this
  simpa [okC, and_assoc] using this
def okW (w : Bs) : Prop := w ≠ [] ∧ ∀ c ∈ w, okC c
theorem okW.no {w : Bs} (h : okW w) : noBl w := fun c hc => ⟨(h.2 c hc).1, (h.2 c hc).2.1⟩
theorem person_ok {p : Bs} (h : personB p = true) : okW p ∧ p.length ≤ 318 ∧ (plainA p).2 = 0 ∧ lowOf p = p := by
  simp only [personB, Bool.and_eq_true, decide_eq_true_eq] at h
  obtain ⟨h1, h2, h3⟩ := plain_at0 h.1
  have hf := right_facts h3
  refine ⟨⟨fun q => ?_, fun c hc => ?_⟩, ?_, h.1, h.2⟩
  · rw [q] at h2; simp [atA] at h2
  · rw [← h2] at hc
    simp only [atA, List.mem_append, List.mem_cons] at hc
    rcases hc with hc | rfl | hc
    · rcases hf.lc c hc with h | rfl
      · exact atC_ok h
      · exact ⟨by decide, by decide, by decide⟩
    · exact ⟨by decide, by decide, by decide⟩
    · rcases hf.dc c hc with h | rfl
      · exact labC_ok h
      · exact ⟨by decide, by decide, by decide⟩
  · rw [← h2]
    have := hf.ll; have := hf.dl
    simp [atA]; omega
structure GoodT (m : TM) : Prop where
  ok : okP m.at_ m.sh
  fr : okW m.fr
  by_ : okW m.by_
  id : okW m.id
  fl : m.fr.length ≤ 253
  bl : m.by_.length ≤ 253
  il : m.id.length ≤ 64
  fo : m.for_ = [] ∨ personB m.for_ = true
theorem GoodT.pl (h : GoodT m) : m.for_.length ≤ 318 := by
  rcases h.fo with h | h
  · rw [h]; simp
  · exact (person_ok h).2.1
theorem GoodT.okT (h : GoodT m) : okT m := ⟨by have := h.fl; omega, by have := h.bl; omega, by have := h.il; omega, by have := h.pl; omega⟩
end Go.Ab
/-
  alive of the fields' laws, at the states where it is called.
-/
namespace Go.Ab

end Go.Ab
/-
  The law FieldsNames.
-/
namespace Go.Ab
variable {st s : St} {e : Env}

def strsT (P : Program) (t : TypeId) (n : Nat) : Bool := match fieldsT P t with
  | some fs => fs.toList.map (fun f => isStrT P f.type) == List.replicate n true
  | none => false
theorem HasTy.fld {P : Program} {t : TypeId} {q : PV} (h : HasTy P t q) (hs0 : strsT P t 2 = true) : ∃ f : Fld, q = fV f ∧ f.1.length ≤ maxLen ∧ f.2.length ≤ maxLen := by
  unfold strsT fieldsT at hs0
  obtain ⟨fs, ht⟩ : ∃ fs, P.underlying t = some (.struct fs) := by
    cases ht : P.underlying t with
    | none => simp [ht] at hs0
    | some d => cases d <;> first | exact ⟨_, rfl⟩ | (simp [ht] at hs0; done)
  simp only [ht, beq_iff_eq] at hs0
  obtain ⟨fl⟩ := fs
  have hlen : fl.length = 2 := by simpa using congrArg List.length hs0
  match fl, hlen, hs0 with
  | [f0, f1], _, hs0 =>
    simp only [List.map_cons, List.map_nil, List.replicate_succ, List.replicate_zero, List.cons.injEq, and_true] at hs0
    have hs := And.intro (isStrT_eq hs0.1) (isStrT_eq hs0.2)
    cases h with
    | agg xs ht' hl hx =>
      rw [ht] at ht'; cases ht'
      match xs, hl with
      | [x0, x1], _ =>
        obtain ⟨a, rfl, ha⟩ := HasTy.str' (hx 0 f0 x0 rfl rfl) hs.1
        obtain ⟨b, rfl, hb⟩ := HasTy.str' (hx 1 f1 x1 rfl rfl) hs.2
        exact ⟨(a, b), rfl, ha, hb⟩
    | bool _ ht' => rw [ht] at ht'; cases ht'
    | int _ ht' => rw [ht] at ht'; cases ht'
    | u8 _ ht' => rw [ht] at ht'; cases ht'
    | str _ ht' => rw [ht] at ht'; cases ht'
    | nils ht' => rw [ht] at ht'; cases ht'
    | bys _ ht' => rw [ht] at ht'; cases ht'
    | sl _ ht' => rw [ht] at ht'; cases ht'

end Go.Ab
/-
  Where a line is folded; its pieces.
-/
namespace Go.Ab
variable {st s : St} {e : Env}

def plc (l : List UInt8) (f : Nat) : Nat → Int
  | 0 => -1
  | i + 1 => if f ≤ i ∧ l.getD i 0 = 32 ∧ (i ≤ 76 ∨ plc l f i < 0) then (i : Int) else plc l f i
def lastB (l : List UInt8) (c : UInt8) : Nat → Int
  | 0 => -1
  | i + 1 => if l.getD i 0 = c then (i : Int) else lastB l c i

theorem plc_succ {l : List UInt8} {f i : Nat} : plc l f (i + 1) = if f ≤ i ∧ l.getD i 0 = 32 ∧ (i ≤ 76 ∨ plc l f i < 0) then (i : Int) else plc l f i := rfl

theorem plc_le {l : List UInt8} {f : Nat} : ∀ k, plc l f k < k ∧ -1 ≤ plc l f k ∧ (0 ≤ plc l f k → f ≤ plc l f k) := by
  intro k
  induction k with
  | zero => simp [plc]
  | succ k ih =>
    simp only [plc]
    split
    · omega
    · omega
theorem lastB_le {l : List UInt8} {c : UInt8} : ∀ k, lastB l c k < k ∧ -1 ≤ lastB l c k := by
  intro k
  induction k with
  | zero => simp [lastB]
  | succ k ih =>
    simp only [lastB]
    split
    · omega
    · omega

theorem lastIdx_walk {l : List UInt8} {c : UInt8} (hl : l.length ≤ 1000000) : call prog (.fn 172 []) [.str l, .b8 c] st = some (.int .i64 (lastB l c l.length), st) := by
  refine call_of_W prog_172 ?_
  unfold F_internal_bytealg_LastIndexByteString; dsimp only
  have hsub : ∀ n : Nat, n ≤ 1000000 → binPV .sub .no (.int .i64 (n : Int)) (.int .i64 1) = some (.int .i64 ((n : Int) - 1)) := fun n h => by
    simp only [binPV, binI, reduceIte, Option.some.injEq]
    rw [wrap64 (by omega) (by omega)]
  simp (maxSteps := 1000000) (disch := omega) only [len_s, hsub, qaaz, qabz, qadz, qajz, qalz, evOp, qaoz, qapz, qarz, qatz, qavz,
 ↓reduceIte, List.append_nil, qawz, Option.map_some, qazz, reduceCtorEq]
  obtain ⟨I, hI⟩ : ∃ I : Nat → Env → St → Prop, I = fun k e s' => ∃ (i : Nat), i = k ∧ i ≤ l.length ∧ Kept st s' ∧ lastB l c i = lastB l c l.length ∧ e 0 = .str l ∧ e 1 = .b8 c ∧ e 5 = .int .i64 ((i : Int) - 1) := ⟨_, rfl⟩
  refine W_loop I ?_ (n := l.length) (by
    rw [hI]
    exact ⟨l.length, rfl, Nat.le_refl _, Kept.start, rfl, rfl, rfl, rfl⟩)
  intro k e s' hh
  rw [hI] at hh
  obtain ⟨i, rfl, hi, hk, ht, h0, h1, h5⟩ := hh
  cases i with
  | zero =>
    have e1 : ¬ (0 : Int) ≤ ((0 : Nat) : Int) - 1 := by omega
    simp (maxSteps := 1000000) (disch := omega) only [h5, e1, qaaz, qabz, qacz, qagz, qaiz, qajz, qalz, evOp, qaoz, qapz, qarz, qatz, qavz,
 ↓reduceIte, Option.map_some, qazz, qbbz, qbfz, qbhz, qbjz, qblz, qbsz, decide_false,
 Bool.false_eq_true]
    exact ⟨.int .i64 (lastB l c l.length), by rw [← ht]; rfl, hk.leave rfl (fun _ _ => rfl)⟩
  | succ i =>
    have hsh : ((i + 1 : Nat) : Int) - 1 = (i : Int) := by omega
    rw [hsh] at h5
    have e1 : (0 : Int) ≤ (i : Int) := by omega
    obtain ⟨d, hd⟩ : ∃ d, d = l.getD i 0 := ⟨_, rfl⟩
    have hlt : i < l.length := by omega
    by_cases q : d = c
    · simp (maxSteps := 1000000) (disch := omega) only [h0, h1, h5, e1, idx_s, ← hd, eq_true q, qaaz, qabz, qacz, qadz, qaez, qaiz, qajz, qalz, evOp, qaoz, qapz, qarz, qatz, qavz,
 ↓reduceIte, Nat.reduceEqDiff, Option.map_some, qazz, qbaz, qbez, qbhz, qbiz, qblz, qbsz, qbvz, decide_true, Int.toNat_natCast, reduceCtorEq]
      refine ⟨.int .i64 (i : Int), rfl, ?_⟩
      rw [← ht]; simp only [lastB]; rw [if_pos (by rw [← hd]; exact q)]
      exact hk.leave rfl (fun _ _ => rfl)
    · simp (maxSteps := 1000000) (disch := omega) only [h0, h1, h5, e1, idx_s, ← hd, q, hsub i (by omega), qaaz, qabz, qacz, qadz, qaez, qajz, qalz, evOp, qaoz, qapz, qarz, qatz, qavz,
 ↓reduceIte, Nat.reduceEqDiff, Option.map_some, qazz, qbdz, qbhz, qbsz, qbvz, decide_true, decide_false,
 Int.toNat_natCast, Bool.false_eq_true, reduceCtorEq]
      refine loopQ_intro (m := i) (by omega) ?_
      rw [hI]
      refine ⟨i, rfl, by omega, hk, ?_, h0, h1, rfl⟩
      rw [← ht]; simp only [lastB]; rw [if_neg (by rw [← hd]; exact q)]

theorem lastIndex_spec {l : List UInt8} {c : UInt8} (hl : l.length ≤ 1000000) : call prog (.fn 169 []) [.str l, .b8 c] st = some (.int .i64 (lastB l c l.length), st) := by
  refine call_of_W prog_169 ?_
  unfold F_strings_LastIndexByte; dsimp only
  simp (maxSteps := 1000000) (disch := omega) only [lastIdx_walk hl, qaaz, qabz, qaiz, qajz, qalz, evOp, qaoz, qapz, qaqz, qarz, qatz, qavz,
 ↓reduceIte, Nat.reduceEqDiff, List.append_nil, List.map_cons, List.map_nil, qawz, qaxz, qazz, qblz, reduceCtorEq]
  exact end1 rfl Kp_int

theorem plc_low {l : List UInt8} {f : Nat} : ∀ k, k ≤ 77 → plc l f k = if (f : Int) ≤ lastB l 32 k then lastB l 32 k else -1 := by
  intro k
  induction k with
  | zero =>
    intro _
    have hb := lastB_le (l := l) (c := 32) 0
    have h : ¬ ((f : Int) ≤ lastB l 32 0) := by omega
    rw [if_neg h]; rfl
  | succ k ih =>
    intro h
    have i1 := ih (by omega)
    have b1 := lastB_le (l := l) (c := 32) k
    simp only [plc, lastB]
    by_cases q : l.getD k 0 = 32
    · simp only [q, true_and, if_true]
      by_cases qf : f ≤ k
      · rw [if_pos ⟨qf, .inl (by omega)⟩, if_pos (by omega)]
      · rw [if_neg (by omega), if_neg (by omega), i1, if_neg (by omega)]
    · simp only [q, false_and, and_false, if_false]; exact i1
theorem plc_stay {l : List UInt8} {f : Nat} (h : 0 ≤ plc l f 77) : ∀ k, plc l f (77 + k) = plc l f 77 := by
  intro k
  induction k with
  | zero => rfl
  | succ k ih =>
    show plc l f ((77 + k) + 1) = _
    rw [plc_succ, if_neg (by rw [ih]; omega), ih]
theorem plc_high {l : List UInt8} {f : Nat} : ∀ (n k : Nat), 77 ≤ k → f ≤ k → k + n = l.length → plc l f k = -1 → plc l f l.length = if Lib.indexByte (l.drop k) 32 < 0 then -1 else (k : Int) + Lib.indexByte (l.drop k) 32 := by
  intro n
  induction n with
  | zero =>
    intro k h1 h2 h3 h4
    have hz : Lib.indexByte (l.drop k) 32 = -1 := by rw [List.drop_of_length_le (by omega)]; rfl
    rw [hz, if_pos (by omega), ← h4]; congr 1; omega
  | succ n ih =>
    intro k h1 h2 h3 h4
    rw [drop_getD (by omega)]
    have hs := plc_succ (l := l) (f := f) (i := k)
    obtain ⟨c, hc⟩ : ∃ c, c = l.getD k 0 := ⟨_, rfl⟩
    rw [← hc] at hs ⊢
    by_cases q : c = 32
    · have hk : plc l f (k + 1) = k := by rw [hs, if_pos ⟨h2, q, .inr (by omega)⟩]
      have hst : ∀ m, plc l f (k + 1 + m) = k := by
        intro m
        induction m with
        | zero => exact hk
        | succ m ihm =>
          show plc l f ((k + 1 + m) + 1) = _
          rw [plc_succ, if_neg (by rw [ihm]; omega), ihm]
      have := hst n
      rw [show k + 1 + n = l.length by omega] at this
      have hi : Lib.indexByte (c :: l.drop (k + 1)) 32 = 0 := by simp [Lib.indexByte, q]
      rw [this, hi, if_neg (by omega)]; omega
    · have hk : plc l f (k + 1) = -1 := by rw [hs, if_neg (by simp [q]), h4]
      rw [ih (k + 1) (by omega) (by omega) (by omega) hk]
      have hge : ∀ (m : List UInt8), -1 ≤ Lib.indexByte m 32 := by
        intro m
        induction m with
        | nil => simp [Lib.indexByte]
        | cons a r ihr =>
          simp only [Lib.indexByte]
          split
          · omega
          · split
            · omega
            · omega
      have hge := hge (l.drop (k + 1))
      have hi : Lib.indexByte (c :: l.drop (k + 1)) 32 = if Lib.indexByte (l.drop (k + 1)) 32 = -1 then -1 else Lib.indexByte (l.drop (k + 1)) 32 + 1 := by simp [Lib.indexByte, q]
      rw [hi]
      by_cases hj : Lib.indexByte (l.drop (k + 1)) 32 = -1
      · rw [if_pos hj, hj]; simp
      · rw [if_neg hj, if_neg (by omega), if_neg (by omega)]
        push_cast; omega
theorem lastB_take {l : List UInt8} {c : UInt8} {n : Nat} : ∀ k, k ≤ n → lastB (l.take n) c k = lastB l c k := by
  intro k
  induction k with
  | zero => intro _; rfl
  | succ k ih =>
    intro h
    simp only [lastB]
    rw [ih (by omega)]
    have : (l.take n).getD k 0 = l.getD k 0 := by simp [List.getD, show k < n by omega]
    rw [this]

def foldF : Nat → List UInt8 → Nat → List (List UInt8)
  | 0, l, _ => [l]
  | n + 1, l, f => if 76 < l.length then (if plc l f l.length < 0 then [l] else l.take (plc l f l.length).toNat :: foldF n (l.drop (plc l f l.length).toNat) 1) else [l]
end Go.Ab
/-
  A line is folded.
-/
namespace Go.Ab
variable {st s : St} {e : Env}

theorem idxB_ge : ∀ (m : List UInt8), -1 ≤ Lib.indexByte m 32 := by
  intro m
  induction m with
  | nil => simp [Lib.indexByte]
  | cons a r ihr =>
    simp only [Lib.indexByte]
    split
    · omega
    · split
      · omega
      · omega

theorem fold_spec {l : List UInt8} {f n : Nat} (hl : l.length ≤ 1000000) (hf : 1 ≤ f) (hf2 : f ≤ 77) (hn : l.length ≤ n) :
    call prog (.fn 159 []) [.str l, .int .i64 (f : Int)] st = some (newSl st 1 ((foldF n l f).map .str), st.tok1) := by
  refine call_of_W prog_159 ?_
  unfold F_fields_fold; dsimp only
  obtain ⟨T, hT⟩ : ∃ T, T = foldF n l f := ⟨_, rfl⟩
  rw [← hT]
  obtain ⟨J, hJ⟩ : ∃ J : Env → St → Prop, J = fun E S => ∃ (m : List UInt8) (v : PV) (acc : List (List UInt8)), Grew st S ∧ Own st S 1 v (acc.map .str) ∧ acc.length + m.length ≤ l.length ∧ T = acc ++ [m] ∧ E 0 = .str m ∧ E 5 = v := ⟨_, rfl⟩
  refine W_cut (fun E S => Grew st S ∧ E 0 = .str l ∧ E 1 = .int .i64 (f : Int)) ?_ ?_
  · simp (maxSteps := 1000000) (disch := omega) only [qabz, qajz, qalz, evOp, qapz, qarz, qatz, qavz,
 ↓reduceIte, Nat.reduceEqDiff, List.append_nil, qawz, qaxz, true_and, and_true, reduceCtorEq]
    exact Grew.start
  rintro e S ⟨hg, h0, h1⟩
  refine W_cut (fun E S => Grew st S ∧ E 0 = .str l ∧ E 1 = .int .i64 (f : Int) ∧ E 5 = .nils) ?_ ?_
  · simp (maxSteps := 1000000) (disch := omega) only [h0, h1, qabz, qajz, qalz, evOp, qapz, qarz, qatz, qavz,
 ↓reduceIte, Nat.reduceEqDiff, true_and, and_true, reduceCtorEq]
    exact hg
  clear hg h0 h1
  rintro e S ⟨hg, h0, h1, h5⟩
  refine W_cut J ?_ ?_
  · rw [qadz]
    obtain ⟨I, hI⟩ : ∃ I : Nat → Env → St → Prop, I = fun k e s' => ∃ (m : List UInt8) (f' n' : Nat) (v : PV) (acc : List (List UInt8)), m.length = k ∧ m.length ≤ n' ∧ 1 ≤ f' ∧ f' ≤ 77 ∧ Grew st s' ∧ Own st s' 1 v (acc.map .str) ∧ acc.length + m.length ≤ l.length ∧ T = acc ++ foldF n' m f' ∧ e 0 = .str m ∧ e 1 = .int .i64 (f' : Int) ∧ e 5 = v := ⟨_, rfl⟩
    refine W_loop I ?_ (n := l.length) (by
      rw [hI]
      exact ⟨l, f, n, .nils, [], rfl, hn, hf, hf2, hg, .inl ⟨rfl, rfl⟩, by simp, by rw [hT]; rfl, h0, h1, h5⟩)
    clear hg h0 h1 h5
    intro k e s' hh
    rw [hI] at hh
    obtain ⟨m, f', n', v, acc, rfl, hmn, hf1, hf3, hg, ho, hal, hTT, h0, h1, h5⟩ := hh
    by_cases hlt : 76 < m.length
    · have e1 : (76 : Int) < (m.length : Int) := by omega
      obtain ⟨n'', rfl⟩ : ∃ n'', n' = n'' + 1 := ⟨n' - 1, by omega⟩
      simp only [foldF, hlt, if_true] at hTT
      have htk : (m.take 77).length = 77 := by simp; omega
      have hlb := lastB_take (l := m) (c := 32) (n := 77) 77 (Nat.le_refl _)
      have hcall : ∀ S : St, call prog (.fn 169 []) [.str (m.take 77), .b8 32] S = some (.int .i64 (lastB m 32 77), S) := fun S => by
        rw [lastIndex_spec (by omega), htk, hlb]
      have hlow := plc_low (l := m) (f := f') 77 (Nat.le_refl _)
      have hple := plc_le (l := m) (f := f') m.length
      have hmx : mnmxPV true [.int .i64 (f' : Int), .int .i64 77] = some (.int .i64 77) := by
        simp [mnmxPV]; omega
      -- a piece
      have piece : ∀ pn : Nat, plc m f' m.length = (pn : Int) → f' ≤ pn ∧ pn < m.length ∧ ∃ s2 v2, appV 1 s'.tok1 v (.sl 1 (.own s'.toks.length) [.str (m.take pn)]) = some (v2, s2) ∧ ∀ E : Env, E 0 = .str (m.drop pn) → E 1 = .int .i64 1 → E 5 = v2 → I (m.length - pn) E s2 := by
        intro pn hp
        rw [hp] at hple hTT
        refine ⟨by have := hple.2.2 (by omega); omega, by omega, ?_⟩
        have happ := appV_own (u := .str (m.take pn)) (t := .own s'.toks.length) ho.tok1 (by simp only [List.length_map, room]; omega)
        obtain ⟨g2, o2⟩ := Own.app (ys := acc.map PV.str ++ [.str (m.take pn)]) hg.tok1 ho.tok1
        refine ⟨_, _, happ, fun E k0 k1 k5 => ?_⟩
        rw [hI]
        have hf' : f' ≤ pn := by have := hple.2.2 (by omega); omega
        refine ⟨m.drop pn, 1, n'', _, acc ++ [m.take pn], by simp, by simp; omega, by omega, by omega, g2, by rw [List.map_append]; exact o2, by simp; omega, ?_, k0, k1, k5⟩
        rw [hTT, if_neg (by omega), Int.toNat_natCast]; simp
      by_cases ha : (f' : Int) ≤ lastB m 32 77
      · -- ahead of the 77th
        rw [if_pos ha] at hlow
        have hst := plc_stay (l := m) (f := f') (by rw [hlow]; omega) (m.length - 77)
        rw [show 77 + (m.length - 77) = m.length by omega, hlow] at hst
        obtain ⟨pn, hpn⟩ : ∃ pn : Nat, lastB m 32 77 = (pn : Int) := ⟨(lastB m 32 77).toNat, by omega⟩
        rw [hpn] at hst hcall ha
        obtain ⟨p1, p2, s2, v2, a1, hnext⟩ := piece pn hst
        have e2 : ¬ (pn : Int) < (f' : Int) := by omega
        simp (maxSteps := 1000000) (disch := omega) only [h0, h1, h5, len_s, e1, slc_s_hi, slc_s_lo, hcall, e2, lits1, freshT_eq, a1, qaaz, qabz, qacz, qadz, qaez, qajz, qalz, evOp, qaoz, qapz, qaqz, qarz, qatz, qavz,
 ↓reduceIte, Nat.reduceEqDiff, List.map_cons, List.map_nil, Option.map_some, Option.map_none, qazz, qbdz, qbhz, qbpz, qbrz, decide_true, decide_false,
 Int.toNat_natCast, Bool.false_eq_true, Int.reduceToNat, reduceCtorEq]
        exact loopQ_intro (m := m.length - pn) (by omega) (hnext _ rfl rfl rfl)
      · rw [if_neg ha] at hlow
        have e2 : lastB m 32 77 < (f' : Int) := by omega
        have hhi := plc_high (l := m) (f := f') (m.length - 77) 77 (Nat.le_refl _) hf3 (by omega) hlow
        have hjg := idxB_ge (m.drop 77)
        by_cases hj : Lib.indexByte (m.drop 77) 32 < 0
        · -- no blank
          rw [if_pos hj] at hhi
          rw [hhi, if_pos (by omega)] at hTT
          have hj' : Lib.indexByte (m.drop 77) 32 = -1 := by omega
          have hadd : ∀ ek, binPV .add ek (.int .i64 (-1)) (.int .i64 77) = some (.int .i64 76) := fun ek => by
            rw [add_i (by omega) (by omega)]; rfl
          simp (maxSteps := 1000000) (disch := omega) only [h0, h1, h5, len_s, e1, slc_s_hi, slc_s_lo, hcall, e2, hmx, strIndexByte_spec, hj', hadd, hJ, qaaz, qabz, qacz, qadz, qaez, qagz, qajz, qalz, evOp, qaoz, qapz, qaqz, qarz, qatz, qavz,
 ↓reduceIte, Nat.reduceEqDiff, List.map_cons, List.map_nil, Option.map_some, Option.map_none, qazz, qbbz, qbfz, qbhz, qbjz, qbpz, qbrz, decide_true, Int.reduceToNat, true_and, reduceCtorEq, Int.reduceLT]
          exact ⟨m, v, acc, hg, ho, hal, hTT, rfl, rfl⟩
        · rw [if_neg hj] at hhi
          obtain ⟨pn, hpn⟩ : ∃ pn : Nat, ((77 : Nat) : Int) + Lib.indexByte (m.drop 77) 32 = (pn : Int) := ⟨(((77 : Nat) : Int) + Lib.indexByte (m.drop 77) 32).toNat, by omega⟩
          rw [hpn] at hhi
          obtain ⟨p1, p2, s2, v2, a1, hnext⟩ := piece pn hhi
          have hadd : ∀ ek, binPV .add ek (.int .i64 (Lib.indexByte (m.drop 77) 32)) (.int .i64 77) = some (.int .i64 (pn : Int)) := fun ek => by
            rw [add_i (by omega) (by omega)]; congr 2; omega
          have e3 : ¬ (pn : Int) < 77 := by omega
          simp (maxSteps := 1000000) (disch := omega) only [h0, h1, h5, len_s, e1, slc_s_hi, slc_s_lo, hcall, e2, hmx, strIndexByte_spec, hadd, e3, lits1, freshT_eq, a1, qaaz, qabz, qacz, qadz, qaez, qajz, qalz, evOp, qaoz, qapz, qaqz, qarz, qatz, qavz,
 ↓reduceIte, Nat.reduceEqDiff, List.map_cons, List.map_nil, Option.map_some, Option.map_none, qazz, qbdz, qbhz, qbpz, qbrz, decide_true, decide_false,
 Int.toNat_natCast, Bool.false_eq_true, Int.reduceToNat, reduceCtorEq]
          exact loopQ_intro (m := m.length - pn) (by omega) (hnext _ rfl rfl rfl)
    · have e1 : ¬ (76 : Int) < (m.length : Int) := by omega
      have hTf : T = acc ++ [m] := by
        rw [hTT]
        cases n' with
        | zero => rfl
        | succ n'' => simp only [foldF, hlt, if_false]
      simp (maxSteps := 1000000) (disch := omega) only [h0, h5, len_s, e1, hJ, qaaz, qabz, qacz, qagz, qajz, qalz, evOp, qaoz, qapz, qarz, qatz, qavz,
 ↓reduceIte, Nat.reduceEqDiff, Option.map_some, qazz, qbbz, qbfz, qbhz, qbjz, qbrz, decide_false,
 Bool.false_eq_true, true_and, reduceCtorEq]
      exact ⟨m, v, acc, hg, ho, hal, hTf, rfl, rfl⟩
  clear hg h0 h1 h5
  intro e S hj
  rw [hJ] at hj
  obtain ⟨m, v, acc, hg, ho, hal, hTT, h0, h5⟩ := hj
  have happ := appV_own (u := .str m) (t := .own S.toks.length) ho.tok1 (by simp only [List.length_map, room]; omega)
  obtain ⟨g2, o2⟩ := Own.app (ys := acc.map PV.str ++ [.str m]) hg.tok1 ho.tok1
  simp (maxSteps := 1000000) (disch := omega) only [h0, h5, lits1, freshT_eq, happ, qaaz, qabz, qaiz, qajz, qalz, evOp, qaoz, qarz, qatz, qavz,
 ↓reduceIte, Nat.reduceEqDiff, List.map_cons, List.map_nil, qazz, qblz, Bool.false_eq_true, reduceCtorEq]
  refine ⟨_, rfl, ?_⟩
  have := leave_own g2 o2 (fun h => by simp at h)
  simp only [qavz, packRes]
  simp
  rw [this, hTT]
  simp [newS]
end Go.Ab
/-
  A header is written.
-/
namespace Go.Ab
variable {st s : St} {e : Env}

def lineOf (f : Fld) : List UInt8 := f.1 ++ [58] ++ (if f.2 = [] then [] else 32 :: f.2)
def piecesOf (f : Fld) : List (List UInt8) := foldF (lineOf f).length (lineOf f) (f.1.length + 3)
def crl2 (x : List UInt8) : List UInt8 := x ++ [13, 10]
def fieldBytes (f : Fld) : List UInt8 := (piecesOf f).flatMap crl2
def okFd (f : Fld) : Bool := nameB f.1 && valB f.2
def longX (x : List UInt8) : Bool := decide (998 < x.length)
def longF (f : Fld) : Bool := (piecesOf f).any longX
def writeOf (fs : List Fld) : Int × List UInt8 :=
  if 128 < fs.length then (2, []) else if fs.all okFd then (if fs.any longF then (40, []) else (0, fs.flatMap fieldBytes ++ [13, 10])) else (50, [])
def outV (st : St) (r : Int × List UInt8) : PV × St := if r.1 = 0 then (.tup [.bys (.own st.toks.length) r.2, .int .i64 0], st.tok1) else (.tup [.nils, .int .i64 r.1], st)

theorem foldF_flat : ∀ (n : Nat) (l : List UInt8) (f : Nat), (foldF n l f).flatten = l := by
  intro n
  induction n with
  | zero => intro l f; simp [foldF]
  | succ n ih =>
    intro l f
    simp only [foldF]
    split
    · split
      · simp
      · rw [List.flatten_cons, ih, List.take_append_drop]
    · simp
theorem foldF_num : ∀ (n : Nat) (l : List UInt8) (f : Nat), (foldF n l f).length ≤ n + 1 := by
  intro n
  induction n with
  | zero => intro l f; simp [foldF]
  | succ n ih =>
    intro l f
    simp only [foldF]
    split
    · split
      · simp
      · have := ih (l.drop (plc l f l.length).toNat) 1
        simp; omega
    · simp
theorem crl2_len : ∀ (xs : List (List UInt8)), (xs.flatMap crl2).length = xs.flatten.length + 2 * xs.length := by
  intro xs
  induction xs with
  | nil => rfl
  | cons x r ih => simp only [List.flatMap_cons, List.flatten_cons, List.length_append, List.length_cons, crl2, ih]; simp; omega
theorem lineOf_len {f : Fld} : (lineOf f).length ≤ f.1.length + f.2.length + 2 := by
  unfold lineOf
  split
  · simp; omega
  · simp; omega
theorem fieldBytes_len {f : Fld} (h : f.1.length ≤ 200) (h2 : f.2.length ≤ 5000) : (fieldBytes f).length ≤ 30000 := by
  unfold fieldBytes piecesOf
  rw [crl2_len, foldF_flat]
  have h3 := foldF_num (lineOf f).length (lineOf f) (f.1.length + 3)
  have h4 := lineOf_len (f := f)
  omega
theorem bytes_len : ∀ {fs : List Fld}, (∀ f ∈ fs, okF f) → (fs.flatMap fieldBytes).length ≤ fs.length * 30000 := by
  intro fs
  induction fs with
  | nil => intro _; simp
  | cons f r ih =>
    intro h
    have h1 := fieldBytes_len (h f (by simp)).1 (h f (by simp)).2
    have h2 := ih (fun g hg => h g (by simp [hg]))
    simp only [List.flatMap_cons, List.length_append, List.length_cons]
    omega
theorem flatMap_take_le {α : Type} {g : α → List UInt8} : ∀ (xs : List α) (k : Nat), ((xs.take k).flatMap g).length ≤ (xs.flatMap g).length := by
  intro xs
  induction xs with
  | nil => intro k; simp
  | cons x r ih =>
    intro k
    cases k with
    | zero => simp
    | succ k => have := ih k; simp only [List.take_succ_cons, List.flatMap_cons, List.length_append]; omega

theorem leave_mine {v : PV} {l : List UInt8} {n : Int} (hk : Kept st s) (hm : Mine st s v l) (hne : l ≠ []) : leave st s (.tup [v, .int .i64 n]) = (.tup [.bys (.own st.toks.length) l, .int .i64 n], st.tok1) := by
  have e1 := hk.bx; have e2 := hk.lp; have e3 := hk.tk
  rcases hm.1 with ⟨rfl, rfl⟩ | ⟨i, rfl, hi⟩
  · exact absurd rfl hne
  · have h2 := hm.2 i rfl
    simp [leave, PV.inB, PV.inB.inBAll, hk.lw, keepRes, keepVals, keepVal, keepLeaf, keepTok, hi, show ¬ i < st.toks.length by omega, e1, e2, e3, St.tok1]

theorem all_take {fs : List Fld} (h : ∀ j, j < fs.length → okFd (fs.getD j ([], [])) = true) : fs.all okFd = true := by
  rw [List.all_eq_true]
  intro f hf
  obtain ⟨i, hi, rfl⟩ := List.mem_iff_getElem.1 hf
  have := h i hi
  simpa [List.getD, hi] using this
theorem Mine.alloc {v : PV} {l : List UInt8} {B : List (List PV)} {L : List LoopS} {lo : Nat} (h : Mine st s v l) : Mine st ⟨B, s.toks, L, lo⟩ v l := ⟨h.1.move fun _ _ => rfl, h.2⟩
theorem iaddr_s {x : PV} {xs : List (List UInt8)} {k : IntKind} {c : Int} (h : x.vs 1 = some (xs.map .str)) (h1 : 0 ≤ c) (h2 : c.toNat < xs.length) : iaddrPV 1 x (.int k c) = some (.cp [.str (xs.getD c.toNat [])]) := by
  rw [iaddr_vs h h1 (by simpa using h2)]
  simp [List.getD, h2, PV.cells]

set_option maxHeartbeats 1000000 in
theorem Write_spec {x : PV} {fs : List Fld} (hx : x.vs 2 = some (fs.map fV)) (hf : ∀ f ∈ fs, okF f) (hl : fs.length ≤ 1000000) : call prog (.fn 145 []) [x] st = some (outV st (writeOf fs)) := by
  refine call_of_W prog_145 ?_
  unfold F_fields_Write; dsimp only
  have hlen := len_vs hx
  rw [List.length_map] at hlen
  have okLen : ∀ f : Fld, okFd f = true → f.1.length ≤ 64 ∧ f.2.length ≤ 4096 := fun f h => by
    simp only [okFd, nameB, valB, Bool.and_eq_true, decide_eq_true_eq] at h; omega
  by_cases h128 : 128 < fs.length
  · have e1 : (128 : Int) < (fs.length : Int) := by omega
    have hw : writeOf fs = (2, []) := by simp [writeOf, h128]
    simp (maxSteps := 1000000) (disch := omega) only [hlen, e1, qaaz, qabz, qacz, qaiz, qajz, qalz, evOp, qaoz, qapz, qarz, qatz, qavz,
 ↓reduceIte, List.append_nil, qawz, Option.map_some, qazz, qbaz, qbhz, qblz, qbrz, decide_true, reduceCtorEq]
    rw [hw]
    exact ⟨.tup [.nils, .int .i64 2], rfl, Kept.start.leave rfl (fun _ _ => rfl)⟩
  have e128 : ¬ (128 : Int) < (fs.length : Int) := by omega
  refine W_cut (fun E S => Kept st S ∧ E 0 = x) ?_ ?_
  · simp (maxSteps := 1000000) (disch := omega) only [qabz, qajz, qalz, evOp, qapz, qarz, qatz, qavz,
 ↓reduceIte, List.append_nil, qawz, true_and, and_true, reduceCtorEq]
    exact Kept.start
  rintro e S ⟨hk, h0⟩
  refine W_cut (fun E S => Kept st S ∧ E 0 = x) ?_ ?_
  · simp (maxSteps := 1000000) (disch := omega) only [h0, hlen, e128, qaaz, qabz, qacz, qaez, qajz, qalz, evOp, qaoz, qapz, qarz, qatz, qavz,
 ↓reduceIte, Option.map_some, qazz, qbhz, qbrz, decide_false,
 Bool.false_eq_true, true_and, and_true, reduceCtorEq]
    exact hk
  clear hk h0
  rintro e S ⟨hk, h0⟩
  obtain ⟨I, hI⟩ : ∃ I : Nat → Env → St → Prop, I = fun k e s' => ∃ (i : Nat), k = fs.length - i ∧ i ≤ fs.length ∧ Kept st s' ∧ (∀ j, j < i → okFd (fs.getD j ([], [])) = true) ∧ e 0 = x ∧ e 15 = x ∧ e 16 = .int .i64 (fs.length : Int) ∧ e 17 = .int .i64 (i : Int) := ⟨_, rfl⟩
  cases hall : fs.all okFd with
  | false =>
    have hw : writeOf fs = (50, []) := by simp [writeOf, h128, hall]
    rw [hw]
    simp (maxSteps := 1000000) (disch := omega) only [h0, hlen, qaaz, qabz, qadz, qajz, qalz, evOp, qaoz, qapz, qarz, qatz, qavz,
 ↓reduceIte, Option.map_some, qazz]
    refine W_loop I ?_ (n := fs.length) (by
      rw [hI]
      exact ⟨0, rfl, by omega, hk, fun j h => by omega, h0, rfl, rfl, rfl⟩)
    clear hk h0
    intro k e s' hh
    rw [hI] at hh
    obtain ⟨i, rfl, hi, hk, hok, h0, h15, h16, h17⟩ := hh
    by_cases hlt : i < fs.length
    · obtain ⟨f, hfe⟩ : ∃ f, f = fs.getD i ([], []) := ⟨_, rfl⟩
      have hfo := hf f (by rw [hfe]; simp [List.getD, hlt])
      have fin : ∀ (E : Env) (S : St), Kept st S → E 2 = .nils → E 3 = .int .i64 50 → ∃ rv, resOf E S [.tmp 2, .tmp 3] = some rv ∧ leave st S rv = outV st (50, []) := fun E S k1 k2 k3 =>
        ⟨.tup [.nils, .int .i64 50], by simp [resOf, rvAll, rv1, k2, k3, notTup, packRes], k1.leave rfl (fun _ _ => rfl)⟩
      have hnm : ∀ S : St, call prog (.fn 157 []) [.str f.1] S = some (.bool (nameB f.1), S) := fun S => isName_spec
      have hvl : ∀ S : St, call prog (.fn 158 []) [.str f.2] S = some (.bool (valB f.2), S) := fun S => isValue_spec (by have := hfo.2; omega)
      cases q1 : nameB f.1 with
      | false =>
        rw [q1] at hnm
        simp (maxSteps := 1000000) (disch := omega) only [h15, h16, h17, hlt, iaddr_f hx, ← hfe, load_f2, allocPV, store_f, faddrPV, Nat.add_zero, load_b0, hnm, qaaz, qabz, qacz, qadz, qaez, qaiz, qajz, qakz, qalz, qamz, qanz, evOp, qaoz, qapz, qaqz, qarz, qatz, qauz, qavz,
 ↓reduceIte, Nat.reduceEqDiff, List.map_cons, List.map_nil, Option.map_some, qazz, qbaz, qbez, qbhz, qbiz, qblz, qbpz, qcfz, beq_false, decide_true, Int.toNat_natCast, Int.ofNat_lt, Bool.false_eq_true, Bool.not_true, Bool.not_false]
        exact fin _ _ hk.alloc' rfl rfl
      | true =>
        rw [q1] at hnm
        cases q2 : valB f.2 with
        | false =>
          rw [q2] at hvl
          simp (maxSteps := 1000000) (disch := omega) only [h15, h16, h17, hlt, iaddr_f hx, ← hfe, load_f2, allocPV, store_f, faddrPV, Nat.add_zero, Nat.zero_add, load_b0, load_b1, hnm, hvl, qaaz, qabz, qacz, qadz, qaez, qaiz, qajz, qakz, qalz, qamz, qanz, evOp, qaoz, qapz, qaqz, qarz, qatz, qauz, qavz,
 ↓reduceIte, Nat.reduceEqDiff, List.map_cons, List.map_nil, Option.map_some, qazz, qbaz, qbez, qbhz, qbiz, qblz, qbpz, qcfz, beq_false, decide_true, Int.toNat_natCast, Int.ofNat_lt, Bool.false_eq_true, Bool.not_true, Bool.not_false]
          exact fin _ _ hk.alloc' rfl rfl
        | true =>
          rw [q2] at hvl
          simp (maxSteps := 1000000) (disch := omega) only [h15, h16, h17, hlt, iaddr_f hx, ← hfe, load_f2, allocPV, store_f, faddrPV, Nat.add_zero, Nat.zero_add, load_b0, load_b1, hnm, hvl, add_n, qaaz, qabz, qacz, qadz, qaez, qajz, qakz, qalz, qamz, qanz, evOp, qaoz, qapz, qaqz, qarz, qatz, qauz, qavz,
 ↓reduceIte, Nat.reduceEqDiff, List.map_cons, List.map_nil, Option.map_some, qazz, qbdz, qbhz, qbpz, qcfz, beq_false, decide_true, Int.toNat_natCast, Int.ofNat_lt, Bool.false_eq_true, Int.reduceToNat, Bool.not_true, Bool.not_false]
          refine loopQ_intro (m := fs.length - (i + 1)) (by omega) ?_
          rw [hI]
          refine ⟨i + 1, rfl, by omega, hk.alloc', fun j hj => ?_, h0, h15, h16, rfl⟩
          by_cases hji : j = i
          · subst hji; rw [← hfe]; simp [okFd, q1, q2]
          · exact hok j (by omega)
    · obtain rfl : i = fs.length := by omega
      rw [all_take hok] at hall; cases hall
  | true =>
  have hokj : ∀ f ∈ fs, okFd f = true := List.all_eq_true.1 hall
  refine W_cut (fun E S => Kept st S ∧ E 0 = x) ?_ ?_
  · simp (maxSteps := 1000000) (disch := omega) only [h0, hlen, qaaz, qabz, qadz, qajz, qalz, evOp, qaoz, qapz, qarz, qatz, qavz,
 ↓reduceIte, Option.map_some, qazz]
    refine W_loop I ?_ (n := fs.length) (by
      rw [hI]
      exact ⟨0, rfl, by omega, hk, fun j h => by omega, h0, rfl, rfl, rfl⟩)
    clear hk h0
    intro k e s' hh
    rw [hI] at hh
    obtain ⟨i, rfl, hi, hk, hok, h0, h15, h16, h17⟩ := hh
    by_cases hlt : i < fs.length
    · obtain ⟨f, hfe⟩ : ∃ f, f = fs.getD i ([], []) := ⟨_, rfl⟩
      have hfm : f ∈ fs := by rw [hfe]; simp [List.getD, hlt]
      have hfo := hf f hfm
      have hq := hokj f hfm
      have q1 : nameB f.1 = true := by simp only [okFd, Bool.and_eq_true] at hq; exact hq.1
      have q2 : valB f.2 = true := by simp only [okFd, Bool.and_eq_true] at hq; exact hq.2
      have hnm : ∀ S : St, call prog (.fn 157 []) [.str f.1] S = some (.bool true, S) := fun S => by rw [isName_spec, q1]
      have hvl : ∀ S : St, call prog (.fn 158 []) [.str f.2] S = some (.bool true, S) := fun S => by rw [isValue_spec (by have := hfo.2; omega), q2]
      simp (maxSteps := 1000000) (disch := omega) only [h15, h16, h17, hlt, iaddr_f hx, ← hfe, load_f2, allocPV, store_f, faddrPV, Nat.add_zero, Nat.zero_add, load_b0, load_b1, hnm, hvl, add_n, qaaz, qabz, qacz, qadz, qaez, qajz, qakz, qalz, qamz, qanz, evOp, qaoz, qapz, qaqz, qarz, qatz, qauz, qavz,
 ↓reduceIte, Nat.reduceEqDiff, List.map_cons, List.map_nil, Option.map_some, qazz, qbdz, qbhz, qbpz, qcfz, beq_false, decide_true, Int.toNat_natCast, Int.ofNat_lt, Bool.false_eq_true, Int.reduceToNat, Bool.not_true, Bool.not_false]
      refine loopQ_intro (m := fs.length - (i + 1)) (by omega) ?_
      rw [hI]
      refine ⟨i + 1, rfl, by omega, hk.alloc', fun j hj => ?_, h0, h15, h16, rfl⟩
      by_cases hji : j = i
      · subst hji; rw [← hfe]; exact hq
      · exact hok j (by omega)
    · obtain rfl : i = fs.length := by omega
      simp (maxSteps := 1000000) (disch := omega) only [h0, h16, h17, hlt, qaaz, qabz, qacz, qagz, qajz, qalz, evOp, qaoz, qarz, qatz, qavz,
 ↓reduceIte, Option.map_some, qazz, qbbz, qbfz, qbhz, qbjz, qbpz, decide_false,
 Int.ofNat_lt, Bool.false_eq_true, true_and, and_true, reduceCtorEq]
      exact hk
  clear hk h0 hI
  rintro e S ⟨hk, h0⟩
  simp (maxSteps := 1000000) (disch := omega) only [h0, hlen, qaaz, qabz, qadz, qajz, qalz, evOp, qaoz, qapz, qarz, qatz, qavz,
 ↓reduceIte, Option.map_some, qazz, reduceCtorEq]
  obtain ⟨I2, hI2⟩ : ∃ I2 : Nat → Env → St → Prop, I2 = fun k e s' => ∃ (i : Nat) (v : PV), k = fs.length - i ∧ i ≤ fs.length ∧ Kept st s' ∧ Mine st s' v ((fs.take i).flatMap fieldBytes) ∧ (∀ j, j < i → longF (fs.getD j ([], [])) = false) ∧ e 6 = v ∧ e 32 = x ∧ e 33 = .int .i64 (fs.length : Int) ∧ e 34 = .int .i64 (i : Int) := ⟨_, rfl⟩
  refine W_loop I2 ?_ (n := fs.length) (by
    rw [hI2]
    exact ⟨0, .nils, rfl, by omega, hk, Mine.nil, fun j h => by omega, rfl, rfl, rfl, rfl⟩)
  clear hk h0
  intro k e s' hh
  rw [hI2] at hh
  obtain ⟨i, v, rfl, hi, hk, hm, hlg, h6, h32, h33, h34⟩ := hh
  have hbl := bytes_len (fs := fs.take i) (fun f hfm => hf f (List.mem_of_mem_take hfm))
  have hbl2 : ((fs.take i).flatMap fieldBytes).length ≤ 3840000 := by
    have h0 : (fs.take i).length ≤ 128 := by simp; omega
    exact Nat.le_trans hbl (Nat.le_trans (Nat.mul_le_mul_right 30000 h0) (by decide))
  clear hbl
  by_cases hlt : i < fs.length
  · obtain ⟨f, hfe⟩ : ∃ f, f = fs.getD i ([], []) := ⟨_, rfl⟩
    have hfm : f ∈ fs := by rw [hfe]; simp [List.getD, hlt]
    have hfo := hf f hfm
    have hq := okLen f (hokj f hfm)
    have hfb := fieldBytes_len hfo.1 hfo.2
    have hll := lineOf_len (f := f)
    obtain ⟨ps, hps⟩ : ∃ ps, ps = piecesOf f := ⟨_, rfl⟩
    obtain ⟨base, hbase⟩ : ∃ base, base = (fs.take i).flatMap fieldBytes := ⟨_, rfl⟩
    rw [← hbase] at hm hbl2
    have hpl : ps.length ≤ 6000 := by
      have := foldF_num (lineOf f).length (lineOf f) (f.1.length + 3)
      rw [hps]; unfold piecesOf; omega
    have hfold : ∀ S : St, call prog (.fn 159 []) [.str (lineOf f), .int .i64 ((f.1.length + 3 : Nat) : Int)] S = some (newSl S 1 (ps.map .str), S.tok1) := fun S => by
      rw [hps]; exact fold_spec (by omega) (by omega) (by omega) (Nat.le_refl _)
    have hlenp : ∀ S : St, lenPV false (newSl S 1 (ps.map .str)) = some (.int .i64 (ps.length : Int)) := fun S => by rw [len_vs newSl_vs, List.length_map]
    have hsn : (fs.take (i + 1)).flatMap fieldBytes = base ++ ps.flatMap crl2 := by
      rw [take_getD' hlt, ← hfe, List.flatMap_append, hbase, hps]; simp [fieldBytes]
    have hfbl : (ps.flatMap crl2).length ≤ 30000 := by rw [hps]; exact hfb
    obtain ⟨II, hII⟩ : ∃ II : Nat → Env → St → Prop, II = fun k e S => ∃ (q : Nat) (v p : PV), k = ps.length - q ∧ q ≤ ps.length ∧ Kept st S ∧ Mine st S v (base ++ (ps.take q).flatMap crl2) ∧ (∀ j, j < q → longX (ps.getD j []) = false) ∧ p.vs 1 = some (ps.map .str) ∧ e 54 = p ∧ e 55 = .int .i64 (ps.length : Int) ∧ e 56 = .int .i64 (q : Int) ∧ e 6 = v ∧ e 32 = x ∧ e 33 = .int .i64 (fs.length : Int) ∧ e 34 = .int .i64 (i : Int) := ⟨_, rfl⟩
    have fin : ∀ (E : Env) (S : St), Kept st S → fs.any longF = true → E 2 = .nils → E 3 = .int .i64 40 → ∃ rv, resOf E S [.tmp 2, .tmp 3] = some rv ∧ leave st S rv = outV st (writeOf fs) := fun E S k1 hL k2 k3 =>
      ⟨.tup [.nils, .int .i64 40], by simp [resOf, rvAll, rv1, k2, k3, notTup, packRes], by
        rw [show writeOf fs = (40, []) by simp [writeOf, h128, hall, hL]]
        exact k1.leave rfl (fun _ _ => rfl)⟩
    by_cases hv : f.2 = []
    have hl1 : lineOf f = f.1 ++ [58] := by simp [lineOf, hv]
    rw [hl1] at hfold
    simp (maxSteps := 1000000) (disch := omega) only [h32, h33, h34, hlt, iaddr_f hx, ← hfe, load_f2, allocPV, store_f, faddrPV, Nat.add_zero, Nat.zero_add, load_b0, load_b1, adds (a := f.1) (b := [58]) (by simp; omega), eq_true hv, hfold, len_s, add_n, hlenp, qaaz, qabz, qacz, qadz, qaez, qajz, qalz, evOp, qaoz, qapz, qaqz, qarz, qatz, qauz, qavz,
 ↓reduceIte, Nat.reduceEqDiff, List.map_cons, List.map_nil, Option.map_some, qazz, qbhz, qbpz, qccz, decide_true, decide_false,
 Int.toNat_natCast, Int.ofNat_lt, Bool.false_eq_true, Int.reduceToNat, ne_eq, not_true_eq_false]
    rotate_left
    have hl1 : lineOf f = f.1 ++ [58] ++ 32 :: f.2 := by simp [lineOf, hv]
    rw [hl1] at hfold
    have ha1 : ∀ ek, binPV .add ek (.str [32]) (.str f.2) = some (.str (32 :: f.2)) := fun ek => adds (a := [32]) (b := f.2) (by simp; omega)
    have ha2 : ∀ ek, binPV .add ek (.str (f.1 ++ [58])) (.str (32 :: f.2)) = some (.str (f.1 ++ [58] ++ 32 :: f.2)) := fun ek => adds (by simp; omega)
    simp (maxSteps := 1000000) (disch := omega) only [h32, h33, h34, hlt, iaddr_f hx, ← hfe, load_f2, allocPV, store_f, faddrPV, Nat.add_zero, Nat.zero_add, load_b0, load_b1, adds (a := f.1) (b := [58]) (by simp; omega), hv, ha1, ha2, hfold, len_s, add_n, hlenp, qaaz, qabz, qacz, qadz, qaez, qajz, qalz, evOp, qaoz, qapz, qaqz, qarz, qatz, qauz, qavz,
 ↓reduceIte, Nat.reduceEqDiff, List.map_cons, List.map_nil, Option.map_some, qazz, qbhz, qbpz, qccz, decide_true, Int.toNat_natCast, Int.ofNat_lt, Int.reduceToNat, ne_eq, not_false_eq_true]
    all_goals
      refine W_loop II ?_ (n := ps.length) (by
        rw [hII]
        exact ⟨0, v, _, rfl, by omega, hk.alloc'.tok1, by simpa using hm.alloc.tok1, fun j h => by omega, newSl_vs, rfl, rfl, rfl, h6, h32, h33, h34⟩)
      clear hk hm h6 h32 h33 h34
      intro k e S hh
      rw [hII] at hh
      obtain ⟨q, v, p, rfl, hq1, hk, hm, hlx, hp, h54, h55, h56, h6, h32, h33, h34⟩ := hh
      by_cases hqt : q < ps.length
      · obtain ⟨y, hy⟩ : ∃ y, y = ps.getD q [] := ⟨_, rfl⟩
        have hfl := flatMap_take_le (g := crl2) ps (q + 1)
        rw [take_getD' hqt, ← hy, List.flatMap_append, List.length_append] at hfl
        simp only [List.flatMap_cons, List.flatMap_nil, List.append_nil, crl2, List.length_append, List.length_cons, List.length_nil] at hfl
        by_cases hlo : 998 < y.length
        · have e1 : (998 : Int) < (y.length : Int) := by omega
          simp (maxSteps := 1000000) (disch := omega) only [h54, h55, h56, hqt, iaddr_s hp, ← hy, qciz, len_s, e1, qaaz, qabz, qacz, qadz, qaez, qaiz, qajz, qalz, evOp, qaoz, qapz, qarz, qatz, qavz,
 ↓reduceIte, Nat.reduceEqDiff, Option.map_some, qazz, qbaz, qbez, qbhz, qbiz, qblz, qbpz, qbrz, qciz, decide_true, Int.toNat_natCast, Int.ofNat_lt]
          refine fin _ _ hk ?_ rfl rfl
          rw [List.any_eq_true]
          refine ⟨f, hfm, ?_⟩
          unfold longF
          rw [List.any_eq_true, ← hps]
          exact ⟨y, by rw [hy]; simp [List.getD, hqt], by simp [longX, hlo]⟩
        · have e1 : ¬ (998 : Int) < (y.length : Int) := by omega
          obtain ⟨v1, S1, a1, k1, m1⟩ := hk.app8 (y := .str y) (m := y) hm rfl (by simp only [List.length_append, room] at *; omega)
          obtain ⟨v2, S2, a2, k2, m2⟩ := k1.app8 (y := .str [13, 10]) (m := [13, 10]) m1 rfl (by simp only [List.length_append, List.length_cons, List.length_nil, room] at *; omega)
          simp (maxSteps := 1000000) (disch := omega) only [h54, h55, h56, h6, hqt, iaddr_s hp, ← hy, qciz, len_s, e1, a1, a2, add_n, qaaz, qabz, qacz, qadz, qaez, qajz, qalz, evOp, qaoz, qapz, qarz, qatz, qavz,
 ↓reduceIte, Nat.reduceEqDiff, Option.map_some, qazz, qbdz, qbhz, qbpz, qbrz, qciz, decide_true, decide_false,
 Int.toNat_natCast, Int.ofNat_lt, Bool.false_eq_true, Int.reduceToNat]
          refine loopQ_intro (m := ps.length - (q + 1)) (by omega) ?_
          rw [hII]
          refine ⟨q + 1, v2, p, rfl, by omega, k2, ?_, fun j hj => ?_, hp, h54, h55, rfl, rfl, h32, h33, h34⟩
          · rw [take_getD' hqt, ← hy, List.flatMap_append]
            simpa [crl2] using m2
          · by_cases hji : j = q
            · subst hji; rw [← hy]; simp [longX, hlo]
            · exact hlx j (by omega)
      · obtain rfl : q = ps.length := by omega
        rw [List.take_length, ← hsn] at hm
        simp (maxSteps := 1000000) (disch := omega) only [h55, h56, h34, hqt, add_n, qaaz, qabz, qacz, qagz, qajz, qalz, evOp, qaoz, qapz, qarz, qatz, qavz,
 ↓reduceIte, Nat.reduceEqDiff, Option.map_some, qazz, qbbz, qbdz, qbfz, qbhz, qbjz, qbpz, decide_false,
 Int.ofNat_lt, Bool.false_eq_true, Int.reduceToNat]
        refine loopQ_intro (m := fs.length - (i + 1)) (by omega) ?_
        rw [hI2]
        refine ⟨i + 1, v, rfl, by omega, hk, hm, fun j hj => ?_, h6, h32, h33, rfl⟩
        by_cases hji : j = i
        · subst hji; rw [← hfe]
          unfold longF
          rw [← hps, List.any_eq_false]
          intro y hy
          obtain ⟨z, hz, rfl⟩ := List.mem_iff_getElem.1 hy
          have := hlx z hz
          simpa [List.getD, hz] using this
        · exact hlg j (by omega)
  · obtain rfl : i = fs.length := by omega
    rw [List.take_length] at hm hbl2
    have hnl : fs.any longF = false := by
      rw [List.any_eq_false]
      intro y hy
      obtain ⟨z, hz, rfl⟩ := List.mem_iff_getElem.1 hy
      have := hlg z hz
      simpa [List.getD, hz] using this
    obtain ⟨v1, S1, a1, k1, m1⟩ := hk.app8 (y := .str [13, 10]) (m := [13, 10]) hm rfl (by simp only [List.length_cons, List.length_nil, room]; omega)
    simp (maxSteps := 1000000) (disch := omega) only [h6, h33, h34, hlt, a1, qaaz, qabz, qacz, qagz, qaiz, qajz, qalz, evOp, qaoz, qapz, qarz, qatz, qavz,
 ↓reduceIte, Nat.reduceEqDiff, Option.map_some, qazz, qbbz, qbfz, qbhz, qbjz, qblz, qbpz, decide_false,
 Int.ofNat_lt, Bool.false_eq_true]
    refine ⟨.tup [v1, .int .i64 0], ?_, ?_⟩
    · have hnt : notTup v1 = true := by rcases m1.1 with ⟨rfl, _⟩ | ⟨i, rfl, _⟩ <;> rfl
      simp [resOf, rvAll, rv1, qavz, hnt, packRes]
      rfl
    · rw [show writeOf fs = (0, fs.flatMap fieldBytes ++ [13, 10]) by simp [writeOf, h128, hall, hnl]]
      exact leave_mine k1 m1 (by simp)
end Go.Ab
/-
  A header is written, by the document.
-/
namespace Go.Ab
variable {st s : St} {e : Env}

end Go.Ab
/-
  The law FieldsWrites.
-/
namespace Go.Ab
variable {st s : St} {e : Env}

end Go.Ab
/-
  What the smallest functions come to.
-/
namespace Go.Ab
variable {st : St} {e : Env}

end Go.Ab
/-
  What small functions come to: beginnings and ends, the place of a bare 13 or 10, copies.
-/
namespace Go.Ab
variable {st : St} {e : Env}

end Go.Ab
/-
  Loops over bytes: the place of a bare 13 or 10; copies.
-/
namespace Go.Ab
variable {st : St} {e : Env}

end Go.Ab
/-
  Lines of a written header: the plain law.
-/
namespace Go.Ab
variable {st s : St} {e : Env}

theorem segs_clean : ∀ (y rest acc : List UInt8), (∀ c ∈ y, c ≠ 13) → segs (y ++ 13 :: 10 :: rest) acc = (acc ++ y, true) :: segs rest [] := by
  intro y
  induction y with
  | nil => intro rest acc _; simp [segs]
  | cons c r ih =>
    intro rest acc h
    have hc : c ≠ 13 := h c (by simp)
    have h2 := ih rest (acc ++ [c]) (fun d hd => h d (by simp [hd]))
    cases r with
    | nil => 
      simp only [List.nil_append, List.cons_append] at h2 ⊢
      simp only [segs, hc, false_and, if_false]
      simp []
    | cons d r =>
      simp only [List.cons_append] at h2 ⊢
      rw [segs, if_neg (by simp [hc]), h2]
      simp

theorem plc_blank {l : List UInt8} {f : Nat} : ∀ m, 0 ≤ plc l f m → l.getD (plc l f m).toNat 0 = 32 := by
  intro m
  induction m with
  | zero => intro h; simp [plc] at h
  | succ m ih =>
    intro h
    rw [plc_succ] at h ⊢
    split
    · rename_i hc; simp only [Int.toNat_natCast]; exact hc.2.1
    · rename_i hc; rw [if_neg hc] at h; exact ih h

theorem nameC_ne {c : UInt8} (h : nameC c = true) : c ≠ 32 ∧ c ≠ 58 ∧ c ≠ 13 := by
  simp only [nameC, Bool.and_eq_true, Bool.not_eq_true', decide_eq_false_iff_not] at h
  refine ⟨?_, h.2, ?_⟩
  · rintro rfl; exact h.1.1 (by decide)
  · rintro rfl; exact h.1.1 (by decide)
theorem valC_ne {c : UInt8} (h : valC c = true) : c ≠ 13 := by
  rintro rfl; revert h; decide

theorem line_clean {f : Fld} (h : okFd f = true) : ∀ c ∈ lineOf f, c ≠ 13 := by
  intro c hc
  simp only [okFd, nameB, valB, Bool.and_eq_true, List.all_eq_true] at h
  simp only [lineOf, List.mem_append, List.mem_singleton] at hc
  rcases hc with (hc | rfl) | hc
  · exact (nameC_ne (h.1.2 c hc)).2.2
  · decide
  · split at hc
    · cases hc
    · rcases List.mem_cons.1 hc with rfl | hc
      · decide
      · exact valC_ne (h.2.1.1 c hc)
theorem piece_clean {f : Fld} (h : okFd f = true) : ∀ p ∈ piecesOf f, ∀ c ∈ p, c ≠ 13 := by
  intro p hp c hc
  have hfl := foldF_flat (lineOf f).length (lineOf f) (f.1.length + 3)
  refine line_clean h c ?_
  rw [← hfl]
  exact List.mem_flatten.2 ⟨p, hp, hc⟩

def allPieces (fs : List Fld) : List (List UInt8) := fs.flatMap piecesOf
theorem flat_pieces : ∀ (fs : List Fld), fs.flatMap fieldBytes = (allPieces fs).flatMap crl2 := by
  intro fs
  induction fs with
  | nil => rfl
  | cons f r ih => simp only [allPieces, List.flatMap_cons, List.flatMap_append] at ih ⊢; rw [ih]; rfl
end Go.Ab
/-
  The law FieldsFolds.
-/
namespace Go.Ab
variable {st s : St} {e : Env}

end Go.Ab
/-
  The program's lines: an iterator.
-/
namespace Go.Ab
variable {st : St} {e : Env}

end Go.Ab
/-
  Reading of a header: plain.
-/
namespace Go.Ab

structure PS where
  done : List Fld
  fld : Fld
  pos : Nat
  op : Bool

def shutP (p : PS) : Option PS :=
  if p.op = true then (if valB (trimOf p.fld.2) = true ∧ p.done.length < 128 then some ⟨p.done ++ [(p.fld.1, trimOf p.fld.2)], (p.fld.1, trimOf p.fld.2), p.pos, false⟩ else none) else some p

def lineP (p : PS) (a : Nat) (s : List UInt8) : Except Nat PS :=
  if blankC (s.getD 0 0) = true then (if p.op = true then .ok ⟨p.done, (p.fld.1, p.fld.2 ++ s), p.pos, true⟩ else .error a)
  else match shutP p with
    | none => .error p.pos
    | some p' => if 0 ≤ Lib.index s [58] ∧ nameB (s.take (Lib.index s [58]).toNat) = true then .ok ⟨p'.done, (s.take (Lib.index s [58]).toNat, s.drop ((Lib.index s [58]).toNat + 1)), a, true⟩ else .error a

abbrev PRes := List Fld × Nat × (Int × Int)
def parseGo (n : Nat) : List (Nat × List UInt8 × Bool) → PS → PRes
  | [], _ => ([], 0, ((n : Int), 42))
  | q :: r, p =>
    if q.2.2 = false then ([], 0, ((q.1 : Int), 42))
    else if q.2.1 = [] then (match shutP p with | none => ([], 0, ((p.pos : Int), 50)) | some p' => (p'.done, q.1 + 2, (0, 0)))
    else if 998 < q.2.1.length then ([], 0, ((q.1 : Int), 40))
    else match lineP p q.1 q.2.1 with
      | .error a => ([], 0, ((a : Int), 50))
      | .ok p' => parseGo n r p'
def ps0 : PS := ⟨[], ([], []), 0, false⟩
def parseOf (l : List UInt8) : PRes := parseGo l.length (refLines l) ps0

structure PInv (n : Nat) (p : PS) : Prop where
  dn : p.done.all okFd = true
  ln : p.done.length ≤ 128
  nm : p.op = true → nameB p.fld.1 = true
  ps : p.pos ≤ n

theorem shutP_inv {n : Nat} {p p' : PS} (h : PInv n p) (hs : shutP p = some p') : PInv n p' ∧ p'.op = false := by
  unfold shutP at hs
  split at hs
  · rename_i ho
    split at hs
    · rename_i hc
      simp only [Option.some.injEq] at hs
      subst hs
      refine ⟨⟨?_, ?_, fun h => (by cases h), h.ps⟩, rfl⟩
      · simp only [List.all_append, h.dn, List.all_cons, List.all_nil, okFd, h.nm ho, hc.1, Bool.and_self]
      · simp; omega
    · cases hs
  · rename_i ho
    simp only [Option.some.injEq] at hs
    subst hs
    exact ⟨h, by simpa using ho⟩
theorem lineP_inv {n : Nat} {p p' : PS} {a : Nat} {s : List UInt8} (h : PInv n p) (ha : a ≤ n) (hs : lineP p a s = .ok p') : PInv n p' := by
  unfold lineP at hs
  split at hs
  · split at hs
    · rename_i ho
      cases hs
      exact ⟨h.dn, h.ln, fun _ => h.nm ho, h.ps⟩
    · cases hs
  · split at hs
    · cases hs
    · rename_i p1 h1
      have h2 := (shutP_inv h h1).1
      split at hs
      · rename_i hc
        cases hs
        exact ⟨h2.dn, h2.ln, fun _ => hc.2, ha⟩
      · cases hs
theorem lineP_err {n : Nat} {p : PS} {a b : Nat} {s : List UInt8} (h : PInv n p) (ha : a ≤ n) (hs : lineP p a s = .error b) : b ≤ n := by
  unfold lineP at hs
  split at hs
  · split at hs
    · cases hs
    · cases hs; exact ha
  · split at hs
    · cases hs; exact h.ps
    · split at hs
      · cases hs
      · cases hs; exact ha

def PGood (n : Nat) (r : PRes) : Prop := (r.2.2.2 = 0 ∧ r.2.2.1 = 0 ∧ r.1.all okFd = true ∧ r.1.length ≤ 128 ∧ 2 ≤ r.2.1 ∧ r.2.1 ≤ n + 2) ∨ (r.2.2.2 ≠ 0 ∧ r.1 = [] ∧ r.2.1 = 0 ∧ 0 ≤ r.2.2.1 ∧ r.2.2.1 ≤ (n : Int))
theorem parseGo_good {n : Nat} : ∀ (r : List (Nat × List UInt8 × Bool)) (p : PS), PInv n p → (∀ q ∈ r, q.1 ≤ n) → PGood n (parseGo n r p) := by
  intro r
  induction r with
  | nil => intro p _ _; exact .inr ⟨by simp [parseGo], rfl, rfl, by simp [parseGo], by simp [parseGo]⟩
  | cons q r ih =>
    intro p hp hq
    have hq1 := hq q (by simp)
    simp only [parseGo]
    split
    · exact .inr ⟨by simp, rfl, rfl, by simp, by simp; omega⟩
    · split
      · split
        · exact .inr ⟨by simp, rfl, rfl, by simp, by have := hp.ps; simp; omega⟩
        · rename_i p' h'
          have h2 := (shutP_inv hp h').1
          exact .inl ⟨rfl, rfl, h2.dn, h2.ln, by simp, by simp; omega⟩
      · split
        · exact .inr ⟨by simp, rfl, rfl, by simp, by simp; omega⟩
        · split
          · rename_i a h'
            have := lineP_err hp hq1 h'
            exact .inr ⟨by simp, rfl, rfl, by simp, by simp; omega⟩
          · rename_i p' h'
            exact ih p' (lineP_inv hp hq1 h') (fun q' hq' => hq q' (by simp [hq']))
theorem place_le (l : List UInt8) : ∀ (n a : Nat), l.length - a = n → a ≤ l.length → ∀ q ∈ place a (segs (l.drop a) []), q.1 + q.2.1.length ≤ l.length := by
  intro n
  induction n using Nat.strongRecOn with
  | _ n ih =>
    intro a hn ha q hq
    rcases segs_index (l.drop a) [] with ⟨i1, i2⟩ | ⟨m, i1, i2, i3⟩
    · rw [i2] at hq
      split at hq
      · simp [place] at hq
      · simp [place] at hq
        subst hq
        simp; omega
    · rw [i3] at hq
      simp only [List.length_drop] at i2
      simp only [place, List.nil_append, List.mem_cons] at hq
      rcases hq with rfl | hq
      · simp; omega
      · have hlen : ((l.drop a).take m).length = m := by simp; omega
        rw [hlen, List.drop_drop, show a + (m + 2) = a + m + 2 by omega] at hq
        exact ih (l.length - (a + m + 2)) (by omega) (a + m + 2) rfl (by omega) q hq
theorem refLines_le {l : List UInt8} : ∀ q ∈ refLines l, q.1 + q.2.1.length ≤ l.length := fun q hq => place_le l l.length 0 rfl (by omega) q (by simpa [refLines] using hq)
theorem parseOf_good {l : List UInt8} : PGood l.length (parseOf l) := by
  refine parseGo_good _ _ ⟨rfl, by simp [ps0], fun h => (by cases h), by simp [ps0]⟩ (fun q hq => ?_)
  have := refLines_le q hq
  omega

theorem foldF_shape : ∀ (n : Nat) (l : List UInt8) (f : Nat), l.length ≤ n → 1 ≤ f → ∃ p0 rest, foldF n l f = p0 :: rest ∧ p0 <+: l ∧ (p0 = l ∨ f ≤ p0.length) ∧ ∀ x ∈ rest, ∃ y, x = 32 :: y := by
  intro n
  induction n with
  | zero => intro l f _ _; exact ⟨l, [], rfl, List.prefix_rfl, .inl rfl, fun x h => (by cases h)⟩
  | succ n ih =>
    intro l f hn hf
    simp only [foldF]
    by_cases h76 : 76 < l.length
    · rw [if_pos h76]
      have hple := plc_le (l := l) (f := f) l.length
      by_cases hneg : plc l f l.length < 0
      · rw [if_pos hneg]
        exact ⟨l, [], rfl, List.prefix_rfl, .inl rfl, fun x h => (by cases h)⟩
      · rw [if_neg hneg]
        obtain ⟨pn, hpn⟩ : ∃ pn : Nat, plc l f l.length = (pn : Int) := ⟨(plc l f l.length).toNat, by omega⟩
        have hbk := plc_blank (l := l) (f := f) l.length (by omega)
        rw [hpn, Int.toNat_natCast] at hbk ⊢
        rw [hpn] at hple
        have hfp : f ≤ pn := by have := hple.2.2 (by omega); omega
        have hpl : pn < l.length := by omega
        refine ⟨l.take pn, foldF n (l.drop pn) 1, rfl, List.take_prefix _ _, .inr (by simp; omega), ?_⟩
        obtain ⟨q0, r0, e1, e2, e3, e4⟩ := ih (l.drop pn) 1 (by simp; omega) (by omega)
        rw [e1]
        intro x hx
        rcases List.mem_cons.1 hx with rfl | hx
        · have hd := drop_getD hpl
          rw [hbk] at hd
          rcases e3 with e3 | e3
          · exact ⟨_, e3.trans hd⟩
          · rw [hd] at e2
            cases x with
            | nil => simp at e3
            | cons c y =>
              rw [List.cons_prefix_cons] at e2
              exact ⟨y, by rw [e2.1]⟩
        · exact e4 x hx
    · rw [if_neg h76]
      exact ⟨l, [], rfl, List.prefix_rfl, .inl rfl, fun x h => (by cases h)⟩

def tailOf (f : Fld) : List UInt8 := if f.2 = [] then [] else 32 :: f.2
theorem pieces_shape {f : Fld} : ∃ r0 rest, piecesOf f = (f.1 ++ 58 :: r0) :: rest ∧ r0 ++ rest.flatten = tailOf f ∧ ∀ x ∈ rest, ∃ y, x = 32 :: y := by
  obtain ⟨p0, rest, e1, e2, e3, e4⟩ := foldF_shape (lineOf f).length (lineOf f) (f.1.length + 3) (Nat.le_refl _) (by omega)
  have hl : lineOf f = f.1 ++ 58 :: tailOf f := by simp [lineOf, tailOf]
  have hfl := foldF_flat (lineOf f).length (lineOf f) (f.1.length + 3)
  obtain ⟨r0, h0⟩ : ∃ r0, p0 = f.1 ++ 58 :: r0 := by
    rcases e3 with e3 | e3
    · exact ⟨tailOf f, e3.trans hl⟩
    · obtain ⟨k, hk⟩ : ∃ k, p0.length = f.1.length + 1 + k := ⟨p0.length - f.1.length - 1, by omega⟩
      refine ⟨(tailOf f).take k, ?_⟩
      have := List.prefix_iff_eq_take.1 e2
      rw [this, hk, hl, List.take_append]
      rw [List.take_of_length_le (by omega), show f.1.length + 1 + k - f.1.length = k + 1 by omega, List.take_succ_cons]
  refine ⟨r0, rest, by unfold piecesOf; rw [e1, h0], ?_, e4⟩
  rw [e1, h0, hl] at hfl
  simpa using hfl

theorem blank_name {c : UInt8} (h : nameC c = true) : blankC c = false := by
  have := nameC_ne h
  simp only [blankC, Bool.or_eq_false_iff, decide_eq_false_iff_not]
  refine ⟨this.1, ?_⟩
  rintro rfl; revert h; decide
theorem index_at : ∀ (n r : List UInt8), (∀ c ∈ n, c ≠ 58) → Lib.index (n ++ 58 :: r) [58] = n.length := by
  intro n
  induction n with
  | nil => intro r _; simp [Lib.index, List.isPrefixOf]
  | cons c n ih =>
    intro r h
    have hc : c ≠ 58 := h c (by simp)
    have := ih r (fun d hd => h d (by simp [hd]))
    rw [List.cons_append, Lib.index]
    have hp : ([58] : List UInt8).isPrefixOf (c :: (n ++ 58 :: r)) = false := by
      simp [List.isPrefixOf]; exact fun h => hc h.symm
    rw [hp, this]
    simp <;> omega
theorem ltrim_blanks {s : List UInt8} : ltrim (32 :: s) = ltrim s := by simp [ltrim, blankC]
theorem trim_tail {f : Fld} (h : valB f.2 = true) : trimOf (tailOf f) = f.2 := by
  have ht : trimOf f.2 = f.2 := by
    simp only [valB, Bool.and_eq_true, decide_eq_true_eq] at h; exact h.2
  unfold tailOf
  split
  · rename_i h0; rw [h0]; rfl
  · unfold trimOf at ht ⊢
    rw [ltrim_blanks]; exact ht

theorem go_rest {n : Nat} {tail : List (List UInt8 × Bool)} : ∀ (rest : List (List UInt8)) (a : Nat) (p : PS), (∀ x ∈ rest, ∃ y, x = 32 :: y) → (∀ x ∈ rest, x.length ≤ 998) → p.op = true →
    parseGo n (place a (rest.map (fun x => (x, true)) ++ tail)) p = parseGo n (place (a + (rest.flatMap crl2).length) tail) ⟨p.done, (p.fld.1, p.fld.2 ++ rest.flatten), p.pos, true⟩ := by
  intro rest
  induction rest with
  | nil => intro a p _ _ ho; obtain ⟨d, ⟨f1, f2⟩, q, o⟩ := p; simp only at ho; subst ho; simp
  | cons x r ih =>
    intro a p h1 h2 ho
    obtain ⟨y, rfl⟩ := h1 x (by simp)
    have hx := h2 (32 :: y) (by simp)
    have hlp : lineP p a (32 :: y) = .ok ⟨p.done, (p.fld.1, p.fld.2 ++ 32 :: y), p.pos, true⟩ := by
      simp [lineP, blankC, ho]
    simp only [List.map_cons, List.cons_append, place, parseGo]
    rw [if_neg (by simp), if_neg (by simp), if_neg (by omega), hlp]
    simp only
    rw [ih _ _ (fun z hz => h1 z (by simp [hz])) (fun z hz => h2 z (by simp [hz])) rfl]
    simp only [List.flatMap_cons, crl2, List.length_append, List.flatten_cons, List.append_assoc, List.length_cons, List.length_nil, List.cons_append]
    congr 2
    omega

theorem go_field {n : Nat} {tail : List (List UInt8 × Bool)} {f : Fld} {a : Nat} {p p' : PS} (hf : okFd f = true) (hlg : longF f = false) (hs : shutP p = some p') :
    parseGo n (place a ((piecesOf f).map (fun x => (x, true)) ++ tail)) p = parseGo n (place (a + (fieldBytes f).length) tail) ⟨p'.done, (f.1, tailOf f), a, true⟩ := by
  obtain ⟨r0, rest, e1, e2, e3⟩ := pieces_shape (f := f)
  have hlen : ∀ x ∈ piecesOf f, x.length ≤ 998 := by
    intro x hx
    simp only [longF, List.any_eq_false] at hlg
    have := hlg x hx
    simp only [longX, decide_eq_true_eq] at this
    omega
  simp only [okFd, Bool.and_eq_true] at hf
  have hn := hf.1
  simp only [nameB, Bool.and_eq_true, decide_eq_true_eq, List.all_eq_true] at hn
  have hidx := index_at f.1 r0 (fun c hc => (nameC_ne (hn.2 c hc)).2.1)
  have hb : blankC ((f.1 ++ 58 :: r0).getD 0 0) = false := by
    cases hq : f.1 with
    | nil => rw [hq] at hn; simp at hn
    | cons c m => 
      have := blank_name (hn.2 c (by rw [hq]; simp))
      simpa using this
  have hlp : lineP p a (f.1 ++ 58 :: r0) = .ok ⟨p'.done, (f.1, r0), a, true⟩ := by
    unfold lineP
    rw [hb, hs, hidx]
    simp only [Bool.false_eq_true, if_false, Int.toNat_natCast]
    rw [List.take_left, if_pos ⟨by omega, hf.1⟩]
    have : (f.1 ++ 58 :: r0).drop (f.1.length + 1) = r0 := by
      rw [← List.drop_drop, List.drop_left]; rfl
    rw [this]
  rw [e1] at hlen
  unfold fieldBytes
  rw [e1]
  simp only [List.map_cons, List.cons_append, place, parseGo]
  have h1 := hlen (f.1 ++ 58 :: r0) (by simp)
  rw [if_neg (by simp), if_neg (by simp), if_neg (by omega), hlp]
  simp only
  rw [go_rest rest _ _ e3 (fun x hx => hlen x (by simp [hx])) rfl]
  simp only [List.flatMap_cons, crl2, List.length_append, List.length_cons, List.length_nil, e2]
  congr 2
  omega

theorem go_all {n : Nat} {tail : List (List UInt8 × Bool)} : ∀ (fs : List Fld) (a : Nat) (p p' : PS), fs.all okFd = true → fs.any longF = false → shutP p = some p' → p'.done.length + fs.length ≤ 128 →
    parseGo n (place a ((allPieces fs).map (fun x => (x, true)) ++ ([], true) :: tail)) p = (p'.done ++ fs, a + (fs.flatMap fieldBytes).length + 2, (0, 0)) := by
  intro fs
  induction fs with
  | nil =>
    intro a p p' _ _ hs _
    simp only [allPieces, List.flatMap_nil, List.map_nil, List.nil_append, place, parseGo]
    rw [if_neg (by simp), if_pos trivial, hs]
    simp
  | cons f r ih =>
    intro a p p' h1 h2 hs hl
    simp only [List.all_cons, Bool.and_eq_true] at h1
    simp only [List.any_cons, Bool.or_eq_false_iff] at h2
    simp only [List.length_cons] at hl
    have hv : valB f.2 = true := by
      have := h1.1; simp only [okFd, Bool.and_eq_true] at this; exact this.2
    have hg := go_field (n := n) (tail := (allPieces r).map (fun x => (x, true)) ++ ([], true) :: tail) (a := a) h1.1 h2.1 hs
    simp only [allPieces, List.flatMap_cons, List.map_append, List.append_assoc] at hg ih ⊢
    rw [hg]
    have hsh : shutP ⟨p'.done, (f.1, tailOf f), a, true⟩ = some ⟨p'.done ++ [f], (f.1, f.2), a, false⟩ := by
      unfold shutP
      simp only [trim_tail hv, if_true]
      rw [if_pos ⟨hv, by omega⟩]
    rw [ih _ _ _ h1.2 h2.2 hsh (by simp; omega)]
    simp only [List.append_assoc, List.cons_append, List.nil_append, List.length_append]
    congr 2
    omega

theorem segs_more : ∀ (ps : List (List UInt8)) (more : List UInt8), (∀ p ∈ ps, ∀ c ∈ p, c ≠ 13) → segs (ps.flatMap crl2 ++ 13 :: 10 :: more) [] = ps.map (fun p => (p, true)) ++ ([], true) :: segs more [] := by
  intro ps
  induction ps with
  | nil => intro more _; simp [segs]
  | cons p r ih =>
    intro more h
    have := segs_clean p (r.flatMap crl2 ++ 13 :: 10 :: more) [] (h p (by simp))
    simp only [List.flatMap_cons, crl2, List.append_assoc, List.cons_append, List.nil_append, List.map_cons] at this ih ⊢
    rw [this, ih more (fun q hq => h q (by simp [hq]))]

theorem parse_written {fs : List Fld} {more : List UInt8} (h1 : fs.all okFd = true) (h2 : fs.any longF = false) (h3 : fs.length ≤ 128) :
    parseOf (fs.flatMap fieldBytes ++ [13, 10] ++ more) = (fs, (fs.flatMap fieldBytes ++ [13, 10]).length, (0, 0)) := by
  have hcl : ∀ p ∈ allPieces fs, ∀ c ∈ p, c ≠ 13 := by
    intro p hp
    obtain ⟨f, hf, hp⟩ := List.mem_flatMap.1 hp
    exact piece_clean (List.all_eq_true.1 h1 f hf) p hp
  have hs := segs_more (allPieces fs) more hcl
  rw [← flat_pieces] at hs
  unfold parseOf refLines
  have hap : fs.flatMap fieldBytes ++ [13, 10] ++ more = fs.flatMap fieldBytes ++ 13 :: 10 :: more := by simp
  rw [hap, hs, go_all fs 0 ps0 ps0 h1 h2 rfl (by simp [ps0]; omega)]
  simp [ps0]

theorem write_cases {fs : List Fld} : ((writeOf fs).1 ≠ 0 ∧ (writeOf fs).2 = []) ∨ (fs.length ≤ 128 ∧ fs.all okFd = true ∧ fs.any longF = false ∧ writeOf fs = (0, fs.flatMap fieldBytes ++ [13, 10])) := by
  unfold writeOf
  split
  · exact .inl ⟨by simp, rfl⟩
  · split
    · split
      · exact .inl ⟨by simp, rfl⟩
      · rename_i h1 h2 h3
        exact .inr ⟨by omega, h2, by simpa using h3, rfl⟩
    · exact .inl ⟨by simp, rfl⟩
end Go.Ab
/-
  A field is shut; a line is taken.
-/
namespace Go.Ab
variable {st st0 S : St} {e : Env} {b : Nat} {d : PV}

def flV (f : Int × Int) : PV := .agg [.int .i64 f.1, .int .i64 f.2]

def rdC (d : PV) (p : PS) : List PV := [d, .str p.fld.1, .str p.fld.2, .int .i64 (p.pos : Int), .bool p.op]
def rdS (B : List (List PV)) (b : Nat) (cs : List PV) (X : List (List PV)) (T : List Bool) (L : List LoopS) (lo : Nat) : St := ⟨B.set b cs ++ X, T, L, lo⟩
variable {B X : List (List PV)} {T : List Bool} {L : List LoopS} {lo : Nat} {c0 c1 c2 c3 c4 v : PV}
theorem rd_get {cs : List PV} (hb : b < B.length) : (B.set b cs ++ X)[b]? = some cs := by
  rw [List.getElem?_append_left (by simpa using hb)]; simp [hb]
theorem rd_ld0 (hb : b < B.length) : loadPV (rdS B b [c0, c1, c2, c3, c4] X T L lo) false 1 (.ptr b 0) = some c0 := by simp [loadPV, rdS, rd_get hb, readCells]
theorem rd_ld2 (hb : b < B.length) : loadPV (rdS B b [c0, c1, c2, c3, c4] X T L lo) false 1 (.ptr b 2) = some c2 := by simp [loadPV, rdS, rd_get hb, readCells]
theorem rd_ld3 (hb : b < B.length) : loadPV (rdS B b [c0, c1, c2, c3, c4] X T L lo) false 1 (.ptr b 3) = some c3 := by simp [loadPV, rdS, rd_get hb, readCells]
theorem rd_ld4 (hb : b < B.length) : loadPV (rdS B b [c0, c1, c2, c3, c4] X T L lo) false 1 (.ptr b 4) = some c4 := by simp [loadPV, rdS, rd_get hb, readCells]
theorem rd_ldf (hb : b < B.length) : loadPV (rdS B b [c0, c1, c2, c3, c4] X T L lo) true 2 (.ptr b 1) = some (.agg [c1, c2]) := by simp [loadPV, rdS, rd_get hb, readCells]
theorem rd_set {cs cs' : List PV} (hb : b < B.length) : (B.set b cs ++ X).set b cs' = B.set b cs' ++ X := by
  rw [List.set_append_left _ _ (by simpa using hb), List.set_set]
theorem rd_st4 {o : Bool} (hb : b < B.length) : storePV (rdS B b [c0, c1, c2, c3, c4] X T L lo) 1 (.ptr b 4) (.bool o) = some (rdS B b [c0, c1, c2, c3, .bool o] X T L lo) := by
  simp [storePV, rdS, rd_get hb, rd_set hb, PV.cells, PV.inB, leafOk, setCells, hasTok, tokOf]
theorem rd_st3 {n : Int} (hb : b < B.length) : storePV (rdS B b [c0, c1, c2, c3, c4] X T L lo) 1 (.ptr b 3) (.int .i64 n) = some (rdS B b [c0, c1, c2, .int .i64 n, c4] X T L lo) := by
  simp [storePV, rdS, rd_get hb, rd_set hb, PV.cells, PV.inB, leafOk, setCells, hasTok, tokOf]
theorem rd_st2 {s : List UInt8} (hb : b < B.length) : storePV (rdS B b [c0, c1, c2, c3, c4] X T L lo) 1 (.ptr b 2) (.str s) = some (rdS B b [c0, c1, .str s, c3, c4] X T L lo) := by
  simp [storePV, rdS, rd_get hb, rd_set hb, PV.cells, PV.inB, leafOk, setCells, hasTok, tokOf]
theorem rd_stf {s t : List UInt8} (hb : b < B.length) : storePV (rdS B b [c0, c1, c2, c3, c4] X T L lo) 2 (.ptr b 1) (.agg [.str s, .str t]) = some (rdS B b [c0, .str s, .str t, c3, c4] X T L lo) := by
  simp [storePV, rdS, rd_get hb, rd_set hb, PV.cells, PV.inB, PV.inB.inBAll, leafOk, setCells, hasTok, tokOf]
theorem rd_st0 {i : Nat} {xs : List PV} (hb : b < B.length) : storePV (rdS B b [c0, c1, c2, c3, c4] X T L lo) 1 (.ptr b 0) (.sl 2 (.own i) xs) = some (rdS B b [.sl 2 (.own i) xs, c1, c2, c3, c4] X T L (min lo b)) := by
  simp [storePV, rdS, rd_get hb, rd_set hb, PV.cells, PV.inB, leafOk, setCells, hasTok, tokOf]
theorem rd_alloc {cs z : List PV} : allocPV (rdS B b cs X T L lo) z = (.ptr (B.length + X.length) 0, rdS B b cs (X ++ [z]) T L lo) := by
  simp [allocPV, rdS]
theorem rd_x0 {cs y : List PV} {n m n' m' : Int} {ys : List (List PV)} : storePV (rdS B b cs ([.int .i64 n, .int .i64 m] :: ys) T L lo) 2 (.ptr B.length 0) (.agg [.int .i64 n', .int .i64 m']) = some (rdS B b cs ([.int .i64 n', .int .i64 m'] :: ys) T L lo) := by
  have h1 : (B.set b cs ++ [.int .i64 n, .int .i64 m] :: ys)[B.length]? = some [.int .i64 n, .int .i64 m] := by
    rw [List.getElem?_append_right (by simp)]; simp
  have h2 : ∀ z, (B.set b cs ++ [.int .i64 n, .int .i64 m] :: ys).set B.length z = B.set b cs ++ z :: ys := fun z => by
    rw [List.set_append_right _ _ (by simp)]; simp
  simp [storePV, rdS, h2, PV.cells, PV.inB, PV.inB.inBAll, leafOk, setCells, hasTok, tokOf]
theorem rd_x1 {cs : List PV} {y : List PV} {n m n' m' : Int} {ys : List (List PV)} : storePV (rdS B b cs (y :: [.int .i64 n, .int .i64 m] :: ys) T L lo) 2 (.ptr (B.length + 1) 0) (.agg [.int .i64 n', .int .i64 m']) = some (rdS B b cs (y :: [.int .i64 n', .int .i64 m'] :: ys) T L lo) := by
  have h1 : (B.set b cs ++ y :: [.int .i64 n, .int .i64 m] :: ys)[B.length + 1]? = some [.int .i64 n, .int .i64 m] := by
    rw [List.getElem?_append_right (by simp)]; simp
  have h2 : ∀ z, (B.set b cs ++ y :: [.int .i64 n, .int .i64 m] :: ys).set (B.length + 1) z = B.set b cs ++ y :: z :: ys := fun z => by
    rw [List.set_append_right _ _ (by simp)]; simp
  simp [storePV, rdS, h2, PV.cells, PV.inB, PV.inB.inBAll, leafOk, setCells, hasTok, tokOf]
theorem rd_lx1 {cs : List PV} {y : List PV} {n m : Int} {ys : List (List PV)} : loadPV (rdS B b cs (y :: [.int .i64 n, .int .i64 m] :: ys) T L lo) false 1 (.ptr (B.length + 1) 1) = some (.int .i64 m) := by
  have h1 : (B.set b cs ++ y :: [.int .i64 n, .int .i64 m] :: ys)[B.length + 1]? = some [.int .i64 n, .int .i64 m] := by
    rw [List.getElem?_append_right (by simp)]; simp
  simp [loadPV, rdS, readCells]
theorem rd_lx1a {cs : List PV} {y : List PV} {n m : Int} {ys : List (List PV)} : loadPV (rdS B b cs (y :: [.int .i64 n, .int .i64 m] :: ys) T L lo) true 2 (.ptr (B.length + 1) 0) = some (.agg [.int .i64 n, .int .i64 m]) := by
  have h1 : (B.set b cs ++ y :: [.int .i64 n, .int .i64 m] :: ys)[B.length + 1]? = some [.int .i64 n, .int .i64 m] := by
    rw [List.getElem?_append_right (by simp)]; simp
  simp [loadPV, rdS, readCells]
theorem rd_res {cs : List PV} {n m : Int} {ys : List (List PV)} {k : Nat} (he : e k = .ptr B.length 0) : resOf e (rdS B b cs ([.int .i64 n, .int .i64 m] :: ys) T L lo) [.cell k true 2] = some (flV (n, m)) := by
  have h1 : (B.set b cs ++ [.int .i64 n, .int .i64 m] :: ys)[B.length]? = some [.int .i64 n, .int .i64 m] := by
    rw [List.getElem?_append_right (by simp)]; simp
  simp [resOf, rvAll, rv1, he, loadPV, rdS, readCells, notTup, packRes, flV]

structure RdStep (st0 S S' : St) (b : Nat) : Prop where
  bx : ∃ cs, cs.length = 5 ∧ S'.boxes = S.boxes.set b cs
  lp : S'.loops = S.loops
  tk : S'.toks.take st0.toks.length = S.toks.take st0.toks.length
  tl : st0.toks.length ≤ S'.toks.length
  lw : min S.low b ≤ S'.low
  lu : S'.low ≤ S.low
structure RdOK (st0 S : St) (b : Nat) (d : PV) (p : PS) : Prop where
  bx : S.boxes[b]? = some (rdC d p)
  ow : Own st0 S 2 d (p.done.map fV)
  ne : p.done = [] → d = .nils

theorem rd_eq {cs : List PV} (h : S.boxes[b]? = some cs) : S = rdS S.boxes b cs [] S.toks S.loops S.low := by
  obtain ⟨hb, he⟩ := List.getElem?_eq_some_iff.1 h
  have : S.boxes.set b cs = S.boxes := by rw [← he]; simp
  simp [rdS, this]

theorem rd_leave0 {cs : List PV} {T' : List Bool} {f : Int × Int} (hb : b < S.boxes.length) (htl : st0.toks.length ≤ S.toks.length) (hT : T'.take S.toks.length = S.toks) (hcs : cs.length = 5) :
    ∃ S', leave S (rdS S.boxes b cs X T' S.loops S.boxes.length) (flV f) = (flV f, S') ∧ RdStep st0 S S' b ∧ S'.boxes = S.boxes.set b cs ∧ S'.toks = S.toks ∧ S'.low = S.low := by
  refine ⟨⟨S.boxes.set b cs, S.toks, S.loops, S.low⟩, ?_, ⟨⟨cs, hcs, rfl⟩, rfl, rfl, htl, Nat.min_le_left _ _, Nat.le_refl _⟩, rfl, rfl, rfl⟩
  have ht : (S.boxes.set b cs ++ X).take S.boxes.length = S.boxes.set b cs := by rw [List.take_append_of_le_length (by simp)]; exact List.take_of_length_le (by simp)
  simp [leave, rdS, flV, PV.inB, PV.inB.inBAll, keepRes, keepVal, keepCells, keepLeaf, ht, hT]
theorem rd_leave1 {cs : List PV} {T' : List Bool} {f : Int × Int} (hb : b < S.boxes.length) (htl : st0.toks.length ≤ S.toks.length) (hT : T'.take st0.toks.length = S.toks.take st0.toks.length) (hl : st0.toks.length ≤ T'.length) (hcs : cs.length = 5) (hlo : lo ≤ b) (hlo2 : b ≤ lo) :
    ∃ S', leave S (rdS S.boxes b cs X T' S.loops lo) (flV f) = (flV f, S') ∧ RdStep st0 S S' b ∧ S'.boxes = S.boxes.set b cs ∧ S'.toks = T' ∧ S'.low = min S.low b := by
  obtain rfl : lo = b := by omega
  refine ⟨⟨S.boxes.set lo cs, T', S.loops, min S.low lo⟩, ?_, ⟨⟨cs, hcs, rfl⟩, rfl, hT, hl, Nat.le_refl _, Nat.min_le_left _ _⟩, rfl, rfl, rfl⟩
  have ht : (S.boxes.set lo cs ++ X).take S.boxes.length = S.boxes.set lo cs := by rw [List.take_append_of_le_length (by simp)]; exact List.take_of_length_le (by simp)
  have hn : ¬ S.boxes.length ≤ lo := by omega
  simp [leave, rdS, flV, PV.inB, PV.inB.inBAll, ht, hn]

theorem rd_leave {cs : List PV} {T' : List Bool} {f : Int × Int} (hb : b < S.boxes.length) (htl : st0.toks.length ≤ S.toks.length) (hT : T'.take st0.toks.length = S.toks.take st0.toks.length) (hl : st0.toks.length ≤ T'.length) (hcs : cs.length = 5) (h1 : b ≤ lo) (h2 : lo ≤ S.boxes.length) :
    ∃ S', leave S (rdS S.boxes b cs X T' S.loops lo) (flV f) = (flV f, S') ∧ RdStep st0 S S' b ∧ S'.boxes = S.boxes.set b cs ∧
      ((S'.toks = T'.take S.toks.length ∧ S'.low = S.low ∧ lo = S.boxes.length) ∨ (S'.toks = T' ∧ S'.low = min S.low lo ∧ lo < S.boxes.length)) := by
  have ht : (S.boxes.set b cs ++ X).take S.boxes.length = S.boxes.set b cs := by rw [List.take_append_of_le_length (by simp)]; exact List.take_of_length_le (by simp)
  by_cases hlo : lo = S.boxes.length
  · subst hlo
    refine ⟨⟨S.boxes.set b cs, T'.take S.toks.length, S.loops, S.low⟩, ?_, ⟨⟨cs, hcs, rfl⟩, rfl, ?_, ?_, Nat.min_le_left _ _, Nat.le_refl _⟩, rfl, .inl ⟨rfl, rfl, rfl⟩⟩
    · simp [leave, rdS, flV, PV.inB, PV.inB.inBAll, keepRes, keepVal, keepCells, keepLeaf, ht]
    · show (T'.take S.toks.length).take st0.toks.length = _
      rw [List.take_take, Nat.min_eq_left htl]; exact hT
    · show st0.toks.length ≤ (T'.take S.toks.length).length
      simp; omega
  · have hn : ¬ S.boxes.length ≤ lo := by omega
    refine ⟨⟨S.boxes.set b cs, T', S.loops, min S.low lo⟩, ?_, ⟨⟨cs, hcs, rfl⟩, rfl, hT, hl, ?_, Nat.min_le_left _ _⟩, rfl, .inr ⟨rfl, rfl, by omega⟩⟩
    · simp [leave, rdS, flV, PV.inB, PV.inB.inBAll, ht, hn]
    · show min S.low b ≤ min S.low lo
      omega

theorem lit_f {a b : List UInt8} : litFill 2 (List.replicate 1 (.agg [.str [], .str []])) [(0, .agg [.str a, .str b])] = some [fV (a, b)] := rfl
def shutF (p : PS) : Int × Int := match shutP p with | none => ((p.pos : Int), 50) | some _ => (0, 0)

theorem Own.take {st s s' : St} {esz : Nat} {v : PV} {xs : List PV} (h : Own st s esz v xs) (ht : ∀ i, tokOf v = some i → s'.toks[i]? = s.toks[i]?) : Own st s' esz v xs := by
  rcases h with h | ⟨i, h1, h2, h3⟩
  · exact .inl h
  · exact .inr ⟨i, h1, h2, by rw [ht i (by rw [h1]; rfl)]; exact h3⟩
theorem len_own2 {st s : St} {v : PV} {xs : List PV} (h : Own st s 2 v xs) : lenPV false v = some (.int .i64 (xs.length : Int)) := by
  rcases h with ⟨rfl, rfl⟩ | ⟨i, rfl, _⟩ <;> rfl

theorem shut_spec {p : PS} (h : RdOK st0 S b d p) (htl : st0.toks.length ≤ S.toks.length) (hT : S.toks.take st0.toks.length = st0.toks) (hv : p.fld.2.length ≤ 100000000) (hd : p.done.length ≤ 100000000) :
    ∃ S', call prog (.fn 165 []) [.ptr b 0] S = some (flV (shutF p), S') ∧ RdStep st0 S S' b ∧ ∀ p', shutP p = some p' → ∃ d', RdOK st0 S' b d' p' ∧ (d' = d ∨ S'.low ≤ b) := by
  obtain ⟨hbx, how, hne⟩ := h
  have hb := (List.getElem?_eq_some_iff.1 hbx).1
  have hS : ({ S with low := S.boxes.length } : St) = rdS S.boxes b (rdC d p) [] S.toks S.loops S.boxes.length := by
    have := rd_eq hbx
    rw [rdS] at this
    have h2 : S.boxes = S.boxes.set b (rdC d p) ++ [] := congrArg St.boxes this
    simp only [rdS]; rw [← h2]
  obtain ⟨⟨dn, ⟨n, v⟩, pos, op⟩, hp⟩ : ∃ q, q = p := ⟨p, rfl⟩
  subst hp
  simp only [rdC] at hS hbx how hv hd hne
  cases op with
  | false =>
    -- nothing is read
    have hs : shutP ⟨dn, (n, v), pos, false⟩ = some ⟨dn, (n, v), pos, false⟩ := rfl
    have hf : shutF ⟨dn, (n, v), pos, false⟩ = (0, 0) := rfl
    obtain ⟨S', h1, h2, h3, h4, h5⟩ := rd_leave0 (st0 := st0) (S := S) (b := b) (X := [[.int .i64 0, .int .i64 0]]) (T' := S.toks) (f := (0, 0)) (cs := [d, .str n, .str v, .int .i64 (pos : Int), .bool false]) hb htl (by simp) rfl
    refine ⟨S', call_of_W prog_165 ?_, h2, fun p' hp' => ?_⟩
    · rw [hS]
      unfold F_P_fields_reader_shut; dsimp only
      simp (maxSteps := 1000000) (disch := omega) only [rd_alloc, List.length_nil, Nat.add_zero, Nat.zero_add, List.nil_append, faP, rd_ld4 hb, buildCells, rd_x0 (y := []), qaaz, qabz, qacz, qaiz, qajz, qalz, evOp, qaoz, qarz, qatz, qauz, qavz,
 ↓reduceIte, Nat.reduceEqDiff, List.nil_append, List.append_nil, List.map_nil, qawz, Option.map_some, qazz, qbaz, qbhz, qblz, qcfz, qckz, reduceCtorEq, Bool.not_false]
      exact ⟨flV (0, 0), rd_res rfl, by rw [hf]; exact h1⟩
    · rw [hs] at hp'
      cases hp'
      exact ⟨d, ⟨by rw [h3]; simp [hb, rdC], how.take (fun i _ => by rw [h4]), hne⟩, .inl rfl⟩
  | true =>
    have hcall : ∀ S : St, call prog (.fn 168 []) [.str v] S = some (.str (trimOf v), S) := fun S => trim_spec hv
    have hval : ∀ S : St, call prog (.fn 158 []) [.str (trimOf v)] S = some (.bool (valB (trimOf v)), S) := fun S => isValue_spec (by have := trimOf_len (l := v); omega)
    have hlen := len_own2 how
    rw [List.length_map] at hlen
    have bad : shutP ⟨dn, (n, v), pos, true⟩ = none → ∃ S', (∀ rv, rv = flV ((pos : Int), 50) → leave S (rdS S.boxes b [d, .str n, .str (trimOf v), .int .i64 (pos : Int), .bool false] [[.int .i64 (pos : Int), .int .i64 50]] S.toks S.loops S.boxes.length) rv = (flV (shutF ⟨dn, (n, v), pos, true⟩), S')) ∧ RdStep st0 S S' b ∧ ∀ p', shutP ⟨dn, (n, v), pos, true⟩ = some p' → ∃ d', RdOK st0 S' b d' p' ∧ (d' = d ∨ S'.low ≤ b) := by
      intro hs
      obtain ⟨S', h1, h2, h3, h4, h5⟩ := rd_leave0 (st0 := st0) (S := S) (b := b) (X := [[.int .i64 (pos : Int), .int .i64 50]]) (T' := S.toks) (f := ((pos : Int), 50)) (cs := [d, .str n, .str (trimOf v), .int .i64 (pos : Int), .bool false]) hb htl (by simp) rfl
      exact ⟨S', fun rv hrv => by rw [hrv]; simp only [shutF, hs]; exact h1, h2, fun p' hp' => by rw [hs] at hp'; cases hp'⟩
    cases q1 : valB (trimOf v) with
    | false =>
      rw [q1] at hval
      obtain ⟨S', h1, h2, h3⟩ := bad (by simp [shutP, q1])
      refine ⟨S', call_of_W prog_165 ?_, h2, h3⟩
      rw [hS]
      unfold F_P_fields_reader_shut; dsimp only
      simp (maxSteps := 1000000) (disch := omega) only [rd_alloc, List.length_nil, Nat.add_zero, Nat.zero_add, Nat.reduceAdd, List.nil_append, faP, rd_ld4 hb, rd_ld2 hb, rd_ld3 hb, rd_st4 hb, rd_st2 hb, hcall, hval, build2 Leaf_int Leaf_int, rd_x0 (y := []), qaaz, qabz, qacz, qaez, qaiz, qajz, qakz, qalz, qamz, qanz, evOp, qaoz, qapz, qaqz, qarz, qatz, qauz, qavz,
 ↓reduceIte, Nat.reduceEqDiff, List.nil_append, List.append_nil, List.map_cons, List.map_nil, qawz, Option.map_some, qazz, qbaz, qbhz, qblz, qcfz, beq_false, Bool.false_eq_true, qckz, reduceCtorEq, Bool.not_true, Bool.not_false]
      exact ⟨flV ((pos : Int), 50), rd_res rfl, h1 _ rfl⟩
    | true =>
      rw [q1] at hval
      by_cases q2 : dn.length < 128
      · have e2 : ¬ (128 : Int) ≤ (dn.length : Int) := by omega
        have hs : shutP ⟨dn, (n, v), pos, true⟩ = some ⟨dn ++ [(n, trimOf v)], (n, trimOf v), pos, false⟩ := by simp [shutP, q1, q2]
        have hf : shutF ⟨dn, (n, v), pos, true⟩ = (0, 0) := by simp [shutF, hs]
        -- the append
        obtain ⟨s2, hs2⟩ : ∃ s2, s2 = (rdS S.boxes b [d, .str n, .str (trimOf v), .int .i64 (pos : Int), .bool false] [[.int .i64 0, .int .i64 0]] S.toks S.loops S.boxes.length : St).tok1 := ⟨_, rfl⟩
        have how2 : Own st0 s2 2 d (dn.map fV) := by rw [hs2]; exact Own.tok1 (how.take (fun i _ => rfl))
        have hg2 : GrewAt s2.boxes st0.toks S.loops S.boxes.length s2 := ⟨rfl, by rw [hs2]; rfl, by rw [hs2]; rfl, by
          rw [hs2]
          show (S.toks ++ [true]).take st0.toks.length = st0.toks
          rw [List.take_append_of_le_length htl]; exact hT⟩
        have happ := appV_own (u := fV (n, trimOf v)) (t := .own S.toks.length) how2 (by simp only [List.length_map, room]; omega)
        obtain ⟨g3, o3⟩ := Own.app (ys := dn.map fV ++ [fV (n, trimOf v)]) hg2 how2
        have hsl : s2.toks.length = S.toks.length + 1 := by rw [hs2]; simp [St.tok1, rdS]
        obtain ⟨T3, hT3⟩ : ∃ T3, T3 = (appS s2 d).toks := ⟨_, rfl⟩
        have hs3 : appS s2 d = rdS S.boxes b [d, .str n, .str (trimOf v), .int .i64 (pos : Int), .bool false] [[.int .i64 0, .int .i64 0]] T3 S.loops S.boxes.length := by
          have b3 := g3.bx; have l3 := g3.lp; have w3 := g3.lw
          obtain ⟨⟨bb, tt, ll, ww⟩, hq⟩ : ∃ q, q = appS s2 d := ⟨_, rfl⟩
          rw [← hq] at b3 l3 w3 hT3 ⊢
          simp only at b3 l3 w3 hT3
          rw [b3, l3, w3, hT3, hs2]; rfl
        rw [hs3, hsl] at happ o3
        have hT3t : T3.take st0.toks.length = st0.toks := by rw [hT3]; exact g3.tk
        have hT3l : st0.toks.length ≤ T3.length := by rw [hT3]; exact g3.len
        obtain ⟨S', h1, h2, h3, h4, h5⟩ := rd_leave1 (st0 := st0) (S := S) (b := b) (X := [[.int .i64 0, .int .i64 0]]) (T' := T3) (lo := min S.boxes.length b) (f := (0, 0)) (cs := [.sl 2 (.own (S.toks.length + 1)) (dn.map fV ++ [fV (n, trimOf v)]), .str n, .str (trimOf v), .int .i64 (pos : Int), .bool false]) hb htl (by rw [hT3t, hT]) hT3l rfl (by omega) (by omega)
        refine ⟨S', call_of_W prog_165 ?_, h2, fun p' hp' => ?_⟩
        · rw [hS]
          unfold F_P_fields_reader_shut; dsimp only
          have hfr : freshT (rdS S.boxes b [d, .str n, .str (trimOf v), .int .i64 (pos : Int), .bool false] [[.int .i64 0, .int .i64 0]] S.toks S.loops S.boxes.length) = (.own S.toks.length, s2) := by rw [hs2]; rfl
          simp (maxSteps := 1000000) (disch := omega) only [rd_alloc, List.length_nil, Nat.add_zero, Nat.zero_add, Nat.reduceAdd, List.nil_append, faP, rd_ld4 hb, rd_ld2 hb, rd_ld0 hb, rd_ldf hb, rd_st4 hb, rd_st2 hb, rd_st0 hb, hcall, hval, hlen, e2, lit_f, hfr, happ, buildCells, rd_x0 (y := []), qaaz, qabz, qacz, qaez, qaiz, qajz, qakz, qalz, qamz, qanz, evOp, qaoz, qapz, qaqz, qarz, qatz, qauz, qavz,
 ↓reduceIte, Nat.reduceEqDiff, List.nil_append, List.append_nil, List.map_cons, List.map_nil, qawz, Option.map_some, qazz, qbhz, qblz, qbsz, qcfz, beq_false, decide_false,
 Bool.false_eq_true, qckz, reduceCtorEq, Bool.not_true, Bool.not_false]
          exact ⟨flV (0, 0), rd_res rfl, by rw [hf]; exact h1⟩
        · rw [hs] at hp'
          cases hp'
          refine ⟨.sl 2 (.own (S.toks.length + 1)) (dn.map fV ++ [fV (n, trimOf v)]), ⟨by rw [h3]; simp [hb, rdC], ?_, fun h => by simp at h⟩, .inr (by rw [h5]; omega)⟩
          have := o3.take (s' := S') (fun i _ => by rw [h4]; rfl)
          simpa using this
      · have e2 : (128 : Int) ≤ (dn.length : Int) := by omega
        obtain ⟨S', h1, h2, h3⟩ := bad (by simp [shutP, q2])
        refine ⟨S', call_of_W prog_165 ?_, h2, h3⟩
        rw [hS]
        unfold F_P_fields_reader_shut; dsimp only
        simp (maxSteps := 1000000) (disch := omega) only [rd_alloc, List.length_nil, Nat.add_zero, Nat.zero_add, Nat.reduceAdd, List.nil_append, faP, rd_ld4 hb, rd_ld2 hb, rd_ld3 hb, rd_ld0 hb, rd_st4 hb, rd_st2 hb, hcall, hval, hlen, e2, build2 Leaf_int Leaf_int, rd_x0 (y := []), qaaz, qabz, qacz, qaez, qaiz, qajz, qakz, qalz, qamz, qanz, evOp, qaoz, qapz, qaqz, qarz, qatz, qauz, qavz,
 ↓reduceIte, Nat.reduceEqDiff, List.nil_append, List.append_nil, List.map_cons, List.map_nil, qawz, Option.map_some, qazz, qbaz, qbhz, qblz, qbsz, qcfz, beq_false, decide_true, Bool.false_eq_true, qckz, reduceCtorEq, Bool.not_true, Bool.not_false]
        exact ⟨flV ((pos : Int), 50), rd_res rfl, h1 _ rfl⟩
end Go.Ab
/-
  A line of a header is taken.
-/
namespace Go.Ab
variable {st st0 S : St} {e : Env} {b : Nat} {d : PV}
variable {B X : List (List PV)} {T : List Bool} {L : List LoopS} {lo : Nat} {c0 c1 c2 c3 c4 v : PV}

def lineF (p : PS) (a : Nat) (s : List UInt8) : Int × Int := match lineP p a s with | .error q => ((q : Int), 50) | .ok _ => (0, 0)

theorem RdStep.refl (htl : st0.toks.length ≤ S.toks.length) {cs : List PV} (hcs : cs.length = 5) (h : S.boxes[b]? = some cs) : RdStep st0 S S b :=
  ⟨⟨cs, hcs, by obtain ⟨q, r⟩ := List.getElem?_eq_some_iff.1 h; rw [← r]; simp⟩, rfl, rfl, htl, Nat.min_le_left _ _, Nat.le_refl _⟩

theorem rd_in {p : PS} (h : S.boxes[b]? = some (rdC d p)) : ({ S with low := S.boxes.length } : St) = rdS S.boxes b (rdC d p) [] S.toks S.loops S.boxes.length := by
  have := rd_eq h
  rw [rdS] at this
  have h2 : S.boxes = S.boxes.set b (rdC d p) ++ [] := congrArg St.boxes this
  simp only [rdS]; rw [← h2]
theorem rd_frame {cs z c : List PV} {S2 : St} (hb : b < B.length) (hs : RdStep st0 (rdS B b cs [z] T L lo) S2 b) (hcs : S2.boxes[b]? = some c) : S2 = rdS B b c [z] S2.toks L S2.low := by
  obtain ⟨⟨cs2, h5, hbx⟩, hlp, _, _, _, _⟩ := hs
  have hset : (rdS B b cs [z] T L lo).boxes.set b cs2 = B.set b cs2 ++ [z] := rd_set hb
  rw [hset] at hbx
  have : cs2 = c := by
    rw [hbx, rd_get hb] at hcs
    exact Option.some.inj hcs
  subst this
  obtain ⟨bb, tt, ll, ww⟩ := S2
  simp only [rdS] at hbx hlp ⊢
  rw [hbx, hlp]
theorem getD_idx {s : List UInt8} (h : s ≠ []) : idxSPV (.str s) (.int .i64 0) = some (.b8 (s.getD 0 0)) := by
  have := List.length_pos_iff.2 h
  have := idx_s (l := s) (k := .i64) (c := 0) (by omega) (by simpa using this)
  simpa using this

theorem pline_spec {p : PS} {a : Nat} {s : List UInt8} (h : RdOK st0 S b d p) (htl : st0.toks.length ≤ S.toks.length) (hT : S.toks.take st0.toks.length = st0.toks) (hv : p.fld.2.length ≤ 100000000) (hd : p.done.length ≤ 100000000)
    (hs0 : s ≠ []) (hsl : s.length ≤ 100000000) :
    ∃ S', call prog (.fn 166 []) [.ptr b 0, .int .i64 (a : Int), .str s] S = some (flV (lineF p a s), S') ∧ RdStep st0 S S' b ∧ ∀ p', lineP p a s = .ok p' → ∃ d', RdOK st0 S' b d' p' ∧ (d' = d ∨ S'.low ≤ b) := by
  have hbx := h.bx
  have hb := (List.getElem?_eq_some_iff.1 hbx).1
  have hS := rd_in hbx
  obtain ⟨c, hc⟩ : ∃ c, c = s.getD 0 0 := ⟨_, rfl⟩
  have hi := getD_idx hs0
  rw [← hc] at hi
  by_cases hbk : blankC c = true
  · -- more of a field
    have hcond : ∀ ek, (binPV .eql ek (.b8 c) (.b8 32) = some (.bool true)) ∨ (binPV .eql ek (.b8 c) (.b8 32) = some (.bool false) ∧ c = 9) := fun ek => by
      by_cases q : c = 32
      · left; rw [qbvz]; simp [q]
      · right; rw [qbvz]
        refine ⟨by simp [q], ?_⟩
        simp only [blankC, Bool.or_eq_true, decide_eq_true_eq] at hbk
        rcases hbk with h | h
        · exact absurd h q
        · exact h
    cases hop : p.op with
    | false =>
      have hl : lineP p a s = .error a := by unfold lineP; rw [← hc, if_pos hbk, hop]; rfl
      have hlf : lineF p a s = ((a : Int), 50) := by simp [lineF, hl]
      obtain ⟨S', h1, h2, h3, h4, h5⟩ := rd_leave0 (st0 := st0) (S := S) (b := b) (X := [[.int .i64 (a : Int), .int .i64 50]]) (T' := S.toks) (f := ((a : Int), 50)) (cs := rdC d p) hb htl (by simp) rfl
      refine ⟨S', call_of_W prog_166 ?_, h2, fun p' hp' => by rw [hl] at hp'; cases hp'⟩
      rw [hS, hlf]
      simp only [rdC, hop] at h1 ⊢
      unfold F_P_fields_reader_line; dsimp only
      have hbk2 : (if decide (c = 32) then PV.bool true else PV.bool (decide (c = 9))) = .bool true := by
        simp only [blankC, Bool.or_eq_true, decide_eq_true_eq] at hbk
        rcases hbk with h | h <;> simp [h]
      by_cases q : c = 32
      · simp (maxSteps := 1000000) (disch := omega) only [rd_alloc, List.length_nil, Nat.add_zero, Nat.zero_add, List.nil_append, hi, eq_true q, faP, rd_ld4 hb, build2 Leaf_int Leaf_int, rd_x0 (y := []), qaaz, qabz, qacz, qaiz, qajz, qakz, qalz, qamz, qanz, evOp, qaoz, qapz, qarz, qatz, qauz, qavz,
 ↓reduceIte, Nat.reduceEqDiff, List.nil_append, List.append_nil, List.map_cons, List.map_nil, qawz, qaxz, Option.map_some, qazz, qbaz, qbhz, qblz, qbvz, qcfz, beq_false, decide_true, Bool.false_eq_true, qckz, reduceCtorEq, Bool.not_true, Bool.not_false]
        exact ⟨flV ((a : Int), 50), rd_res rfl, h1⟩
      · have q9 : c = 9 := by
          simp only [blankC, Bool.or_eq_true, decide_eq_true_eq] at hbk
          exact hbk.resolve_left q
        simp (maxSteps := 1000000) (disch := omega) only [rd_alloc, List.length_nil, Nat.add_zero, Nat.zero_add, List.nil_append, hi, q, eq_true q9, faP, rd_ld4 hb, build2 Leaf_int Leaf_int, rd_x0 (y := []), qaaz, qabz, qacz, qaiz, qajz, qakz, qalz, qamz, qanz, evOp, qaoz, qapz, qarz, qatz, qauz, qavz,
 ↓reduceIte, Nat.reduceEqDiff, List.nil_append, List.append_nil, List.map_cons, List.map_nil, qawz, qaxz, Option.map_some, qazz, qbaz, qbhz, qblz, qbvz, qcfz, beq_false, decide_true, decide_false,
 Bool.false_eq_true, qckz, reduceCtorEq, Bool.not_false]
        exact ⟨flV ((a : Int), 50), rd_res rfl, h1⟩
    | true =>
      have hl : lineP p a s = .ok ⟨p.done, (p.fld.1, p.fld.2 ++ s), p.pos, true⟩ := by unfold lineP; rw [← hc, if_pos hbk, hop]; rfl
      have hlf : lineF p a s = (0, 0) := by simp [lineF, hl]
      obtain ⟨S', h1, h2, h3, h4, h5⟩ := rd_leave0 (st0 := st0) (S := S) (b := b) (X := [[.int .i64 0, .int .i64 0]]) (T' := S.toks) (f := (0, 0)) (cs := rdC d ⟨p.done, (p.fld.1, p.fld.2 ++ s), p.pos, true⟩) hb htl (by simp) rfl
      refine ⟨S', call_of_W prog_166 ?_, h2, fun p' hp' => ?_⟩
      · rw [hS, hlf]
        simp only [rdC, hop] at h1 ⊢
        unfold F_P_fields_reader_line; dsimp only
        have hadd : ∀ ek, binPV .add ek (.str p.fld.2) (.str s) = some (.str (p.fld.2 ++ s)) := fun ek => adds (by omega)
        by_cases q : c = 32
        · simp (maxSteps := 1000000) (disch := omega) only [rd_alloc, List.length_nil, Nat.add_zero, Nat.zero_add, Nat.reduceAdd, List.nil_append, hi, eq_true q, faP, rd_ld4 hb, rd_ld2 hb, rd_st2 hb, hadd, buildCells, rd_x0 (y := []), qaaz, qabz, qacz, qaez, qaiz, qajz, qakz, qalz, qamz, qanz, evOp, qaoz, qapz, qarz, qatz, qauz, qavz,
 ↓reduceIte, Nat.reduceEqDiff, List.nil_append, List.append_nil, List.map_nil, qawz, qaxz, Option.map_some, qazz, qbaz, qbhz, qblz, qbvz, qcfz, beq_false, decide_true, Bool.false_eq_true, qckz, reduceCtorEq, Bool.not_true]
          exact ⟨flV (0, 0), rd_res rfl, h1⟩
        · have q9 : c = 9 := by
            simp only [blankC, Bool.or_eq_true, decide_eq_true_eq] at hbk
            exact hbk.resolve_left q
          simp (maxSteps := 1000000) (disch := omega) only [rd_alloc, List.length_nil, Nat.add_zero, Nat.zero_add, Nat.reduceAdd, List.nil_append, hi, q, eq_true q9, faP, rd_ld4 hb, rd_ld2 hb, rd_st2 hb, hadd, buildCells, rd_x0 (y := []), qaaz, qabz, qacz, qaez, qaiz, qajz, qakz, qalz, qamz, qanz, evOp, qaoz, qapz, qarz, qatz, qauz, qavz,
 ↓reduceIte, Nat.reduceEqDiff, List.nil_append, List.append_nil, List.map_nil, qawz, qaxz, Option.map_some, qazz, qbaz, qbhz, qblz, qbvz, qcfz, beq_false, decide_true, decide_false,
 Bool.false_eq_true, qckz, reduceCtorEq, Bool.not_true, Bool.not_false]
          exact ⟨flV (0, 0), rd_res rfl, h1⟩
      · rw [hl] at hp'
        cases hp'
        exact ⟨d, ⟨by rw [h3]; simp [hb], h.ow.take (fun i _ => by rw [h4]), h.ne⟩, .inl rfl⟩
  · -- a new field
    have q1 : ¬ c = 32 := fun hq => hbk (by simp [blankC, hq])
    have q2 : ¬ c = 9 := fun hq => hbk (by simp [blankC, hq])
    have hbk' : blankC (s.getD 0 0) = false := by rw [← hc]; simpa using hbk
    -- the state in which shut is called
    obtain ⟨S1, hS1⟩ : ∃ S1, S1 = rdS S.boxes b (rdC d p) [[.int .i64 0, .int .i64 0]] S.toks S.loops S.boxes.length := ⟨_, rfl⟩
    have hOK1 : RdOK st0 S1 b d p := ⟨by rw [hS1]; exact rd_get hb, by rw [hS1]; exact h.ow.take (fun i _ => rfl), h.ne⟩
    obtain ⟨S2, k1, k2, k3⟩ := shut_spec hOK1 (by rw [hS1]; exact htl) (by rw [hS1]; exact hT) hv hd
    rw [hS1] at k2
    have hlow2 : b ≤ S2.low ∧ S2.low ≤ S.boxes.length := by
      have q1 := k2.lw; have q2 := k2.lu
      simp only [rdS] at q1 q2
      omega
    have htk2 := k2.tk
    have htl2 := k2.tl
    simp only [rdS] at htk2
    -- what is left behind the whole, with a reader as it was behind shut
    have out : ∀ (cs : List PV) (f : Int × Int) (Y : List (List PV)), cs.length = 5 → ∃ S', leave S (rdS S.boxes b cs Y S2.toks S.loops S2.low) (flV f) = (flV f, S') ∧ RdStep st0 S S' b ∧ S'.boxes = S.boxes.set b cs ∧
        ∀ (d' : PV) (xs : List PV), Own st0 S2 2 d' xs → (d' = d ∨ S2.low ≤ b) → Own st0 S' 2 d' xs ∧ (d' = d ∨ S'.low ≤ b) := by
      intro cs f Y hcs
      obtain ⟨S', h1, h2, h3, h4⟩ := rd_leave (st0 := st0) (S := S) (b := b) (X := Y) (T' := S2.toks) (f := f) (lo := S2.low) hb htl htk2 htl2 hcs hlow2.1 hlow2.2
      refine ⟨S', h1, h2, h3, fun d' xs ho hdd => ?_⟩
      rcases h4 with ⟨g1, g2, g3⟩ | ⟨g1, g2, g3⟩
      · have hdd2 : d' = d := by
          rcases hdd with h | h
          · exact h
          · omega
        subst hdd2
        refine ⟨ho.take (fun i hi => ?_), .inl rfl⟩
        rw [g1, List.getElem?_take, if_pos]
        rcases h.ow with ⟨h, _⟩ | ⟨j, hj, _, hj2⟩
        · rw [h] at hi; cases hi
        · rw [hj] at hi
          simp only [tokOf, Option.some.injEq] at hi
          subst hi
          exact (List.getElem?_eq_some_iff.1 hj2).1
      · refine ⟨ho.take (fun i hi => by rw [g1]), ?_⟩
        rcases hdd with h | h
        · exact .inl h
        · right; rw [g2]; omega
    have hcut : ∀ S : St, call prog (.fn 128 []) [.str s, .str [58]] S = some (cutAt s [58], S) := fun S => Cut_spec (by omega) (by simp)
    cases hsh : shutP p with
    | none =>
      have hl : lineP p a s = .error p.pos := by simp only [lineP, hbk', hsh]; rfl
      have hlf : lineF p a s = ((p.pos : Int), 50) := by simp [lineF, hl]
      have hsf : shutF p = ((p.pos : Int), 50) := by simp [shutF, hsh]
      obtain ⟨⟨cs2, hcs2, hbx2⟩, hlp2, _, _, _, _⟩ := k2
      have hset : (rdS S.boxes b (rdC d p) [[.int .i64 0, .int .i64 0]] S.toks S.loops S.boxes.length).boxes.set b cs2 = S.boxes.set b cs2 ++ [[.int .i64 0, .int .i64 0]] := rd_set hb
      have hS2 : S2 = rdS S.boxes b cs2 [[.int .i64 0, .int .i64 0]] S2.toks S.loops S2.low := by
        obtain ⟨bb, tt, ll, ww⟩ := S2
        simp only [rdS] at hbx2 hlp2 ⊢
        rw [hbx2, hlp2]
        congr 1
      rw [hsf, hS1] at k1
      obtain ⟨T2, hT2⟩ : ∃ T2, T2 = S2.toks := ⟨_, rfl⟩
      obtain ⟨lo2, hlo2⟩ : ∃ lo2, lo2 = S2.low := ⟨_, rfl⟩
      rw [← hT2, ← hlo2] at hS2
      obtain ⟨S', h1, h2, h3, -⟩ := out cs2 ((p.pos : Int), 50) ([.int .i64 (p.pos : Int), .int .i64 50] :: [[.int .i64 (p.pos : Int), .int .i64 50]]) hcs2
      rw [← hT2, ← hlo2] at h1
      refine ⟨S', call_of_W prog_166 ?_, h2, fun p' hp' => by rw [hl] at hp'; cases hp'⟩
      rw [hS, hlf]
      unfold F_P_fields_reader_line; dsimp only
      rw [hS2] at k1
      have hld : ∀ {n m : Int} {ys : List (List PV)}, loadPV (rdS S.boxes b cs2 ([.int .i64 0, .int .i64 0] :: [.int .i64 n, .int .i64 m] :: ys) T2 S.loops lo2) false 1 (.ptr (S.boxes.length + 1) 1) = some (.int .i64 m) := rd_lx1
      simp (maxSteps := 1000000) (disch := omega) only [rd_alloc, List.length_nil, List.length_cons, Nat.add_zero, Nat.zero_add, List.nil_append, List.cons_append, hi, q1, q2, k1, flV, rd_x1, rd_x0 (y := []), faP, rd_lx1, rd_lx1a, qaaz, qabz, qacz, qaez, qaiz, qajz, qakz, qalz, qamz, qanz, evOp, qaoz, qapz, qaqz, qarz, qatz, qauz, qavz,
 ↓reduceIte, Nat.reduceEqDiff, List.nil_append, List.cons_append, List.append_nil, List.map_cons, List.map_nil, qawz, qaxz, Option.map_some, qazz, qbaz, qbhz, qblz, qbuz, qbvz, beq_false, decide_true, decide_false,
 Bool.false_eq_true, reduceCtorEq, Bool.not_false, ne_eq, Int.reduceEq, not_false_eq_true]
      exact ⟨flV ((p.pos : Int), 50), rd_res rfl, h1⟩
    | some p' =>
      obtain ⟨d', hOK2, hdd⟩ := k3 p' hsh
      have hsf : shutF p = (0, 0) := by simp [shutF, hsh]
      have hS2 := rd_frame hb k2 hOK2.bx
      rw [hsf, hS1] at k1
      obtain ⟨T2, hT2⟩ : ∃ T2, T2 = S2.toks := ⟨_, rfl⟩
      obtain ⟨lo2, hlo2⟩ : ∃ lo2, lo2 = S2.low := ⟨_, rfl⟩
      rw [← hT2, ← hlo2] at hS2
      rw [hS2] at k1
      by_cases hc58 : 0 ≤ Lib.index s [58]
      · obtain ⟨k, hk⟩ : ∃ k : Nat, Lib.index s [58] = (k : Int) := ⟨(Lib.index s [58]).toNat, by omega⟩
        have hcutv : cutAt s [58] = .tup [.str (s.take k), .str (s.drop (k + 1)), .bool true] := by
          unfold cutAt; rw [if_pos hc58, hk]; rfl
        have hnm : ∀ S : St, call prog (.fn 157 []) [.str (s.take k)] S = some (.bool (nameB (s.take k)), S) := fun S => isName_spec
        rw [hcutv] at hcut
        cases hnb : nameB (s.take k) with
        | true =>
          have hl : lineP p a s = .ok ⟨p'.done, (s.take k, s.drop (k + 1)), a, true⟩ := by
            simp only [lineP, hbk', hsh, hk, Int.toNat_natCast]
            rw [if_neg (by simp), if_pos ⟨by omega, hnb⟩]
          have hlf : lineF p a s = (0, 0) := by simp [lineF, hl]
          rw [hnb] at hnm
          obtain ⟨S', h1, h2, h3, h4⟩ := out (rdC d' ⟨p'.done, (s.take k, s.drop (k + 1)), a, true⟩) (0, 0) ([.int .i64 0, .int .i64 0] :: [[.int .i64 0, .int .i64 0]]) rfl
          rw [← hT2, ← hlo2] at h1
          refine ⟨S', call_of_W prog_166 ?_, h2, fun p2 hp2 => ?_⟩
          · rw [hS, hlf]
            unfold F_P_fields_reader_line; dsimp only
            simp only [rdC] at k1 h1 ⊢
            simp (maxSteps := 1000000) (disch := omega) only [rd_alloc, List.length_nil, List.length_cons, Nat.add_zero, Nat.zero_add, List.nil_append, List.cons_append, hi, q1, q2, k1, flV, rd_x1, rd_x0 (y := []), faP, rd_lx1, hcut, hnm, build2 Leaf_str Leaf_str, rd_stf hb, rd_st3 hb, rd_st4 hb, buildCells, qaaz, qabz, qacz, qaez, qaiz, qajz, qakz, qalz, qamz, qanz, evOp, qaoz, qapz, qaqz, qarz, qatz, qauz, qavz,
 ↓reduceIte, Nat.reduceEqDiff, List.nil_append, List.cons_append, List.append_nil, List.map_cons, List.map_nil, qawz, qaxz, Option.map_some, qazz, qbhz, qblz, qbuz, qbvz, qcfz, beq_false, decide_false,
 Bool.false_eq_true, qcjz, List.getElem?_cons_zero, List.getElem?_cons_succ, qckz, reduceCtorEq, Bool.not_true, Bool.not_false, ne_eq, not_true_eq_false]
            exact ⟨flV (0, 0), rd_res rfl, h1⟩
          · rw [hl] at hp2
            cases hp2
            obtain ⟨g1, g2⟩ := h4 d' (p'.done.map fV) hOK2.ow hdd
            exact ⟨d', ⟨by rw [h3]; simp [hb], g1, hOK2.ne⟩, g2⟩
        | false =>
          have hl : lineP p a s = .error a := by
            simp only [lineP, hbk', hsh, hk, Int.toNat_natCast]
            rw [if_neg (by simp), if_neg (by simp [hnb])]
          have hlf : lineF p a s = ((a : Int), 50) := by simp [lineF, hl]
          rw [hnb] at hnm
          obtain ⟨S', h1, h2, h3, h4⟩ := out (rdC d' p') ((a : Int), 50) ([.int .i64 (a : Int), .int .i64 50] :: [[.int .i64 0, .int .i64 0]]) rfl
          rw [← hT2, ← hlo2] at h1
          refine ⟨S', call_of_W prog_166 ?_, h2, fun p2 hp2 => by rw [hl] at hp2; cases hp2⟩
          rw [hS, hlf]
          unfold F_P_fields_reader_line; dsimp only
          simp (maxSteps := 1000000) (disch := omega) only [rd_alloc, List.length_nil, List.length_cons, Nat.add_zero, Nat.zero_add, List.nil_append, List.cons_append, hi, q1, q2, k1, flV, rd_x1, rd_x0 (y := []), faP, rd_lx1, hcut, hnm, build2 Leaf_int Leaf_int, qaaz, qabz, qacz, qaez, qaiz, qajz, qakz, qalz, qamz, qanz, evOp, qaoz, qapz, qaqz, qarz, qatz, qauz, qavz,
 ↓reduceIte, Nat.reduceEqDiff, List.nil_append, List.cons_append, List.append_nil, List.map_cons, List.map_nil, qawz, qaxz, Option.map_some, qazz, qbaz, qbhz, qblz, qbuz, qbvz, qcfz, beq_false, decide_false,
 Bool.false_eq_true, qcjz, List.getElem?_cons_zero, List.getElem?_cons_succ, reduceCtorEq, Bool.not_true, Bool.not_false, ne_eq, not_true_eq_false]
          exact ⟨flV ((a : Int), 50), rd_res rfl, h1⟩
      · have hcutv : cutAt s [58] = .tup [.str s, .str [], .bool false] := by unfold cutAt; rw [if_neg hc58]
        rw [hcutv] at hcut
        have hl : lineP p a s = .error a := by
          simp only [lineP, hbk', hsh]
          rw [if_neg (by simp), if_neg (by simp [hc58])]
        have hlf : lineF p a s = ((a : Int), 50) := by simp [lineF, hl]
        obtain ⟨S', h1, h2, h3, h4⟩ := out (rdC d' p') ((a : Int), 50) ([.int .i64 (a : Int), .int .i64 50] :: [[.int .i64 0, .int .i64 0]]) rfl
        rw [← hT2, ← hlo2] at h1
        refine ⟨S', call_of_W prog_166 ?_, h2, fun p2 hp2 => by rw [hl] at hp2; cases hp2⟩
        rw [hS, hlf]
        unfold F_P_fields_reader_line; dsimp only
        simp (maxSteps := 1000000) (disch := omega) only [rd_alloc, List.length_nil, List.length_cons, Nat.add_zero, Nat.zero_add, List.nil_append, List.cons_append, hi, q1, q2, k1, flV, rd_x1, rd_x0 (y := []), faP, rd_lx1, hcut, build2 Leaf_int Leaf_int, qaaz, qabz, qacz, qaez, qaiz, qajz, qakz, qalz, qamz, qanz, evOp, qaoz, qapz, qaqz, qarz, qatz, qauz, qavz,
 ↓reduceIte, Nat.reduceEqDiff, List.nil_append, List.cons_append, List.append_nil, List.map_cons, List.map_nil, qawz, qaxz, Option.map_some, qazz, qbaz, qbhz, qblz, qbuz, qbvz, qcfz, beq_false, decide_false,
 Bool.false_eq_true, qcjz, List.getElem?_cons_zero, List.getElem?_cons_succ, reduceCtorEq, Bool.not_true, Bool.not_false, ne_eq, not_true_eq_false]
        exact ⟨flV ((a : Int), 50), rd_res rfl, h1⟩
end Go.Ab
