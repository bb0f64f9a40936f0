/-
  What a world has to do with an abstract state, and how it is kept.
-/
import Derived.Test.YtemnjmphkmokmaaAbChk
import Derived.RangeFuncNested
namespace Go.Ab
set_option linter.unusedVariables false
set_option linter.unusedSimpArgs false

variable {P : Program} {g : GMap} {base : Nat}

def EnvR (g : GMap) (κ : K) (nt : Nat) (tmps : Array Value) (e : Env) : Prop :=
  nt ≤ tmps.size ∧ ∀ t, R g κ (tmps.getD t undef) (e t)

/-- A block of cells whose cells may be written. -/
def Cells (w : World) (blk : Nat) (rs : Array Value) : Prop :=
  ∃ el lo hi, w.heap[blk]? = some (.cells rs el (lo, hi)) ∧ (lo = hi ∨ rs.size ≤ lo)

structure BoxOK (g : GMap) (base : Nat) (κ : K) (w : World) (b blk : Nat) (cs : List PV) : Prop where
  ge : base ≤ blk
  nc : ∀ i, κ.C blk i = none
  ex : ∃ rs, Cells w blk rs ∧ cs.length ≤ rs.size ∧ ∀ (i : Nat) (c : PV), cs[i]? = some c → ∃ v, rs[i]? = some v ∧ R g κ v c
  lf : cs.all leafOk = true
  lw : ∀ c ∈ cs, c.inB b = true

structure TokRoom (base : Nat) (κ : K) (w : World) (blk e ce : Nat) : Prop where
  ge : base ≤ blk
  nb : blk ∉ κ.φ
  nc : ∀ j, e ≤ j → κ.C blk j = none
  ex : ∃ rs, Cells w blk rs ∧ ce ≤ rs.size

def stOf : Nat → LoopState
  | 0 => .ready
  | 1 => .busy
  | _ => .done

def pendOf : Ex → Option Code
  | .normal => none
  | .ret => some .ret
  | .exit i => some (.exit i)
  | .goto l => some (.goto l)

structure LoopOK (P : Program) (g : GMap) (κ : K) (w : World) (l D : Nat) (r : LoopS) : Prop where
  ex : ∃ (rec : Loop) (nt : Nat), w.heap[l]? = some (.loop rec) ∧ rec.state = stOf r.status ∧ rec.pending = pendOf r.pend ∧ rec.params.toList = r.params ∧
    EnvR g κ nt rec.tmps r.env ∧ chkCode P g nt rec.assign r.assign = true ∧ chkCode P g nt rec.body r.body = true ∧ (∀ p ∈ r.params, p < nt) ∧ rec.defers = D ∧
    w.heap[D]? = some (.deferred (some []))

structure SR (P : Program) (g : GMap) (base : Nat) (κ : K) (w : World) (st : St) : Prop where
  cC : ∀ b i v, κ.C b i = some v → w.cell? ⟨b, i, none⟩ = some v
  bl : κ.φ.length = st.boxes.length
  bn : κ.φ.Nodup
  bx : ∀ (b blk : Nat) (cs : List PV), st.boxes[b]? = some cs → κ.φ[b]? = some blk → BoxOK g base κ w b blk cs
  tl : κ.τ.length = st.toks.length
  tk : ∀ (i blk e ce : Nat), st.toks[i]? = some true → κ.τ[i]? = some (blk, e, ce) → TokRoom base κ w blk e ce
  td : ∀ (i j bi ei ci bj ej cj : Nat), st.toks[i]? = some true → st.toks[j]? = some true → κ.τ[i]? = some (bi, ei, ci) → κ.τ[j]? = some (bj, ej, cj) → i ≠ j → bi ≠ bj
  ll : κ.lam.length = st.loops.length
  ln : (κ.lam.map (·.1)).Nodup
  lb : ∀ (l D : Nat), (l, D) ∈ κ.lam → base ≤ l
  lp : ∀ (k l D : Nat) (r : LoopS), st.loops[k]? = some r → κ.lam[k]? = some (l, D) → LoopOK P g κ w l D r
  hb : base ≤ w.heap.size
  gv : g.inv κ

def isCells : Obj → Bool
  | .cells .. => true
  | _ => false

/-- Two records of one loop. -/
structure LoopLike (r r' : Loop) : Prop where
  tmps : r'.tmps = r.tmps
  params : r'.params = r.params
  assign : r'.assign = r.assign
  body : r'.body = r.body
  defers : r'.defers = r.defers

/-- What a run leaves alone; of the loops that run it turns no more than how they stand. -/
structure Fr (base : Nat) (lam : List (Nat × Nat)) (w w' : World) : Prop where
  below : Go.RowKit.Below base w w'
  objs : ∀ (k : Nat) (o : Obj), w.heap[k]? = some o → isCells o = false → k ∉ lam.map (·.1) → w'.heap[k]? = some o
  loops : ∀ (k : Nat) (r : Loop), k ∈ lam.map (·.1) → w.heap[k]? = some (.loop r) → ∃ r', w'.heap[k]? = some (.loop r') ∧ LoopLike r r'

theorem LoopLike.refl (r : Loop) : LoopLike r r := ⟨rfl, rfl, rfl, rfl, rfl⟩
theorem LoopLike.trans {a b c : Loop} (h : LoopLike a b) (k : LoopLike b c) : LoopLike a c :=
  ⟨k.tmps.trans h.tmps, k.params.trans h.params, k.assign.trans h.assign, k.body.trans h.body, k.defers.trans h.defers⟩

theorem Fr.refl (lam : List (Nat × Nat)) (w : World) : Fr base lam w w := ⟨Go.RowKit.Below.refl _ _, fun _ _ h _ _ => h, fun _ r _ h => ⟨r, h, .refl r⟩⟩
theorem Fr.trans {lam : List (Nat × Nat)} {a b c : World} (h : Fr base lam a b) (k : Fr base lam b c) : Fr base lam a c :=
  ⟨h.below.trans k.below, fun i o h1 h2 h3 => k.objs i o (h.objs i o h1 h2 h3) h2 h3, fun i r h1 h2 =>
    let ⟨r', h3, h4⟩ := h.loops i r h1 h2
    let ⟨r'', h5, h6⟩ := k.loops i r' h1 h3
    ⟨r'', h5, h4.trans h6⟩⟩

/-- Nothing but cells has turned. -/
theorem Fr.of {lam : List (Nat × Nat)} {w w' : World} (hb : Go.RowKit.Below base w w') (h : ∀ (k : Nat) (o : Obj), w.heap[k]? = some o → isCells o = false → w'.heap[k]? = some o) : Fr base lam w w' :=
  ⟨hb, fun k o h1 h2 _ => h k o h1 h2, fun k r _ h2 => ⟨r, h k _ h2 rfl, .refl r⟩⟩

theorem cell_heap {w w' : World} (h : w'.heap = w.heap) (a : Addr) : w'.cell? a = w.cell? a := by simp [World.cell?, h]

theorem Cells.congr {w w' : World} {blk : Nat} {rs : Array Value} (h : Cells w blk rs) (hh : w'.heap[blk]? = w.heap[blk]?) : Cells w' blk rs := by
  obtain ⟨el, lo, hi, h1, h2⟩ := h
  exact ⟨el, lo, hi, by rw [hh]; exact h1, h2⟩

/-- The abstract state hangs on the heap alone. -/
theorem SR.heap {κ : K} {w w' : World} {st : St} (h : SR P g base κ w st) (hh : w'.heap = w.heap) : SR P g base κ w' st where
  cC b i v hc := by rw [cell_heap hh]; exact h.cC b i v hc
  bl := h.bl
  bn := h.bn
  bx b blk cs h1 h2 := by
    have := h.bx b blk cs h1 h2
    obtain ⟨rs, hc, h3, h4⟩ := this.ex
    exact ⟨this.ge, this.nc, ⟨rs, hc.congr (by rw [hh]), h3, h4⟩, this.lf, this.lw⟩
  tl := h.tl
  tk i blk e ce h1 h2 := by
    have := h.tk i blk e ce h1 h2
    obtain ⟨rs, hc, h3⟩ := this.ex
    exact ⟨this.ge, this.nb, this.nc, ⟨rs, hc.congr (by rw [hh]), h3⟩⟩
  td := h.td
  ll := h.ll
  ln := h.ln
  lb := h.lb
  lp k l D r h1 h2 := by
    obtain ⟨rec, nt, h3⟩ := (h.lp k l D r h1 h2).ex
    exact ⟨rec, nt, by rw [hh]; exact h3⟩
  hb := by rw [hh]; exact h.hb
  gv := h.gv

theorem push_old {h : Array Obj} {o : Obj} {k : Nat} {x : Obj} (hk : h[k]? = some x) : (h.push o)[k]? = some x := by
  have : k < h.size := (Array.getElem?_eq_some_iff.1 hk).1
  rw [Array.getElem?_push, if_neg (by omega)]; exact hk

theorem EnvR.mono {κ κ' : K} (hle : K.le κ κ') {nt : Nat} {tmps : Array Value} {e : Env} (h : EnvR g κ nt tmps e) : EnvR g κ' nt tmps e :=
  ⟨h.1, fun t => (h.2 t).mono hle⟩

theorem LoopOK.mono {κ κ' : K} (hle : K.le κ κ') {w w' : World} {l D : Nat} {r : LoopS} (h : LoopOK P g κ w l D r)
    (hh : ∀ (k : Nat) (o : Obj), w.heap[k]? = some o → isCells o = false → w'.heap[k]? = some o) : LoopOK P g κ' w' l D r := by
  obtain ⟨rec, nt, h1, h2, h3, h4, h5, h6, h7, h8, h9, h10⟩ := h.ex
  exact ⟨rec, nt, hh _ _ h1 rfl, h2, h3, h4, h5.mono hle, h6, h7, h8, h9, hh _ _ h10 rfl⟩

theorem cell_push {w w' : World} {o : Obj} (hw : w'.heap = w.heap.push o) {b i : Nat} {v : Value} (h : w.cell? ⟨b, i, none⟩ = some v) : w'.cell? ⟨b, i, none⟩ = some v := by
  simp only [World.cell?] at *
  cases hb : w.heap[b]? with
  | none => simp [hb] at h
  | some x => rw [hw, push_old hb]; simpa [hb] using h

/-- A known cell lies in an old block. -/
theorem SR.C_lt {κ : K} {w : World} {st : St} (h : SR P g base κ w st) {b i : Nat} {v : Value} (hc : κ.C b i = some v) : b < w.heap.size := by
  have := h.cC b i v hc
  simp only [World.cell?] at this
  cases hb : w.heap[b]? with
  | none => simp [hb] at this
  | some x => exact (Array.getElem?_eq_some_iff.1 hb).1

theorem Cells.lt {w : World} {blk : Nat} {rs : Array Value} (h : Cells w blk rs) : blk < w.heap.size := by
  obtain ⟨_, _, _, h1, _⟩ := h
  exact (Array.getElem?_eq_some_iff.1 h1).1

theorem SR.phi_lt {κ : K} {w : World} {st : St} (h : SR P g base κ w st) {b blk : Nat} (hb : κ.φ[b]? = some blk) : blk < w.heap.size := by
  have hl : b < st.boxes.length := by rw [← h.bl]; exact (List.getElem?_eq_some_iff.1 hb).1
  obtain ⟨rs, hc, _⟩ := (h.bx b blk st.boxes[b] (by simp [hl]) hb).ex
  exact hc.lt

/-- More of what is known (C grows by cells of one block from base on that is no box's, at or behind the end of any live token's there). -/
def K.addC (κ : K) (blk : Nat) (f : Nat → Option Value) : K := { κ with C := fun b i => if b = blk then (match f i with | some v => some v | none => κ.C b i) else κ.C b i }

/-- One more box: a new block. -/
theorem SR.addBox {κ : K} {w w' : World} {st : St} (h : SR P g base κ w st) (rs : Array Value) (el : TypeId) (fz : Nat × Nat) (cs : List PV)
    (hw : w'.heap = w.heap.push (.cells rs el fz)) (hfz : fz.1 = fz.2 ∨ rs.size ≤ fz.1) (hl : cs.length ≤ rs.size)
    (hr : ∀ (i : Nat) (c : PV), cs[i]? = some c → ∃ v, rs[i]? = some v ∧ R g κ v c) (hlf : cs.all leafOk = true) (hlw : ∀ c ∈ cs, c.inB st.boxes.length = true) :
    K.le κ { κ with φ := κ.φ ++ [w.heap.size] } ∧ SR P g base { κ with φ := κ.φ ++ [w.heap.size] } w' { st with boxes := st.boxes ++ [cs] } := by
  have hle : K.le κ { κ with φ := κ.φ ++ [w.heap.size] } := ⟨fun _ _ _ h => h, fun i x hx => by
    have := (List.getElem?_eq_some_iff.1 hx).1
    simp [List.getElem?_append_left this, hx], fun _ _ h => h, fun _ _ h => h⟩
  have hsz : w'.heap.size = w.heap.size + 1 := by rw [hw]; simp
  refine ⟨hle, ?_⟩
  refine { cC := fun b i v hc => cell_push hw (h.cC b i v hc), bl := by simp [h.bl], bn := ?_, bx := ?_, tl := h.tl, tk := ?_, td := h.td, ll := h.ll, ln := h.ln, lb := h.lb, lp := ?_, hb := ?_, gv := g.mono _ _ hle.C h.gv }
  · rw [List.nodup_append]
    refine ⟨h.bn, by simp, fun a ha b hb => ?_⟩
    simp at hb
    obtain ⟨i, hi⟩ := List.getElem?_of_mem ha
    have := h.phi_lt hi
    omega
  · intro b blk cs' h1 h2
    by_cases hb : b < st.boxes.length
    · simp only [List.getElem?_append_left hb] at h1
      simp only [List.getElem?_append_left (by rw [h.bl]; exact hb)] at h2
      have hx := h.bx b blk cs' h1 h2
      obtain ⟨rs', hc, h3, h4⟩ := hx.ex
      refine ⟨hx.ge, hx.nc, ⟨rs', hc.congr ?_, h3, fun i c hi => ?_⟩, hx.lf, hx.lw⟩
      · rw [hw, Array.getElem?_push, if_neg (by have := hc.lt; omega)]
      · obtain ⟨v, hv, hr'⟩ := h4 i c hi
        exact ⟨v, hv, hr'.mono hle⟩
    · have hb' : b = st.boxes.length := by
        have := (List.getElem?_eq_some_iff.1 h1).1
        simp at this; omega
      subst hb'
      simp only [List.length_append, List.getElem?_concat_length, Option.some.injEq] at h1
      rw [← h.bl, List.getElem?_concat_length, Option.some.injEq] at h2
      subst h1 h2
      refine ⟨h.hb, fun i => ?_, ⟨rs, ⟨el, fz.1, fz.2, ?_, hfz⟩, hl, fun i c hi => ?_⟩, hlf, hlw⟩
      · cases hc : κ.C w.heap.size i with
        | none => simp [hc]
        | some v => have := h.C_lt hc; omega
      · rw [hw]; simp
      · obtain ⟨v, hv, hr'⟩ := hr i c hi
        exact ⟨v, hv, hr'.mono hle⟩
  · intro i blk e ce h1 h2
    have hx := h.tk i blk e ce h1 h2
    obtain ⟨rs', hc, h3⟩ := hx.ex
    refine ⟨hx.ge, ?_, hx.nc, ⟨rs', hc.congr ?_, h3⟩⟩
    · simp only [List.mem_append, List.mem_singleton, not_or]
      exact ⟨hx.nb, by have := hc.lt; omega⟩
    · rw [hw, Array.getElem?_push, if_neg (by have := hc.lt; omega)]
  · intro k l D r h1 h2
    exact (h.lp k l D r h1 h2).mono hle (fun k o ho _ => by rw [hw]; exact push_old ho)
  · rw [hsz]; have := h.hb; omega

/-- A new block whose first cells are known, and a token at their end. -/
theorem SR.addTok {κ : K} {w w' : World} {st : St} (h : SR P g base κ w st) (rs : Array Value) (el : TypeId) (fz : Nat × Nat) (m ce : Nat)
    (hw : w'.heap = w.heap.push (.cells rs el fz)) (hfz : fz.1 = fz.2 ∨ rs.size ≤ fz.1) (hm : m ≤ rs.size) (hce : ce ≤ rs.size) (toks : List Bool) (htl : toks.length = st.toks.length)
    (htt : ∀ (i : Nat), toks[i]? = some true → st.toks[i]? = some true) :
    let κ' : K := { (κ.addC w.heap.size fun i => if i < m then rs[i]? else none) with τ := κ.τ ++ [(w.heap.size, m, ce)] }
    K.le κ κ' ∧ SR P g base κ' w' { st with toks := toks ++ [true] } := by
  intro κ'
  have hnew : ∀ i, κ.C w.heap.size i = none := fun i => by
    cases hc : κ.C w.heap.size i with
    | none => rfl
    | some v => have := h.C_lt hc; omega
  have hold : ∀ b i, b ≠ w.heap.size → κ'.C b i = κ.C b i := fun b i hb => by simp [κ', K.addC, hb]
  have hle : K.le κ κ' := ⟨fun b i v hc => by
      have : b ≠ w.heap.size := by rintro rfl; rw [hnew] at hc; cases hc
      rw [hold _ _ this]; exact hc, fun _ _ h => h, fun _ _ h => h, fun i x hx => by
    have := (List.getElem?_eq_some_iff.1 hx).1
    simp [κ', List.getElem?_append_left this, hx]⟩
  have hsz : w'.heap.size = w.heap.size + 1 := by rw [hw]; simp
  refine ⟨hle, ?_⟩
  refine { cC := ?_, bl := h.bl, bn := h.bn, bx := ?_, tl := by simp [κ', h.tl, htl, K.addC], tk := ?_, td := ?_, ll := h.ll, ln := h.ln, lb := h.lb, lp := ?_, hb := ?_, gv := g.mono _ _ hle.C h.gv }
  · intro b i v hc
    by_cases hb : b = w.heap.size
    · subst hb
      simp only [κ', K.addC, if_pos] at hc
      simp only [World.cell?, hw]
      by_cases him : i < m
      · simp only [him, if_true] at hc
        cases hri : rs[i]? with
        | none => simp [hri, hnew] at hc
        | some u => simp [hri] at hc; simp [hri, hc]
      · simp [him, hnew] at hc
    · rw [hold _ _ hb] at hc
      exact cell_push hw (h.cC b i v hc)
  · intro b blk cs h1 h2
    have hx := h.bx b blk cs h1 h2
    obtain ⟨rs', hc, h3, h4⟩ := hx.ex
    have hlt := hc.lt
    refine ⟨hx.ge, fun i => by rw [hold _ _ (by omega)]; exact hx.nc i, ⟨rs', hc.congr ?_, h3, fun i c hi => ?_⟩, hx.lf, hx.lw⟩
    · rw [hw, Array.getElem?_push, if_neg (by omega)]
    · obtain ⟨v, hv, hr'⟩ := h4 i c hi
      exact ⟨v, hv, hr'.mono hle⟩
  · intro i blk e ce' h1 h2
    by_cases hi : i < st.toks.length
    · simp only [List.getElem?_append_left (by rw [htl]; exact hi)] at h1
      simp only [κ', List.getElem?_append_left (by rw [h.tl]; exact hi)] at h2
      have hx := h.tk i blk e ce' (htt _ h1) h2
      obtain ⟨rs', hc, h3⟩ := hx.ex
      have hlt := hc.lt
      exact ⟨hx.ge, hx.nb, fun j hj => by rw [hold _ _ (by omega)]; exact hx.nc j hj, ⟨rs', hc.congr (by rw [hw, Array.getElem?_push, if_neg (by omega)]), h3⟩⟩
    · have hi' : i = st.toks.length := by
        have := (List.getElem?_eq_some_iff.1 h1).1
        simp [htl] at this; omega
      subst hi'
      simp only [κ'] at h2
      rw [← h.tl, List.getElem?_concat_length, Option.some.injEq] at h2
      simp only [Prod.mk.injEq] at h2
      obtain ⟨rfl, rfl, rfl⟩ := h2
      refine ⟨h.hb, fun hmem => ?_, fun j hj => ?_, ⟨rs, ⟨el, fz.1, fz.2, by rw [hw]; simp, hfz⟩, hce⟩⟩
      · obtain ⟨i, hi⟩ := List.getElem?_of_mem hmem
        have := h.phi_lt hi; omega
      · simp [κ', K.addC, show ¬ j < m by omega, hnew]
  · intro i j bi ei ci bj ej cj h1 h2 h3 h4 hij
    have key : ∀ (i bi ei ci : Nat), (toks ++ [true])[i]? = some true → (κ.τ ++ [(w.heap.size, m, ce)])[i]? = some (bi, ei, ci) → i < st.toks.length → st.toks[i]? = some true ∧ κ.τ[i]? = some (bi, ei, ci) ∧ bi < w.heap.size := by
      intro i bi ei ci h1 h2 hi
      rw [List.getElem?_append_left (by rw [htl]; exact hi)] at h1
      rw [List.getElem?_append_left (by rw [h.tl]; exact hi)] at h2
      obtain ⟨rs', hc, _⟩ := (h.tk i bi ei ci (htt _ h1) h2).ex
      exact ⟨htt _ h1, h2, hc.lt⟩
    have last : ∀ (i bi ei ci : Nat), (κ.τ ++ [(w.heap.size, m, ce)])[i]? = some (bi, ei, ci) → ¬ i < st.toks.length → bi = w.heap.size ∧ i = st.toks.length := by
      intro i bi ei ci h2 hi
      have h5 := (List.getElem?_eq_some_iff.1 h2).1
      simp [h.tl] at h5
      have h6 : i = κ.τ.length := by rw [h.tl]; omega
      subst h6
      rw [List.getElem?_concat_length, Option.some.injEq] at h2
      simp only [Prod.mk.injEq] at h2
      exact ⟨h2.1.symm, h.tl⟩
    by_cases hi : i < st.toks.length
    · obtain ⟨a1, a2, a3⟩ := key i bi ei ci h1 h3 hi
      by_cases hj : j < st.toks.length
      · obtain ⟨b1, b2, b3⟩ := key j bj ej cj h2 h4 hj
        exact h.td i j bi ei ci bj ej cj a1 b1 a2 b2 hij
      · obtain ⟨b1, b2⟩ := last j bj ej cj h4 hj
        omega
    · obtain ⟨a1, a2⟩ := last i bi ei ci h3 hi
      by_cases hj : j < st.toks.length
      · obtain ⟨b1, b2, b3⟩ := key j bj ej cj h2 h4 hj
        omega
      · obtain ⟨b1, b2⟩ := last j bj ej cj h4 hj
        omega
  · intro k l D r h1 h2
    exact (h.lp k l D r h1 h2).mono hle (fun k o ho _ => by rw [hw]; exact push_old ho)
  · rw [hsz]; have := h.hb; omega

theorem Fr.push {lam : List (Nat × Nat)} {w w' : World} {o : Obj} (hb : base ≤ w.heap.size) (hw : w'.heap = w.heap.push o) (h1 : w'.os = w.os) (h2 : w'.tape = w.tape) (h3 : w'.output = w.output) : Fr base lam w w' :=
  Fr.of ⟨h1, h2, h3, by rw [hw]; simp, fun k hk => by rw [hw, Array.getElem?_push, if_neg (by omega)]⟩ fun k o ho _ => by rw [hw]; exact push_old ho

theorem Fr.same {lam : List (Nat × Nat)} {w w' : World} (hw : w'.heap = w.heap) (h1 : w'.os = w.os) (h2 : w'.tape = w.tape) (h3 : w'.output = w.output) : Fr base lam w w' :=
  Fr.of ⟨h1, h2, h3, by rw [hw]; exact Nat.le_refl _, fun k hk => by rw [hw]⟩ fun k o ho _ => by rw [hw]; exact ho

end Go.Ab
