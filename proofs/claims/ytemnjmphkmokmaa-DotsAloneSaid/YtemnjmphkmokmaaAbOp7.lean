/-
  make, min, max; all operations but calls together.
-/
import Derived.Test.YtemnjmphkmokmaaAbOp6
namespace Go.Ab
set_option linter.unusedVariables false
set_option linter.unusedSimpArgs false

variable {P : Program} {g : GMap} {base : Nat} {κ : K} {w : World} {st : St}

theorem i64_wrap_small {n : Int} (h0 : 0 ≤ n) (h : n ≤ room) : IntKind.i64.wrap n = n := by
  have : room = 68719476736 := rfl
  simp [IntKind.wrap, IntKind.bits, IntKind.signed]
  omega

theorem run_makeSlice {t e : TypeId} {esz b : Nat} {zero : Value} {k k' : IntKind} {l c : Int} (ht : sliceElem P t = some e) (hs : sizeT P e = some esz) (h0 : 0 < esz) (hb : bytesT P e = some b) (hb' : b ≤ 256) (hz : zeroT P e = some zero)
    (hl : 0 ≤ l) (hlc : l ≤ c) (hc : c ≤ room) :
    ∃ w', (Instr.makeSlice t (.int k l) (.int k' c)).run P w = .ok (.slice (some ⟨w.heap.size, 0, none⟩) l.toNat c.toNat) w' ∧
      w' = { w with heap := w.heap.push (.cells ((Array.range (c.toNat * esz)).map (zero.cells[· % zero.cells.size]!)) e (0, 0)) } := by
  have hu := sliceElem_eq ht
  unfold bytesT at hb
  cases hi : P.info? e with
  | none => simp [hi] at hb
  | some i =>
    simp [hi] at hb
    subst hb
    have hroom : room = 68719476736 := rfl
    have hwl := i64_wrap_small hl (by omega)
    have hwc := i64_wrap_small (show 0 ≤ c by omega) hc
    have hmul : (i.bytes : Int) * c ≤ 256 * 68719476736 := by
      have h1 : (i.bytes : Int) * c ≤ 256 * c := Int.mul_le_mul_of_nonneg_right (by omega) (by omega)
      omega
    have hask : ∀ (b : Nat) (w1 : World), (askRoom b).run P w1 = .ok () w1 := fun b w1 => by
      unfold askRoom; split <;> simp [mark, Sem.run]
    refine ⟨_, ?_, rfl⟩
    unfold Instr.makeSlice
    simp only [Sem.run_bind, run_underlying hu, Result.andThen_ok, asInt, asIntOf, Sem.run_pure, run_typeInfo hi, hwl, hwc]
    rw [if_neg (by simp; omega)]
    simp only [Sem.run_bind, hask, Result.andThen_ok, run_sizeOf hs]
    by_cases hn : c.toNat * esz = 0
    · rw [if_pos hn]
      simp only [Sem.run_bind, Sem.run_pure, Result.andThen_ok, run_newRow]
      rw [hn]; simp [show Array.range 0 = #[] from rfl]
    · rw [if_neg hn]
      simp only [Sem.run_bind, Sem.run_pure, Result.andThen_ok, run_newRow, run_zeroValue hz]

theorem mk8_sim (h : SR P g base κ w st) {t e : TypeId} {b : Nat} {mu : Bool} {zero : Value} {u v : Value} {k k' : IntKind} {l c : Int} (ht : sliceElem P t = some e) (hs : sizeT P e = some 1) (hb : bytesT P e = some b) (hb' : b ≤ 256) (hz : zeroT P e = some zero)
    (hzc : chkLeaf zero (.b8 0) = true) (hu : R g κ u (.int k l)) (hv : R g κ v (.int k' c)) (hl : 0 ≤ l) (hlc : l ≤ c) (hc : c ≤ room) :
    ∃ z w', (Instr.makeSlice t u v).run P w = .ok z w' ∧ Good P g base κ w z w' (if mu then .ms st.boxes.length 0 l.toNat else .bys (freshT st).1 (List.replicate l.toNat 0))
      (if mu then { st with boxes := st.boxes ++ [List.replicate l.toNat (.b8 0)] } else (freshT st).2) := by
  cases hu; cases hv
  obtain ⟨w', hrun, rfl⟩ := run_makeSlice (P := P) (w := w) (k := k) (k' := k') ht hs (by decide) hb hb' hz hl hlc hc
  refine ⟨_, _, hrun, ?_⟩
  have hcells : zero.cells = #[zero] := (chkLeaf_R (g := g) (κ := κ) hzc).2.2.2.2.2
  have hzero : zero = .int .u8 0 := by
    cases zero <;> simp_all [chkLeaf]
  have hget : ∀ i, i < c.toNat → ((Array.range (c.toNat * 1)).map (zero.cells[· % zero.cells.size]!))[i]? = some (.int .u8 0) := fun i hi => by
    rw [hcells, hzero]
    simp [hi, Nat.mod_one]
  cases mu with
  | false =>
    refine good_bytes (toks := st.toks) h rfl rfl rfl rfl (.inl rfl) (by simp) (by omega) (by simp) (fun i b hi => ?_) rfl (fun _ h => h)
    have hlt := (List.getElem?_eq_some_iff.1 hi).1
    simp at hlt
    rw [hget i (by omega)]
    simp [hlt] at hi
    subst hi; rfl
  | true =>
    obtain ⟨h1, h2⟩ := h.addBox (w' := { w with heap := w.heap.push (.cells ((Array.range (c.toNat * 1)).map (zero.cells[· % zero.cells.size]!)) e (0, 0)) }) _ e (0, 0) (List.replicate l.toNat (.b8 0)) rfl (.inl rfl) (by simp; omega) (fun i p hi => by
      have hlt := (List.getElem?_eq_some_iff.1 hi).1
      simp at hlt
      simp [hlt] at hi
      subst hi
      exact ⟨_, hget i (by omega), .b8 _ _ rfl⟩) (by simp [leafOk]) (by simp [PV.inB])
    refine ⟨_, h1, rfl, h2, .ms _ _ _ _ _ _ ?_ (by omega) (.inr rfl), Fr.push h.hb rfl rfl rfl rfl⟩
    show (κ.φ ++ [w.heap.size])[st.boxes.length]? = _
    rw [← h.bl]; simp

theorem mkms_sim (h : SR P g base κ w st) {t e : TypeId} {b : Nat} {zero : Value} {z : List PV} {u v : Value} {k k' : IntKind} {l c : Int} (ht : sliceElem P t = some e) (hs : sizeT P e = some z.length) (h0 : 0 < z.length) (hb : bytesT P e = some b) (hb' : b ≤ 256) (hz : zeroT P e = some zero)
    (hzc : chkLeaves zero.cells.toList z = true) (hu : R g κ u (.int k l)) (hv : R g κ v (.int k' c)) (hl : 0 ≤ l) (hlc : l ≤ c) (hc : c ≤ room) :
    ∃ r w', (Instr.makeSlice t u v).run P w = .ok r w' ∧ Good P g base κ w r w' (.ms st.boxes.length 0 l.toNat) { st with boxes := st.boxes ++ [(List.replicate l.toNat z).flatten] } := by
  cases hu; cases hv
  obtain ⟨w', hrun, rfl⟩ := run_makeSlice (P := P) (w := w) (k := k) (k' := k') ht hs h0 hb hb' hz hl hlc hc
  refine ⟨_, _, hrun, ?_⟩
  have hcl : (PV.agg z).cells = z := rfl
  have hcr := zeros_CR (g := g) (κ := κ) (len := c.toNat) (z := .agg z) h0 rfl hzc
  obtain ⟨c1, c2, c3, c4, c5⟩ := chkLeaves_R (g := g) (κ := κ) _ _ hzc
  have hfl : ∀ n, (List.replicate n z).flatten = flat (List.replicate n (.agg z)) := fun n => by
    induction n with
    | zero => rfl
    | succ n ih => simp only [List.replicate_succ, List.flatten_cons, flat, List.flatMap_cons] at *; rw [ih]; rfl
  have hpre : ∀ (i : Nat) (p : PV), (flat (List.replicate l.toNat (.agg z)))[i]? = some p → (flat (List.replicate c.toNat (.agg z)))[i]? = some p := fun i p hi => by
    have : List.replicate c.toNat (PV.agg z) = List.replicate l.toNat (.agg z) ++ List.replicate (c.toNat - l.toNat) (.agg z) := by rw [List.replicate_append_replicate]; congr 1; omega
    rw [this, flat_append, List.getElem?_append_left (List.getElem?_eq_some_iff.1 hi).1]; exact hi
  have hmem : ∀ p ∈ (List.replicate l.toNat z).flatten, p ∈ z := fun p hp => by
    obtain ⟨y, hy, hpy⟩ := List.mem_flatten.1 hp
    rw [List.eq_of_mem_replicate hy] at hpy; exact hpy
  obtain ⟨h1, h2⟩ := h.addBox (w' := { w with heap := w.heap.push (.cells ((Array.range (c.toNat * z.length)).map (zero.cells[· % zero.cells.size]!)) e (0, 0)) }) _ e (0, 0) ((List.replicate l.toNat z).flatten) rfl (.inl rfl)
    (by simp only [List.length_flatten, List.map_replicate, List.sum_replicate_nat, Array.size_map, Array.size_range]; exact Nat.mul_le_mul_right _ (by omega)) (fun i p hi => by
      rw [hfl] at hi
      have hp := hpre i p hi
      have hlt : i < ((Array.range (c.toNat * z.length)).map (zero.cells[· % zero.cells.size]!)).size := by rw [hcr.1]; exact (List.getElem?_eq_some_iff.1 hp).1
      exact ⟨_, Array.getElem?_eq_getElem hlt, hcr.2 i _ p (Array.getElem?_eq_getElem hlt) hp⟩)
    (by rw [List.all_eq_true] at *; exact fun x hx => c3 x (hmem x hx)) (fun p hp => c4 _ p (hmem p hp))
  refine ⟨_, h1, rfl, h2, .ms _ _ _ _ _ _ ?_ (by omega) (.inr rfl), Fr.push h.hb rfl rfl rfl rfl⟩
  show (κ.φ ++ [w.heap.size])[st.boxes.length]? = _
  rw [← h.bl]; simp

theorem mnmx_sim {mx : Bool} {ats : Array TypeId} {ty : TypeId} {vs : Array Value} {ps : List PV} {r : PV} (hl : vs.size = ps.length) (hr : ∀ (i : Nat) (v : Value) (p : PV), vs[i]? = some v → ps[i]? = some p → R g κ v p) (h : mnmxPV mx ps = some r) :
    ∃ z, (if mx then Builtin.max_ ats ty vs else Builtin.min_ ats ty vs).run P w = .ok z w ∧ R g κ z r := by
  obtain ⟨vs⟩ := vs
  unfold mnmxPV at h
  split at h
  · rename_i k a k' b
    split at h
    · rename_i hk; subst hk
      cases h
      match vs, hl with
      | [v0, v1], _ =>
        have r0 := hr 0 v0 _ rfl rfl
        have r1 := hr 1 v1 _ rfl rfl
        cases r0 with | int _ _ hk0 => cases r1 with | int _ _ hk1 =>
        cases mx
        · refine ⟨.int k (if b < a then b else a), by simp [Builtin.min_, Builtin.min2], ?_⟩
          rw [show (if b < a then b else a) = min a b by omega]; exact .int _ _ hk0
        · refine ⟨.int k (if b > a then b else a), by simp [Builtin.max_, Builtin.max2], ?_⟩
          rw [show (if b > a then b else a) = max a b by omega]; exact .int _ _ hk0
    · cases h
  · rename_i k a k' b k'' c
    split at h
    · rename_i hk; obtain ⟨rfl, rfl⟩ := hk
      cases h
      match vs, hl with
      | [v0, v1, v2], _ =>
        have r0 := hr 0 v0 _ rfl rfl
        have r1 := hr 1 v1 _ rfl rfl
        have r2 := hr 2 v2 _ rfl rfl
        cases r0 with | int _ _ hk0 => cases r1 with | int _ _ hk1 => cases r2 with | int _ _ hk2 =>
        cases mx
        · refine ⟨.int k (if c < (if b < a then b else a) then c else (if b < a then b else a)), by simp [Builtin.min_, Builtin.min2], ?_⟩
          rw [show (if c < (if b < a then b else a) then c else (if b < a then b else a)) = min (min a b) c by omega]; exact .int _ _ hk0
        · refine ⟨.int k (if c > (if b > a then b else a) then c else (if b > a then b else a)), by simp [Builtin.max_, Builtin.max2], ?_⟩
          rw [show (if c > (if b > a then b else a) then c else (if b > a then b else a)) = max (max a b) c by omega]; exact .int _ _ hk0
    · cases h
  · cases h

/-! ### All operations but calls -/
theorem chkOpds_R {ρ : Operand → Value} {e : Env} (hρ : OpdR g κ ρ e) : ∀ (xs : List Operand) (ys : List Opd), chkOpds g xs ys = true →
    (xs.map ρ).length = (ys.map (·.ev e)).length ∧ ∀ (i : Nat) (v : Value) (p : PV), (xs.map ρ)[i]? = some v → (ys.map (·.ev e))[i]? = some p → R g κ v p := by
  intro xs
  induction xs with
  | nil => intro ys h; cases ys with
    | nil => exact ⟨rfl, fun i v p a => by simp at a⟩
    | cons => simp [chkOpds] at h
  | cons x xs ih =>
    intro ys h
    cases ys with
    | nil => simp [chkOpds] at h
    | cons y ys =>
      simp only [chkOpds, Bool.and_eq_true] at h
      obtain ⟨a, b⟩ := ih ys h.2
      refine ⟨by simp at a; simp [a], fun i v p c d => ?_⟩
      cases i with
      | zero => simp at c d; subst c d; exact hρ _ _ h.1
      | succ i => simp only [List.map_cons, List.getElem?_cons_succ] at c d; exact b i v p c d

theorem chkOpdO_R {ρ : Operand → Value} {e : Env} (hρ : OpdR g κ ρ e) {x : Option Operand} {y : Option Opd} (h : chkOpdO g x y = true) : OptR g κ (x.map ρ) (y.map (·.ev e)) := by
  cases x <;> cases y <;> simp [chkOpdO] at h
  · trivial
  · exact hρ _ _ h

theorem chkPartsL_R {ρ : Operand → Value} {e : Env} (hρ : OpdR g κ ρ e) : ∀ (xs : List (Nat × Operand)) (ys : List (Nat × Opd)), chkPartsL g xs ys = true → PartsV g κ (xs.map fun q => (q.1, ρ q.2)) (ys.map fun q => (q.1, q.2.ev e)) := by
  intro xs
  induction xs with
  | nil => intro ys h; cases ys with
    | nil => trivial
    | cons => simp [chkPartsL] at h
  | cons x xs ih =>
    intro ys h
    cases ys with
    | nil => simp [chkPartsL] at h
    | cons y ys =>
      simp only [chkPartsL, Bool.and_eq_true, decide_eq_true_eq] at h
      exact ⟨h.1.1, hρ _ _ h.1.2, ih ys h.2⟩

theorem chkPartsS_R {fs : Array Field} {ρ : Operand → Value} {e : Env} (hρ : OpdR g κ ρ e) : ∀ (xs : List (Nat × Operand)) (ys : List (Nat × Nat × Opd)), chkPartsS P g fs xs ys = true →
    PartsR g κ (fun (i : Nat) => (fs[i]?).bind fun (f : Field) => (sizeT P f.type).map fun n => (f.offset, n)) (xs.map fun q => (q.1, ρ q.2)) (ys.map fun q => (q.1, q.2.1, q.2.2.ev e)) := by
  intro xs
  induction xs with
  | nil => intro ys h; cases ys with
    | nil => trivial
    | cons => simp [chkPartsS] at h
  | cons x xs ih =>
    intro ys h
    cases ys with
    | nil => simp [chkPartsS] at h
    | cons y ys =>
      simp only [chkPartsS, Bool.and_eq_true] at h
      obtain ⟨⟨h1, h2⟩, h3⟩ := h
      refine ⟨?_, hρ _ _ h2, ih ys h3⟩
      split at h1
      · rename_i f hf
        simp only [Bool.and_eq_true, decide_eq_true_eq] at h1
        simp [hf, h1.2, h1.1]
      · cases h1

theorem chkPartsA_R {n : Nat} {ρ : Operand → Value} {e : Env} (hρ : OpdR g κ ρ e) : ∀ (xs : List (Nat × Operand)) (ys : List (Nat × Nat × Opd)), chkPartsA g n xs ys = true →
    PartsR g κ (fun i => some (i * n, n)) (xs.map fun q => (q.1, ρ q.2)) (ys.map fun q => (q.1, q.2.1, q.2.2.ev e)) := by
  intro xs
  induction xs with
  | nil => intro ys h; cases ys with
    | nil => trivial
    | cons => simp [chkPartsA] at h
  | cons x xs ih =>
    intro ys h
    cases ys with
    | nil => simp [chkPartsA] at h
    | cons y ys =>
      simp only [chkPartsA, Bool.and_eq_true, decide_eq_true_eq] at h
      exact ⟨by rw [h.1.1.1, h.1.1.2], hρ _ _ h.1.2, ih ys h.2⟩

/-- What a run of an operation comes to. -/
def OpGood (P : Program) (g : GMap) (base : Nat) (κ : K) (w : World) (r : Result Next) (v : PV) (st' : St) : Prop :=
  ∃ z w', (r = .ok (.value z) w' ∨ (r = .ok .skip w' ∧ z = undef)) ∧ Good P g base κ w z w' v st'

theorem OpGood.val {s : Sem Value} {v : PV} {st' : St} (h : ∃ z w', s.run P w = .ok z w' ∧ Good P g base κ w z w' v st') : OpGood P g base κ w ((do pure (.value (← s)) : Sem Next).run P w) v st' := by
  obtain ⟨z, w', h1, h2⟩ := h
  exact ⟨z, w', .inl (by simp [h1]), h2⟩

/-- An operation that leaves the state alone. -/
theorem OpGood.pure (hsr : SR P g base κ w st) {s : Sem Value} {v : PV} (h : ∃ z, s.run P w = .ok z w ∧ R g κ z v) : OpGood P g base κ w ((do pure (.value (← s)) : Sem Next).run P w) v st :=
  let ⟨z, h1, h2⟩ := h
  OpGood.val ⟨z, w, h1, Good.same hsr h2⟩

theorem builtin_sim (hsr : SR P g base κ w st) {ρ : Operand → Value} {e : Env} (hρ : OpdR g κ ρ e) {b : Builtin} {args : Array Operand} {ats : Array TypeId} {ty : TypeId} {cs : Array Bool} {a : AOp} {cv : PV → List PV → St → Option (PV × St)} {v : PV} {st' : St}
    (hc : chkBuiltin P g b args.toList ats a = true) (h : evOp cv a e st = some (v, st')) : OpGood P g base κ w ((builtin b ats ty cs (args.map ρ)).run P w) v st' := by
  obtain ⟨args⟩ := args
  unfold chkBuiltin at hc
  split at hc
  · rename_i hargs
    simp only at hargs; subst hargs
    simp only [Bool.and_eq_true] at hc
    obtain ⟨h1, h2⟩ := hc
    split at h2
    · rename_i t ht
      simp only [evOp, Option.map_eq_some_iff] at h
      obtain ⟨r, hr, h⟩ := h
      cases h
      have hls := len_sim (P := P) (w := w) (ty := ty) ht h2 (hρ _ _ h1) hr
      exact OpGood.pure hsr (by simpa using hls)
    · cases h2
  · rename_i u8 esz s' x' hargs
    simp only at hargs; subst hargs
    simp only [Bool.and_eq_true] at hc
    obtain ⟨⟨h1, h2⟩, h3⟩ := hc
    split at h3
    · rename_i t xt ht hxt
      split at h3
      · rename_i el hel
        simp only [Bool.and_eq_true, decide_eq_true_eq] at h3
        obtain ⟨⟨⟨⟨⟨⟨a1, a2⟩, a3⟩, a4⟩, a5⟩, a6⟩, a7⟩ := h3
        obtain ⟨dx, hdx⟩ := Option.isSome_iff_exists.1 a5
        split at a6
        · rename_i zero hz
          simp only [Bool.and_eq_true, decide_eq_true_eq] at a6
          have hT : AppT P t xt el esz zero := by
            refine ⟨sliceElem_eq hel, ⟨dx, hdx, ?_⟩, a1, a2, ?_, hz, a6.1⟩
            · rintro k rfl
              simp [intT, hdx] at a4
            · unfold bytesT at a3
              cases hi : P.info? el with
              | none => simp [hi] at a3
              | some i => simp [hi] at a3; exact ⟨i, rfl, a3.1, a3.2⟩
          have hats : ∀ args : Array Value, (Builtin.append_ ats ty args).run P w = (Builtin.append_ #[t, xt] ty args).run P w := fun args => by
            unfold Builtin.append_
            rw [ht, hxt]; rfl
          refine OpGood.val ?_
          simp only [List.map_toArray, List.map_cons, List.map_nil]
          cases u8 with
          | true =>
            simp only [if_true, Bool.and_eq_true, decide_eq_true_eq] at a7
            obtain ⟨a8, rfl⟩ := a7
            simp only [evOp, if_true] at h
            obtain ⟨z, w', b1, b2⟩ := app8_sim (ty := ty) hsr hT (hρ _ _ h1) (hρ _ _ h2) h
            exact ⟨z, w', by rw [hats]; exact b1, b2⟩
          | false =>
            simp only [evOp, Bool.false_eq_true, if_false] at h
            obtain ⟨z, w', b1, b2⟩ := appV_sim (ty := ty) hsr hT (hρ _ _ h1) (hρ _ _ h2) h
            exact ⟨z, w', by rw [hats]; exact b1, b2⟩
        · cases a6
      · cases h3
    · cases h3
  · rename_i ys
    simp only [evOp, Option.map_eq_some_iff] at h
    obtain ⟨r, hr, h⟩ := h
    cases h
    obtain ⟨c1, c2⟩ := chkOpds_R hρ _ _ hc
    obtain ⟨z, d1, d2⟩ := mnmx_sim (P := P) (w := w) (mx := true) (ats := ats) (ty := ty) (vs := (args.map ρ).toArray) (by simpa using c1) (fun i v p a b => c2 i v p (by simpa using a) b) hr
    exact OpGood.pure hsr ⟨z, by simpa using d1, d2⟩
  · rename_i ys
    simp only [evOp, Option.map_eq_some_iff] at h
    obtain ⟨r, hr, h⟩ := h
    cases h
    obtain ⟨c1, c2⟩ := chkOpds_R hρ _ _ hc
    obtain ⟨z, d1, d2⟩ := mnmx_sim (P := P) (w := w) (mx := false) (ats := ats) (ty := ty) (vs := (args.map ρ).toArray) (by simpa using c1) (fun i v p a b => c2 i v p (by simpa using a) b) hr
    exact OpGood.pure hsr ⟨z, by simpa using d1, d2⟩
  · cases hc

def isCall : AOp → Bool
  | .call _ _ => true
  | _ => false

theorem b2s_src {mu : Bool} {st : St} {p : PV} {l : List UInt8} (h : b2s mu st p = some l) : src8 st p = some l ∧ ∀ s, p ≠ .str s := by
  unfold b2s at h
  split at h
  · exact ⟨by rw [← h]; rfl, fun s => by simp⟩
  · exact ⟨by rw [← h]; rfl, fun s => by simp⟩
  · split at h
    · exact ⟨h, fun s => by simp⟩
    · cases h
  · cases h


theorem op_sim (hsr : SR P g base κ w st) {ρ : Operand → Value} {e : Env} (hρ : OpdR g κ ρ e) {o : Oper} {a : AOp} {cv : PV → List PV → St → Option (PV × St)} {v : PV} {st' : St}
    (hc : chkOp P g o.op a = true) (hnc : isCall a = false) (h : evOp cv a e st = some (v, st')) : OpGood P g base κ w ((execOp ρ o).run P w) v st' := by
  unfold chkOp at hc
  split at hc
  -- move, assign
  · rename_i x y ho
    simp only [evOp, Option.some.injEq, Prod.mk.injEq] at h
    obtain ⟨rfl, rfl⟩ := h
    exact ⟨_, w, .inl (by simp only [execOp, ho]; rfl), Good.same hsr (hρ _ _ hc)⟩
  · rename_i x y ho
    simp only [evOp, Option.some.injEq, Prod.mk.injEq] at h
    obtain ⟨rfl, rfl⟩ := h
    exact ⟨_, w, .inl (by simp only [execOp, ho]; rfl), Good.same hsr (hρ _ _ hc)⟩
  -- pick
  · rename_i c x y c' x' y' ho
    simp only [Bool.and_eq_true] at hc
    simp only [evOp] at h
    split at h
    · rename_i t ht
      have hb := hρ _ _ hc.1.1
      rw [ht] at hb
      cases h
      refine ⟨if t then ρ x else ρ y, w, .inl ?_, Good.same hsr (by cases t with | true => exact hρ _ _ hc.1.2 | false => exact hρ _ _ hc.2)⟩
      simp only [execOp, ho]
      generalize ρ c = vc at hb
      cases hb
      simp only [Sem.run_bind, asBool, Sem.run_pure, Result.andThen_ok]
    · cases h
  -- alloc
  · rename_i t z ho
    split at hc
    · rename_i zv hz
      simp only [evOp, Option.some.injEq] at h
      obtain ⟨u, w', h1, h2⟩ := alloc_sim hsr hz hc
      rw [h] at h2
      simp only [execOp, ho]
      exact OpGood.val ⟨u, w', h1, h2⟩
    · cases hc
  -- box
  · rename_i t x y ho
    simp only [evOp] at h
    split at h
    · rename_i hb
      simp only [Option.some.injEq] at h
      obtain ⟨u, w', h1, h2⟩ := box_sim (t := t) hsr (hρ _ _ hc) hb.1 hb.2
      rw [h] at h2
      simp only [execOp, ho]
      exact OpGood.val ⟨u, w', h1, h2⟩
    · cases h
  -- build
  · rename_i t parts z ps ho
    simp only [Bool.and_eq_true] at hc
    obtain ⟨hz, hp⟩ := hc
    split at hz
    · rename_i zv hzv
      simp only [evOp, Option.map_eq_some_iff] at h
      obtain ⟨r, ⟨cells, hr, rfl⟩, h⟩ := h
      cases h
      simp only [execOp, ho]
      split at hp
      · rename_i fs hu
        simp only [Bool.and_eq_true] at hp
        obtain ⟨u, h1, h2⟩ := build_struct (P := P) (w := w) (parts := parts.map fun (i, x) => (i, ρ x)) hzv hu hp.1 hz (by
          have := chkPartsS_R (P := P) (fs := fs) hρ _ _ hp.2
          simpa using this) hr
        exact OpGood.pure hsr ⟨u, h1, h2⟩
      · rename_i n el hu
        split at hp
        · rename_i n' hn
          obtain ⟨u, h1, h2⟩ := build_array (P := P) (w := w) (parts := parts.map fun (i, x) => (i, ρ x)) hzv hu hn hz (by
            have := chkPartsA_R (n := n') hρ _ _ hp
            simpa using this) hr
          exact OpGood.pure hsr ⟨u, h1, h2⟩
        · cases hp
      · cases hp
    · cases hz
  -- lit8
  · rename_i t len parts len' ps ho
    simp only [Bool.and_eq_true, decide_eq_true_eq] at hc
    obtain ⟨⟨⟨rfl, h1⟩, h2⟩, h3⟩ := hc
    simp only [evOp] at h
    split at h
    · rename_i l hl
      simp only [Option.some.injEq] at h
      split at h2
      · rename_i el hel
        simp only [Bool.and_eq_true, decide_eq_true_eq] at h2
        obtain ⟨⟨h4, h5⟩, h6⟩ := h2
        split at h6
        · rename_i zv hz
          simp only [execOp, ho]
          obtain ⟨u, w', a1, a2⟩ := lit8_sim hsr (parts := parts.map fun (i, x) => (i, ρ x)) hel h5 h1 hz h6 (by
            have := chkPartsL_R hρ _ _ h3
            simpa using this) hl
          cases h
          exact OpGood.val ⟨u, w', a1, a2⟩
        · cases h6
      · cases h2
    · cases h
  -- lit
  · rename_i t len parts esz z len' ps ho
    simp only [Bool.and_eq_true, decide_eq_true_eq] at hc
    obtain ⟨⟨rfl, h2⟩, h3⟩ := hc
    simp only [evOp] at h
    split at h
    · rename_i l hl
      split at h2
      · rename_i el hel
        simp only [Bool.and_eq_true, decide_eq_true_eq] at h2
        obtain ⟨⟨⟨⟨⟨h4, h5⟩, h6⟩, h7⟩, h8⟩, h9⟩ := h2
        split at h9
        · rename_i zv hz
          simp only [Bool.and_eq_true] at h9
          simp only [execOp, ho]
          obtain ⟨u, w', a1, a2⟩ := lit_sim hsr (parts := parts.map fun (i, x) => (i, ρ x)) hel h5 h6 h7 h8 hz h9.1 h9.2 (by
            have := chkPartsL_R hρ _ _ h3
            simpa using this) hl
          cases h
          exact OpGood.val ⟨u, w', a1, a2⟩
        · cases h9
      · cases h2
    · cases h
  -- load
  · rename_i t x ag sz y ho
    simp only [Bool.and_eq_true, decide_eq_true_eq, Bool.or_eq_true, Bool.not_eq_true'] at hc
    obtain ⟨⟨h1, h2⟩, h3⟩ := hc
    simp only [evOp, Option.map_eq_some_iff] at h
    obtain ⟨r, hr, h⟩ := h
    cases h
    simp only [execOp, ho]
    exact OpGood.pure hsr (load_sim hsr h2 (fun ha => by rcases h3 with h3 | h3 <;> simp_all) (hρ _ _ h1) hr)
  -- store
  · rename_i t x y sz x' y' ho
    simp only [Bool.and_eq_true, decide_eq_true_eq] at hc
    obtain ⟨⟨h1, h2⟩, h3⟩ := hc
    simp only [evOp, Option.map_eq_some_iff] at h
    obtain ⟨st2, hr, h⟩ := h
    cases h
    obtain ⟨w', a1, a2⟩ := store_sim hsr h3 (hρ _ _ h1) (hρ _ _ h2) hr
    exact ⟨undef, w', .inr ⟨by simp [execOp, ho, a1], rfl⟩, a2⟩
  -- nilCheck
  · rename_i x y ho
    simp only [evOp, Option.map_eq_some_iff] at h
    obtain ⟨r, hr, h⟩ := h
    cases h
    obtain ⟨a1, a2⟩ := nilck_sim (P := P) (w := w) ho rfl (hρ _ _ hc) hr
    exact ⟨_, w, .inl a1, Good.same hsr a2⟩
  -- binOp
  · rename_i op t x y yt op' ek x' y' ho
    simp only [Bool.and_eq_true, decide_eq_true_eq] at hc
    obtain ⟨⟨⟨rfl, h1⟩, h2⟩, h3⟩ := hc
    simp only [evOp, Option.map_eq_some_iff] at h
    obtain ⟨r, hr, h⟩ := h
    cases h
    have hg := eqGuard_sim (P := P) (w := w) (t := t) (x := x) (y := y) h3 (hρ _ _ h1) (hρ _ _ h2) hr
    obtain ⟨z, b1, b2⟩ := binPV_sim (P := P) (w := w) h3 (hρ _ _ h1) (hρ _ _ h2) hr
    simp only [execOp, ho]
    exact OpGood.pure hsr ⟨z, by simp only [Sem.run_bind, hg, Result.andThen_ok]; exact b1, b2⟩
  -- unOp
  · rename_i op t x op' y ho
    simp only [Bool.and_eq_true, decide_eq_true_eq] at hc
    obtain ⟨rfl, h1⟩ := hc
    simp only [evOp, Option.map_eq_some_iff] at h
    obtain ⟨r, hr, h⟩ := h
    cases h
    simp only [execOp, ho]
    exact OpGood.pure hsr (unPV_sim (hρ _ _ h1) hr)
  -- conversions
  · rename_i s d x k y ho
    simp only [Bool.and_eq_true, decide_eq_true_eq] at hc
    simp only [evOp, Option.map_eq_some_iff] at h
    obtain ⟨r, hr, h⟩ := h
    cases h
    simp only [execOp, ho]
    exact OpGood.pure hsr (cInt_sim hc.1.2 hc.2 (hρ _ _ hc.1.1) hr)
  · rename_i s d x mu y ho
    simp only [Bool.and_eq_true] at hc
    obtain ⟨⟨h1, h2⟩, h3⟩ := hc
    split at h3
    · rename_i el hel
      simp only [evOp] at h
      split at h
      · rename_i l hl
        have hx := hρ _ _ h1
        rw [hl] at hx
        obtain ⟨u, w', a1, a2⟩ := cS2B_sim (mu := mu) hsr h2 hel h3 hx
        simp only [execOp, ho]
        refine OpGood.val ⟨u, w', a1, ?_⟩
        cases mu <;> simp at h <;> obtain ⟨rfl, rfl⟩ := h <;> exact a2
      · cases h
    · cases h3
  · rename_i s d x y ho
    simp only [Bool.and_eq_true] at hc
    obtain ⟨⟨h1, h2⟩, h3⟩ := hc
    split at h3
    · rename_i el hel
      simp only [evOp, Option.map_eq_some_iff] at h
      obtain ⟨r, ⟨l, hl, rfl⟩, h⟩ := h
      cases h
      simp only [execOp, ho]
      have hx := hρ _ _ h1
      generalize y.ev e = p at hl hx
      refine OpGood.pure hsr ?_
      obtain ⟨hl1, hl2⟩ := b2s_src hl
      exact cB2S_sim hsr hel h3 h2 hx hl1 hl2
    · cases h3
  · rename_i s d x y ho
    simp only [Bool.and_eq_true] at hc
    obtain ⟨⟨h1, h2⟩, h3⟩ := hc
    simp only [evOp] at h
    split at h
    · rename_i l hl
      cases h
      have hx := hρ _ _ h1
      rw [hl] at hx
      simp only [execOp, ho]
      exact OpGood.pure hsr ⟨ρ x, cStr_sim h2 h3 hx, hx⟩
    · cases h
  · rename_i s d x y ho
    simp only [Bool.and_eq_true, decide_eq_true_eq] at hc
    obtain ⟨⟨h1, rfl⟩, h3⟩ := hc
    split at h3
    · rename_i el hel
      simp only [evOp] at h
      split at h
      · rename_i i l hl
        split at h
        · rename_i hi
          cases h
          have hx := hρ _ _ h1
          rw [hl] at hx
          obtain ⟨w', a1, a2⟩ := cSame_sim hsr hel h3 hx hi
          simp only [execOp, ho]
          exact OpGood.val ⟨_, w', a1, a2⟩
        · cases h
      · cases h
    · cases h3
  -- makeFunc
  · rename_i f first caps f' cs ho
    simp only [Bool.and_eq_true, decide_eq_true_eq] at hc
    obtain ⟨⟨h1, h2⟩, h3⟩ := hc
    simp only [evOp] at h
    split at h
    case isFalse => cases h
    rename_i hk
    simp only [Option.some.injEq, Prod.mk.injEq] at h
    obtain ⟨rfl, rfl⟩ := h
    obtain ⟨c1, c2⟩ := chkOpds_R hρ _ _ h3
    simp only [execOp, ho]
    refine OpGood.pure hsr (mkfn_sim h1 (by apply Array.eq_empty_of_size_eq_zero; simpa using h2) hk (by simpa using c1) (fun i v p a b => c2 i v p (by simpa using a) b))
  -- makeSlice
  · rename_i t l c mu l' c' ho
    simp only [Bool.and_eq_true] at hc
    obtain ⟨⟨h1, h2⟩, h3⟩ := hc
    split at h3
    · rename_i el hel
      simp only [Bool.and_eq_true, decide_eq_true_eq] at h3
      obtain ⟨⟨⟨h4, h5⟩, h6⟩, h7⟩ := h3
      split at h6
      · rename_i b hb
        simp only [Bool.and_eq_true, decide_eq_true_eq] at h6
        split at h7
        · rename_i zv hz
          simp only [evOp] at h
          split at h
          · rename_i k l0 k' c0 hl0 hc0
            split at h
            · rename_i hbd
              have hx1 := hρ _ _ h1
              have hx2 := hρ _ _ h2
              rw [hl0] at hx1
              rw [hc0] at hx2
              obtain ⟨u, w', a1, a2⟩ := mk8_sim (mu := mu) hsr hel h5 hb h6.2 hz h7 hx1 hx2 hbd.1 hbd.2.1 hbd.2.2
              simp only [execOp, ho]
              refine OpGood.val ⟨u, w', a1, ?_⟩
              cases mu <;> simp at h <;> obtain ⟨rfl, rfl⟩ := h <;> exact a2
            · cases h
          · cases h
        · cases h7
      · cases h6
    · cases h3
  · rename_i t l c z l' c' ho
    simp only [Bool.and_eq_true] at hc
    obtain ⟨⟨h1, h2⟩, h3⟩ := hc
    split at h3
    · rename_i el hel
      simp only [Bool.and_eq_true, decide_eq_true_eq] at h3
      obtain ⟨⟨⟨h4, h5⟩, h6⟩, h7⟩ := h3
      split at h6
      · rename_i b hb
        simp only [Bool.and_eq_true, decide_eq_true_eq] at h6
        split at h7
        · rename_i zv hz
          simp only [evOp] at h
          split at h
          · rename_i k l0 k' c0 hl0 hc0
            split at h
            · rename_i hbd
              have hx1 := hρ _ _ h1
              have hx2 := hρ _ _ h2
              rw [hl0] at hx1
              rw [hc0] at hx2
              obtain ⟨u, w', a1, a2⟩ := mkms_sim hsr hel h4 h5 hb h6.2 hz h7 hx1 hx2 hbd.1 hbd.2.1 hbd.2.2
              simp only [execOp, ho]
              cases h
              exact OpGood.val ⟨u, w', a1, a2⟩
            · cases h
          · cases h
        · cases h7
      · cases h6
    · cases h3
  -- slice
  · rename_i t x lo hi mx esz x' lo' hi' mx' ho
    simp only [Bool.and_eq_true, Bool.or_eq_true, Bool.not_eq_true'] at hc
    obtain ⟨⟨⟨⟨⟨h1, h2⟩, h3⟩, h4⟩, h5⟩, h6⟩ := hc
    simp only [evOp, Option.map_eq_some_iff] at h
    obtain ⟨r, hr, h⟩ := h
    cases h
    simp only [execOp, ho]
    have r4 := chkOpdO_R hρ h4
    have r3 := chkOpdO_R hρ h3
    have hsl := slc_sim (P := P) (w := w) h6 (hρ _ _ h1) (chkOpdO_R hρ h2) r3 r4 (by
      intro hs
      rcases h5 with h5 | h5
      · cases mx <;> cases mx' <;> simp_all [chkOpdO]
      · cases hi <;> cases hi' <;> simp_all [chkOpdO]) hr
    obtain ⟨z, b1, b2⟩ := hsl
    refine OpGood.pure hsr ⟨z, ?_, b2⟩
    have hu : ∃ d, P.underlying t = some d ∧ (∀ n el, d ≠ .array n el) := by
      split at h6
      · exact ⟨_, isStrT_eq h6, by simp⟩
      · split at h6
        · rename_i el hel; exact ⟨_, sliceElem_eq hel, by simp⟩
        · cases h6
    obtain ⟨d, hd, hda⟩ := hu
    simp only [Instr.sliceAt, Sem.run_bind, run_underlying hd, Result.andThen_ok]
    first
    | exact b1
    | (split
       · exact absurd rfl (hda _ _)
       · exact b1)
  -- fieldAddr
  · rename_i s x f off y ho
    simp only [Bool.and_eq_true] at hc
    obtain ⟨h1, h2⟩ := hc
    split at h2
    · rename_i fs hfs
      split at h2
      · rename_i fd hfd
        simp only [Bool.and_eq_true, decide_eq_true_eq] at h2
        obtain ⟨h3, h4⟩ := h2
        split at h4
        · rename_i n hn
          simp only [decide_eq_true_eq] at h4
          simp only [evOp, Option.map_eq_some_iff] at h
          obtain ⟨r, hr, h⟩ := h
          cases h
          simp only [execOp, ho]
          exact OpGood.pure hsr (faddr_sim hsr hfs hfd h3 hn h4 (hρ _ _ h1) hr)
        · cases h4
      · cases h2
    · cases h2
  -- field
  · rename_i s x f ag off sz y ho
    simp only [Bool.and_eq_true] at hc
    obtain ⟨h1, h2⟩ := hc
    split at h2
    · rename_i fs hfs
      split at h2
      · rename_i fd hfd
        simp only [Bool.and_eq_true, decide_eq_true_eq, Bool.or_eq_true, Bool.not_eq_true'] at h2
        obtain ⟨⟨h3, h4⟩, h5⟩ := h2
        simp only [evOp, Option.map_eq_some_iff] at h
        obtain ⟨r, hr, h⟩ := h
        cases h
        simp only [execOp, ho]
        exact OpGood.pure hsr (fld_sim hfs hfd h3 h4 (fun ha => by rcases h5 with h5 | h5 <;> simp_all) (hρ _ _ h1) hr)
      · cases h2
    · cases h2
  -- indexAddr
  · rename_i t x i esz y j ho
    simp only [Bool.and_eq_true] at hc
    obtain ⟨⟨h1, h2⟩, h3⟩ := hc
    split at h3
    · rename_i el hel
      simp only [decide_eq_true_eq] at h3
      simp only [evOp, Option.map_eq_some_iff] at h
      obtain ⟨r, hr, h⟩ := h
      cases h
      simp only [execOp, ho]
      exact OpGood.pure hsr (iaddr_sim hsr hel h3 (hρ _ _ h1) (hρ _ _ h2) hr)
    · cases h3
  · rename_i t x i len esz y j ho
    simp only [Bool.and_eq_true] at hc
    obtain ⟨⟨h1, h2⟩, h3⟩ := hc
    split at h3
    · rename_i n el hel
      simp only [Bool.and_eq_true, decide_eq_true_eq] at h3
      obtain ⟨rfl, h4⟩ := h3
      simp only [evOp, Option.map_eq_some_iff] at h
      obtain ⟨r, hr, h⟩ := h
      cases h
      simp only [execOp, ho]
      exact OpGood.pure hsr (iaddrA_sim hel h4 (hρ _ _ h1) (hρ _ _ h2) hr)
    · cases h3
  -- index
  · rename_i t x i len ag esz y j ho
    simp only [Bool.and_eq_true] at hc
    obtain ⟨⟨h1, h2⟩, h3⟩ := hc
    split at h3
    · rename_i n el hel
      simp only [Bool.and_eq_true, decide_eq_true_eq] at h3
      obtain ⟨⟨rfl, h4⟩, h5⟩ := h3
      simp only [evOp, Option.map_eq_some_iff] at h
      obtain ⟨r, hr, h⟩ := h
      cases h
      simp only [execOp, ho]
      exact OpGood.pure hsr (idx_sim hel h4 h5 (hρ _ _ h1) (hρ _ _ h2) hr)
    · cases h3
  · rename_i t x i y j ho
    simp only [Bool.and_eq_true] at hc
    simp only [evOp, Option.map_eq_some_iff] at h
    obtain ⟨r, hr, h⟩ := h
    cases h
    simp only [execOp, ho]
    exact OpGood.pure hsr (idxS_sim hc.2 (hρ _ _ hc.1.1) (hρ _ _ hc.1.2) hr)
  -- extract
  · rename_i x k k' y ho
    simp only [Bool.and_eq_true, decide_eq_true_eq] at hc
    obtain ⟨h1, rfl⟩ := hc
    simp only [evOp, Option.map_eq_some_iff] at h
    obtain ⟨r, hr, h⟩ := h
    cases h
    simp only [execOp, ho]
    exact OpGood.pure hsr (ext_sim (hρ _ _ h1) hr)
  -- builtins
  · rename_i a0 _ c ho
    obtain ⟨callee, args, ats⟩ := c
    cases callee with
    | value f =>
      simp only at hc
      split at hc
      · simp [isCall] at hnc
      · cases hc
    | builtin b =>
      simp only [execOp, ho, resolve, Sem.run_bind, Sem.run_pure, Result.andThen_ok, invoke]
      exact builtin_sim hsr hρ hc h
    | invoke r n => simp at hc
  · cases hc

end Go.Ab
