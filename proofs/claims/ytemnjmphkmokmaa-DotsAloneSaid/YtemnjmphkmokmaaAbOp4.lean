/-
  Rows of values that do not turn: literals, conversions, make; stores into boxes.
-/
import Derived.Test.YtemnjmphkmokmaaAbOp3
namespace Go.Ab
set_option linter.unusedVariables false
set_option linter.unusedSimpArgs false

variable {P : Program} {g : GMap} {base : Nat} {κ : K} {w : World} {st : St}

/-- A new row that is read as xs. -/
theorem good_row (h : SR P g base κ w st) {w' : World} {el : TypeId} {fz : Nat × Nat} {rs : Array Value} {xs : List PV} {esz n c : Nat} {toks : List Bool}
    (hw : w'.heap = w.heap.push (.cells rs el fz)) (ho : w'.os = w.os) (hta : w'.tape = w.tape) (hou : w'.output = w.output) (hfz : fz.1 = fz.2 ∨ rs.size ≤ fz.1)
    (hn : n = xs.length) (hc : n ≤ c) (hcs : c * esz ≤ rs.size) (he : ∀ x ∈ xs, x.cells.length = esz) (hd : dataAll xs = true) (hlf : (flat xs).all leafOk = true)
    (hr : ∀ (i : Nat) (v : Value) (p : PV), rs[i]? = some v → (flat xs)[i]? = some p → R g κ v p)
    (htl : toks.length = st.toks.length) (htt : ∀ (i : Nat), toks[i]? = some true → st.toks[i]? = some true) :
    Good P g base κ w (.slice (some ⟨w.heap.size, 0, none⟩) n c) w' (.sl esz (.own st.toks.length) xs) { st with toks := toks ++ [true] } := by
  have hfl := flat_length he
  have hm : n * esz ≤ rs.size := Nat.le_trans (Nat.mul_le_mul_right _ hc) hcs
  obtain ⟨h1, h2⟩ := h.addTok rs el fz (n * esz) (c * esz) hw hfz hm hcs toks htl htt
  refine ⟨_, h1, rfl, h2, ?_, Fr.push h.hb hw ho hta hou⟩
  refine .sl _ 0 n c esz _ xs (rs.toList.take (n * esz)) hn hc he (by rw [hfl, ← hn]; simp; omega) (fun i v hi => ?_) (fun i v p a b => ?_) hd hlf ?_
  · rw [List.getElem?_take] at hi
    split at hi
    · rename_i hlt
      simp [K.addC, hlt] at hi ⊢
      simp [hi]
    · cases hi
  · rw [List.getElem?_take] at a
    split at a
    · exact (hr i v p (by simpa using a) b).mono h1
    · cases a
  · refine ⟨n * esz, c * esz, ?_, fun _ => ⟨by omega, by omega⟩⟩
    show (κ.τ ++ [_])[st.toks.length]? = _
    rw [← h.tl]; simp

/-- The same for bytes. -/
theorem good_bytes (h : SR P g base κ w st) {w' : World} {el : TypeId} {fz : Nat × Nat} {rs : Array Value} {l : List UInt8} {n c : Nat} {toks : List Bool}
    (hw : w'.heap = w.heap.push (.cells rs el fz)) (ho : w'.os = w.os) (hta : w'.tape = w.tape) (hou : w'.output = w.output) (hfz : fz.1 = fz.2 ∨ rs.size ≤ fz.1)
    (hn : n = l.length) (hc : n ≤ c) (hcs : c ≤ rs.size) (hr : ∀ (i : Nat) (b : UInt8), l[i]? = some b → rs[i]? = some (.int .u8 b.toNat))
    (htl : toks.length = st.toks.length) (htt : ∀ (i : Nat), toks[i]? = some true → st.toks[i]? = some true) :
    Good P g base κ w (.slice (some ⟨w.heap.size, 0, none⟩) n c) w' (.bys (.own st.toks.length) l) { st with toks := toks ++ [true] } := by
  obtain ⟨h1, h2⟩ := h.addTok rs el fz n c hw hfz (by omega) hcs toks htl htt
  refine ⟨_, h1, rfl, h2, ?_, Fr.push h.hb hw ho hta hou⟩
  refine .bys _ 0 n c _ l hn hc (fun i b hi => ?_) ?_
  · have hlt : i < n := by rw [hn]; exact (List.getElem?_eq_some_iff.1 hi).1
    simp [K.addC, hlt, hr i b hi]
  · refine ⟨n, c, ?_, fun _ => ⟨by omega, by omega⟩⟩
    show (κ.τ ++ [_])[st.toks.length]? = _
    rw [← h.tl]; simp

theorem same_toks (st : St) : st.toks.length = st.toks.length ∧ ∀ (i : Nat), st.toks[i]? = some true → st.toks[i]? = some true := ⟨rfl, fun _ h => h⟩

theorem stripLeaf_R {v : Value} {p q : PV} (hx : R g κ v p) (h : stripLeaf p = some q) : R g κ v q ∧ q.data = true ∧ leafOk q = (leafOk p) ∧ q.cells = [q] ∧ v.cells = #[v] := by
  cases p <;> simp [stripLeaf] at h <;> subst h
  case bool => cases hx; exact ⟨.bool _, rfl, rfl, rfl, rfl⟩
  case b8 => cases hx with | b8 b n hn => exact ⟨.b8 _ _ hn, rfl, rfl, rfl, rfl⟩
  case int => cases hx with | int k n hk => exact ⟨.int _ _ hk, rfl, rfl, rfl, rfl⟩
  case str => cases hx with | str s l hl => exact ⟨.str _ _ hl, rfl, rfl, rfl, rfl⟩
  case nilp => cases hx; exact ⟨.nilp, rfl, rfl, rfl, rfl⟩
  case nils => cases hx; exact ⟨.nils, rfl, rfl, rfl, rfl⟩
  case nilf => cases hx; exact ⟨.nilf, rfl, rfl, rfl, rfl⟩
  case nili => cases hx; exact ⟨.nili, rfl, rfl, rfl, rfl⟩
  case bys => cases hx with | bys blk off n c t l hn hc hb ht => exact ⟨.bys _ _ _ _ _ _ hn hc hb trivial, rfl, rfl, rfl, rfl⟩
  case sl => cases hx with | sl blk off n c esz t xs vs hn hc he hl hv hr hd hlf ht => exact ⟨.sl _ _ _ _ _ _ _ _ hn hc he hl hv hr hd hlf trivial, by simp [PV.data, Tok.isNo, hd], rfl, rfl, rfl⟩

theorem stripAll_get : ∀ {ps qs : List PV}, stripAll ps = some qs → ps.length = qs.length ∧ ∀ (i : Nat) (q : PV), qs[i]? = some q → ∃ p, ps[i]? = some p ∧ stripLeaf p = some q := by
  intro ps
  induction ps with
  | nil => intro qs h; simp [stripAll] at h; subst h; simp
  | cons p ps ih =>
    intro qs h
    simp only [stripAll] at h
    split at h
    · rename_i y ys h1 h2
      cases h
      obtain ⟨a, b⟩ := ih h2
      refine ⟨by simp [a], fun i q hq => ?_⟩
      cases i with
      | zero => simp at hq; subst hq; exact ⟨p, rfl, h1⟩
      | succ i => simp at hq; exact b i q hq
    · cases h

theorem strip_R {v : Value} {p q : PV} (hx : R g κ v p) (h : strip p = some q) : R g κ v q ∧ q.data = true ∧ q.cells.all leafOk = true := by
  unfold strip at h
  split at h
  · rename_i cs
    cases hs : stripAll cs with
    | none => simp [hs] at h
    | some qs =>
      simp [hs] at h; subst h
      cases hx with | agg vs _ hl hlf hr =>
      obtain ⟨a, b⟩ := stripAll_get hs
      have hd : dataAll qs = true ∧ qs.all leafOk = true := by
        have key : ∀ q ∈ qs, q.data = true ∧ leafOk q = true := fun q hq => by
          obtain ⟨i, hi⟩ := List.getElem?_of_mem hq
          obtain ⟨p, hp, hpq⟩ := b i q hi
          have hiv : i < vs.size := by rw [hl]; exact (List.getElem?_eq_some_iff.1 hp).1
          obtain ⟨c1, c2, c3, _⟩ := stripLeaf_R (hr i vs[i] p (by simp [hiv]) hp) hpq
          rw [List.all_eq_true] at hlf
          exact ⟨c2, by rw [c3]; exact hlf p (List.mem_of_getElem? hp)⟩
        refine ⟨?_, by rw [List.all_eq_true]; exact fun q hq => (key q hq).2⟩
        clear hs a b hl hr
        induction qs with
        | nil => rfl
        | cons q qs ih => simp only [dataAll, (key q (by simp)).1, Bool.true_and]; exact ih (fun q hq => key q (by simp [hq]))
      refine ⟨.agg vs qs (by rw [hl, a]) hd.2 (fun i v q c d => ?_), by simpa [PV.data] using hd.1, by simpa [PV.cells] using hd.2⟩
      obtain ⟨p, hp, hpq⟩ := b i q d
      exact (stripLeaf_R (hr i v p c hp) hpq).1
  · obtain ⟨a, b, c, d, e⟩ := stripLeaf_R hx h
    refine ⟨a, b, ?_⟩
    rw [d]
    simp only [List.all_cons, List.all_nil, Bool.and_true]
    rw [c]
    cases p <;> simp_all [leafOk, stripLeaf]

/-! ### Literals -/
theorem flat_set {esz : Nat} {l : List PV} {i : Nat} {u : PV} (he : ∀ x ∈ l, x.cells.length = esz) (hu : u.cells.length = esz) (hi : i < l.length) (h0 : 0 < esz) : flat (l.set i u) = setCells (flat l) (i * esz) u.cells := by
  have he' : ∀ x ∈ l.set i u, x.cells.length = esz := fun x hx => by
    rcases List.mem_or_eq_of_mem_set hx with hx | rfl
    · exact he x hx
    · exact hu
  have hbd : i * esz + u.cells.length ≤ (flat l).length := by
    rw [flat_length he, hu, ← Nat.succ_mul]; exact Nat.mul_le_mul_right _ hi
  apply List.ext_getElem?
  intro j
  rw [setCells_get _ _ _ _ hbd, hu]
  have hj : j = (j / esz) * esz + j % esz := by rw [Nat.mul_comm]; exact (Nat.div_add_mod j esz).symm
  have hmod : j % esz < esz := Nat.mod_lt _ h0
  by_cases hk : j / esz = i
  · rw [if_pos (by rw [hk] at hj; omega)]
    have h1 : (l.set i u)[i]? = some u := by simp [hi]
    have h2 : u.cells[j % esz]? = some u.cells[j % esz] := by simp [show j % esz < u.cells.length by omega]
    have h3 := flat_get he' h1 h2
    rw [hk] at hj
    rw [show j - i * esz = j % esz by omega, h2, ← h3]
    congr 1
  · have hne : ¬ (i * esz ≤ j ∧ j < i * esz + esz) := by
      rintro ⟨a, b⟩
      apply hk
      apply Nat.div_eq_of_lt_le
      · exact a
      · rw [Nat.succ_mul]; exact b
    rw [if_neg hne]
    by_cases hlt : j / esz < l.length
    · have h1 : l[j / esz]? = some l[j / esz] := by simp [hlt]
      have hm := he _ (List.mem_of_getElem? h1)
      have h2 : (l[j / esz]).cells[j % esz]? = some (l[j / esz]).cells[j % esz] := by simp [show j % esz < (l[j / esz]).cells.length by omega]
      have h3 := flat_get he h1 h2
      have h4 := flat_get he' (show (l.set i u)[j / esz]? = some l[j / esz] by rw [List.getElem?_set_ne (Ne.symm hk)]; exact h1) h2
      rw [hj, h3, h4]
    · have hge : l.length * esz ≤ j := by
        have : l.length * esz ≤ (j / esz) * esz := Nat.mul_le_mul_right _ (by omega)
        omega
      rw [List.getElem?_eq_none (by rw [flat_length he', List.length_set]; exact hge), List.getElem?_eq_none (by rw [flat_length he]; exact hge)]

/-- What stands of a slice's literal while its parts are laid. -/
structure LitOK (g : GMap) (κ : K) (esz : Nat) (vs : Array Value) (l : List PV) : Prop where
  cr : CR g κ vs (flat l)
  he : ∀ x ∈ l, x.cells.length = esz
  hd : dataAll l = true
  hlf : (flat l).all leafOk = true

def PartsV (g : GMap) (κ : K) : List (Nat × Value) → List (Nat × PV) → Prop
  | [], [] => True
  | (i, v) :: r, (j, p) :: r' => i = j ∧ R g κ v p ∧ PartsV g κ r r'
  | _, _ => False

theorem dataAll_set {l : List PV} {i : Nat} {u : PV} (h : dataAll l = true) (hu : u.data = true) : dataAll (l.set i u) = true := by
  induction l generalizing i with
  | nil => simp [dataAll]
  | cons x xs ih =>
    simp only [dataAll, Bool.and_eq_true] at h
    cases i with
    | zero => simp [dataAll, hu, h.2]
    | succ i => simp [dataAll, h.1, ih h.2]

theorem litFill_sim {esz : Nat} (h0 : 0 < esz) : ∀ (parts : List (Nat × Value)) (ps : List (Nat × PV)) (vs : Array Value) (l l' : List PV), PartsV g κ parts ps → LitOK g κ esz vs l →
    litFill esz l ps = some l' → ∃ vs', Instr.fill (fun i => some (i * esz, esz)) vs parts = some vs' ∧ LitOK g κ esz vs' l' ∧ l'.length = l.length := by
  intro parts
  induction parts with
  | nil =>
    intro ps vs l l' hp hc h
    cases ps with
    | cons => exact hp.elim
    | nil => simp [litFill] at h; subst h; exact ⟨vs, rfl, hc, rfl⟩
  | cons q r ih =>
    obtain ⟨i, v⟩ := q
    intro ps vs l l' hp hc h
    cases ps with
    | nil => exact hp.elim
    | cons q' r' =>
      obtain ⟨j, p⟩ := q'
      obtain ⟨rfl, h2, h3⟩ := hp
      simp only [litFill] at h
      split at h
      · rename_i u hu
        split at h
        · rename_i hb
          obtain ⟨hb1, hb2⟩ := hb
          obtain ⟨r1, r2, r3⟩ := strip_R h2 hu
          have hcl := r1.cells
          have hbd : i * esz + u.cells.length ≤ (flat l).length := by
            rw [flat_length hc.he, hb2, ← Nat.succ_mul]; exact Nat.mul_le_mul_right _ hb1
          have hcr := CR.set hc.cr (us := v.cells) (qs := u.cells) hcl hbd
          rw [← flat_set hc.he hb2 hb1 h0] at hcr
          have hnew : LitOK g κ esz (setA vs (i * esz) v.cells.toList) (l.set i u) := by
            refine ⟨hcr, fun x hx => ?_, dataAll_set hc.hd r2, ?_⟩
            · rcases List.mem_or_eq_of_mem_set hx with hx | rfl
              · exact hc.he x hx
              · exact hb2
            · rw [flat_set hc.he hb2 hb1 h0]; exact setCells_all _ _ _ hc.hlf r3
          obtain ⟨vs', a1, a2, a3⟩ := ih r' _ _ _ h3 hnew h
          refine ⟨vs', ?_, a2, by rw [a3]; simp⟩
          simp only [Instr.fill]
          rw [if_neg (by simp only [Bool.or_eq_true, decide_eq_true_eq, ne_eq, not_or]; rw [hcl.1, hb2, hc.cr.1]; rw [hb2] at hbd; simp; omega)]
          rw [fill_step]
          exact a1
        · cases h
      · cases h

theorem flat_replicate_get {esz : Nat} {z : PV} (hz : z.cells.length = esz) (h0 : 0 < esz) {len i : Nat} (hi : i < len * esz) : (flat (List.replicate len z))[i]? = z.cells[i % esz]? := by
  have hmod : i % esz < esz := Nat.mod_lt _ h0
  have hk : i / esz < len := Nat.div_lt_of_lt_mul (by rw [Nat.mul_comm]; exact hi)
  have h1 : (List.replicate len z)[i / esz]? = some z := by simp [hk]
  have h2 : z.cells[i % esz]? = some z.cells[i % esz] := by simp [show i % esz < z.cells.length by omega]
  have h3 := flat_get (esz := esz) (fun x hx => by rw [List.eq_of_mem_replicate hx]; exact hz) h1 h2
  rw [show (i / esz) * esz + i % esz = i by rw [Nat.mul_comm]; exact Nat.div_add_mod i esz] at h3
  rw [h3, h2]

theorem dataAll_replicate {z : PV} (h : z.data = true) (n : Nat) : dataAll (List.replicate n z) = true := by
  induction n with
  | zero => rfl
  | succ n ih => simp [List.replicate_succ, dataAll, h, ih]

theorem flat_all {xs : List PV} (h : ∀ x ∈ xs, x.cells.all leafOk = true) : (flat xs).all leafOk = true := by
  rw [List.all_eq_true]
  intro x hx
  obtain ⟨y, hy, hxy⟩ := List.mem_flatMap.1 hx
  have := h y hy
  rw [List.all_eq_true] at this
  exact this x hxy

theorem zeros_CR {esz len : Nat} {zero : Value} {z : PV} (h0 : 0 < esz) (hz : z.cells.length = esz) (hc : chkLeaves zero.cells.toList z.cells = true) :
    CR g κ ((Array.range (len * esz)).map (zero.cells[· % zero.cells.size]!)) (flat (List.replicate len z)) := by
  obtain ⟨h1, h2, h3, h4, h5⟩ := chkLeaves_R (g := g) (κ := κ) _ _ hc
  have hsz : zero.cells.size = esz := by rw [← hz]; simpa using h1
  refine ⟨by rw [flat_length (esz := esz) (fun x hx => by rw [List.eq_of_mem_replicate hx]; exact hz)]; simp, fun i v p a b => ?_⟩
  have hi : i < len * esz := by
    have := (Array.getElem?_eq_some_iff.1 a).1
    simpa using this
  rw [flat_replicate_get hz h0 hi] at b
  have hmod : i % esz < esz := Nat.mod_lt _ h0
  have hm' : i % zero.cells.size < zero.cells.size := by rw [hsz]; exact hmod
  simp [hi] at a
  refine h2 (i % esz) v p ?_ b
  rw [← a, ← hsz]
  simp [getElem!_def, hm', hsz, hmod]

theorem zeros_LitOK {esz len : Nat} {zero : Value} {z : PV} (h0 : 0 < esz) (hz : z.cells.length = esz) (hc : chkLeaves zero.cells.toList z.cells = true) (hcz : chkConst zero z = true) :
    LitOK g κ esz ((Array.range (len * esz)).map (zero.cells[· % zero.cells.size]!)) (List.replicate len z) := by
  obtain ⟨h1, h2, h3, h4, h5⟩ := chkLeaves_R (g := g) (κ := κ) _ _ hc
  have hzd : z.data = true := by
    cases z <;> simp_all [PV.cells, PV.data, dataAll]
  exact ⟨zeros_CR h0 hz hc, fun x hx => by rw [List.eq_of_mem_replicate hx]; exact hz, dataAll_replicate hzd _, flat_all fun x hx => by rw [List.eq_of_mem_replicate hx]; exact h3⟩

theorem lit_sim (h : SR P g base κ w st) {t e : TypeId} {esz len : Nat} {zero : Value} {z : PV} {parts : Array (Nat × Value)} {ps : List (Nat × PV)} {l : List PV}
    (ht : sliceElem P t = some e) (hs : sizeT P e = some esz) (h0 : 0 < esz) (hlen : len * esz ≤ 16777216) (hz : z.cells.length = esz) (hzv : zeroT P e = some zero) (hcz : chkConst zero z = true) (hc : chkLeaves zero.cells.toList z.cells = true)
    (hp : PartsV g κ parts.toList ps) (hl : litFill esz (List.replicate len z) ps = some l) :
    ∃ u w', (Instr.buildSlice t len parts).run P w = .ok u w' ∧ Good P g base κ w u w' (.sl esz (freshT st).1 l) (freshT st).2 := by
  have hu := sliceElem_eq ht
  obtain ⟨vs', a1, a2, a3⟩ := litFill_sim h0 parts.toList ps _ _ l hp (zeros_LitOK (g := g) (κ := κ) (len := len) h0 hz hc hcz) hl
  have hll : l.length = len := by rw [a3]; simp
  have hvs : vs'.size = len * esz := by rw [a2.cr.1, flat_length a2.he, hll]
  have hzero : (if len * esz = 0 then pure #[] else (do pure (← zeroValue e).cells) : Sem (Array Value)).run P w = .ok (if len * esz = 0 then #[] else zero.cells) w := by
    split
    · rfl
    · simp [run_zeroValue hzv]
  refine ⟨.slice (some ⟨w.heap.size, 0, none⟩) len len, { w with heap := w.heap.push (.cells vs' e (0, 0)) }, ?_,
    good_row (toks := st.toks) h rfl rfl rfl rfl (.inl rfl) hll.symm (Nat.le_refl _) (by rw [hvs]; exact Nat.le_refl _) a2.he a2.hd a2.hlf (fun i v p a b => a2.cr.2 i v p a b) rfl (fun _ h => h)⟩
  have hfill : Instr.fill (fun i => some (i * esz, esz)) ((Array.range (len * esz)).map ((if len * esz = 0 then #[] else zero.cells : Array Value)[· % (if len * esz = 0 then #[] else zero.cells : Array Value).size]!)) parts.toList = some vs' := by
    rw [← a1]
    by_cases hle : len * esz = 0
    · simp [hle, show Array.range 0 = #[] from rfl]
    · rw [if_neg hle]
  simp only [Instr.buildSlice, Sem.run_bind, run_underlying hu, Result.andThen_ok, run_sizeOf hs]
  rw [if_neg (by omega)]
  split
  · rename_i hc2
    rw [if_pos hc2] at hfill
    simp only [Sem.run_bind, Sem.run_pure, Result.andThen_ok]
    rw [hfill]
    simp [run_newRow]
  · rename_i hc2
    simp only [Sem.run_bind, run_zeroValue hzv, Result.andThen_ok, Sem.run_pure]
    rw [if_neg hc2] at hfill
    rw [hfill]
    simp [run_newRow]

theorem lit8Fill_eq : ∀ (ps : List (Nat × PV)) (l l' : List UInt8), lit8Fill l ps = some l' → litFill 1 (l.map .b8) ps = some (l'.map .b8) := by
  intro ps
  induction ps with
  | nil => intro l l' h; simp [lit8Fill] at h; subst h; rfl
  | cons q r ih =>
    obtain ⟨i, p⟩ := q
    intro l l' h
    cases p <;> simp [lit8Fill] at h
    obtain ⟨h1, h2⟩ := h
    simp only [litFill, strip, stripLeaf, PV.cells, List.length_map, List.length_cons, List.length_nil]
    rw [if_pos ⟨h1, trivial⟩, ← List.map_set]
    exact ih _ _ h2

theorem flat_b8 (l : List UInt8) : flat (l.map .b8) = l.map .b8 := by
  induction l with
  | nil => rfl
  | cons x xs ih => simp only [List.map_cons, flat, List.flatMap_cons] at *; rw [ih]; rfl

theorem lit8_sim (h : SR P g base κ w st) {t e : TypeId} {len : Nat} {zero : Value} {parts : Array (Nat × Value)} {ps : List (Nat × PV)} {l : List UInt8}
    (ht : sliceElem P t = some e) (hs : sizeT P e = some 1) (hlen : len ≤ 16777216) (hzv : zeroT P e = some zero) (hc : chkLeaf zero (.b8 0) = true)
    (hp : PartsV g κ parts.toList ps) (hl : lit8Fill (List.replicate len 0) ps = some l) :
    ∃ u w', (Instr.buildSlice t len parts).run P w = .ok u w' ∧ Good P g base κ w u w' (.bys (freshT st).1 l) (freshT st).2 := by
  have hu := sliceElem_eq ht
  have hcells : zero.cells = #[zero] := (chkLeaf_R (g := g) (κ := κ) hc).2.2.2.2.2
  have hcl : chkLeaves zero.cells.toList (PV.b8 0).cells = true := by rw [hcells]; simp [PV.cells, chkLeaves, hc]
  have hcc : chkConst zero (.b8 0) = true := by
    cases zero <;> simp_all [chkConst, chkLeaf, Value.cells]
  have hl' := lit8Fill_eq _ _ _ hl
  rw [List.map_replicate] at hl'
  obtain ⟨vs', a1, a2, a3⟩ := litFill_sim (esz := 1) (by decide) parts.toList ps _ _ _ hp (zeros_LitOK (g := g) (κ := κ) (len := len) (by decide) rfl hcl hcc) hl'
  have hll : l.length = len := by simpa using a3
  have hcr := a2.cr
  rw [flat_b8] at hcr
  have hvs : vs'.size = len := by rw [hcr.1]; simpa using hll
  have hzero : (if len * 1 = 0 then pure #[] else (do pure (← zeroValue e).cells) : Sem (Array Value)).run P w = .ok (if len * 1 = 0 then #[] else zero.cells) w := by
    split
    · rfl
    · simp [run_zeroValue hzv]
  refine ⟨.slice (some ⟨w.heap.size, 0, none⟩) len len, { w with heap := w.heap.push (.cells vs' e (0, 0)) }, ?_,
    good_bytes (toks := st.toks) h rfl rfl rfl rfl (.inl rfl) hll.symm (Nat.le_refl _) (by rw [hvs]; exact Nat.le_refl _) (fun i b hi => ?_) rfl (fun _ h => h)⟩
  · simp only [Instr.buildSlice, Sem.run_bind, run_underlying hu, Result.andThen_ok, run_sizeOf hs]
    rw [if_neg (by omega)]
    split
    · rename_i hc2
      have hfill : Instr.fill (fun i => some (i * 1, 1)) ((Array.range (len * 1)).map ((#[] : Array Value)[· % (#[] : Array Value).size]!)) parts.toList = some vs' := by
        have hz0 : len = 0 := by omega
        subst hz0
        rw [← a1]; simp [show Array.range 0 = #[] from rfl]
      simp only [Sem.run_bind, Sem.run_pure, Result.andThen_ok]
      rw [hfill]
      simp [run_newRow]
    · rename_i hc2
      simp only [Sem.run_bind, run_zeroValue hzv, Result.andThen_ok, Sem.run_pure]
      rw [a1]
      simp [run_newRow]
  · have hlt : i < vs'.size := by rw [hvs, ← hll]; exact (List.getElem?_eq_some_iff.1 hi).1
    have := hcr.2 i vs'[i] (.b8 b) (by simp [hlt]) (by simp [hi])
    simp only [Array.getElem?_eq_getElem hlt, Option.some.injEq]
    generalize vs'[i] = q at this
    cases this with | b8 _ n hn => rw [hn]

end Go.Ab
