/-
  Operations that make or write memory.
-/
import Derived.Test.YtemnjmphkmokmaaAbOp2
namespace Go.Ab
set_option linter.unusedVariables false
set_option linter.unusedSimpArgs false

variable {P : Program} {g : GMap} {base : Nat} {κ : K} {w : World} {st : St}

/-- What an operation must come to. -/
def Good (P : Program) (g : GMap) (base : Nat) (κ : K) (w : World) (z : Value) (w' : World) (v : PV) (st' : St) : Prop :=
  ∃ κ', K.le κ κ' ∧ κ'.lam = κ.lam ∧ SR P g base κ' w' st' ∧ R g κ' z v ∧ Fr base κ.lam w w'

theorem Good.same (h : SR P g base κ w st) {z : Value} {v : PV} (hr : R g κ z v) : Good P g base κ w z w v st := ⟨κ, K.le.refl κ, rfl, h, hr, Fr.refl _ _⟩

theorem run_newRow (t : TypeId) (cells : Array Value) : (newRow t cells).run P w = .ok ⟨w.heap.size, 0, none⟩ { w with heap := w.heap.push (.cells cells t (0, 0)) } := by
  simp [newRow, newObj, Sem.run]

/-- Cells and their abstractions. -/
def CR (g : GMap) (κ : K) (vs : Array Value) (ps : List PV) : Prop := vs.size = ps.length ∧ ∀ (i : Nat) (v : Value) (p : PV), vs[i]? = some v → ps[i]? = some p → R g κ v p

theorem good_box (h : SR P g base κ w st) {el : TypeId} {rs : Array Value} {cs : List PV} (hcr : CR g κ rs cs) (hlf : cs.all leafOk = true) (hlw : ∀ c ∈ cs, c.inB st.boxes.length = true) :
    Good P g base κ w (.pointer (some ⟨w.heap.size, 0, none⟩)) { w with heap := w.heap.push (.cells rs el (0, 0)) } (.ptr st.boxes.length 0) { st with boxes := st.boxes ++ [cs] } := by
  obtain ⟨h1, h2⟩ := h.addBox (w' := { w with heap := w.heap.push (.cells rs el (0, 0)) }) rs el (0, 0) cs rfl (.inl rfl) (by rw [hcr.1]; exact Nat.le_refl _) (fun i c hi => by
    have : i < rs.size := by rw [hcr.1]; exact (List.getElem?_eq_some_iff.1 hi).1
    exact ⟨rs[i], by simp [this], hcr.2 i _ _ (by simp [this]) hi⟩) hlf hlw
  refine ⟨_, h1, rfl, h2, .ptr _ _ _ ?_, Fr.push h.hb rfl rfl rfl rfl⟩
  show (κ.φ ++ [w.heap.size])[st.boxes.length]? = _
  rw [← h.bl]; simp

theorem alloc_sim (h : SR P g base κ w st) {t : TypeId} {v : Value} {z : List PV} (hz : zeroT P t = some v) (hc : chkLeaves v.cells.toList z = true) :
    ∃ u w', (Instr.alloc t true (.tuple #[])).run P w = .ok u w' ∧ Good P g base κ w u w' (allocPV st z).1 (allocPV st z).2 := by
  obtain ⟨h1, h2, h3, h4, _⟩ := chkLeaves_R (g := g) (κ := κ) _ _ hc
  refine ⟨_, _, ?_, good_box h (el := t) (rs := v.cells) ⟨by simpa using h1, fun i v p a b => h2 i v p (by simpa using a) b⟩ h3 (fun c hc => h4 _ c hc)⟩
  simp [Instr.alloc, run_zeroValue hz, newVar, run_newRow]

theorem inB_cells {n : Nat} {p : PV} (h : p.inB n = true) : ∀ c ∈ p.cells, c.inB n = true := by
  cases p <;> simp only [PV.cells, List.mem_singleton] <;> (try (rintro c rfl; exact h))
  rename_i cs
  simp only [PV.inB] at h
  intro c hc
  induction cs with
  | nil => simp at hc
  | cons x xs ih =>
    simp only [PV.inB.inBAll, Bool.and_eq_true] at h
    simp at hc
    rcases hc with rfl | hc
    · exact h.1
    · exact ih h.2 hc

theorem box_sim (h : SR P g base κ w st) {t : TypeId} {v : Value} {p : PV} (hx : R g κ v p) (hb : p.inB st.boxes.length = true) (hlf : p.cells.all leafOk = true) :
    ∃ u w', (Instr.box t v).run P w = .ok u w' ∧ Good P g base κ w u w' (allocPV st p.cells).1 (allocPV st p.cells).2 := by
  refine ⟨_, _, ?_, good_box h (el := t) (rs := v.cells) hx.cells hlf (inB_cells hb)⟩
  simp [Instr.box, newVar, run_newRow]

/-! ### Aggregates -/
theorem setCells_length (vs : List PV) : ∀ (cs : List PV) (off : Nat), (setCells cs off vs).length = cs.length := by
  induction vs with
  | nil => intro cs off; rfl
  | cons v vs ih => intro cs off; simp [setCells, ih]

theorem setCells_get (vs : List PV) : ∀ (cs : List PV) (off j : Nat), off + vs.length ≤ cs.length →
    (setCells cs off vs)[j]? = if off ≤ j ∧ j < off + vs.length then vs[j - off]? else cs[j]? := by
  induction vs with
  | nil => intro cs off j h; simp [setCells]; intro h1 h2; omega
  | cons v vs ih =>
    intro cs off j h
    simp at h
    rw [setCells, ih _ _ _ (by simp; omega)]
    by_cases h1 : off + 1 ≤ j ∧ j < off + 1 + vs.length
    · rw [if_pos h1, if_pos ⟨by omega, by simp; omega⟩]
      obtain ⟨d, rfl⟩ : ∃ d, j = off + 1 + d := ⟨j - (off + 1), by omega⟩
      rw [show off + 1 + d - off = d + 1 by omega, show off + 1 + d - (off + 1) = d by omega]; simp
    · rw [if_neg h1]
      by_cases h2 : j = off
      · subst h2
        rw [if_pos ⟨Nat.le_refl _, by simp⟩]
        simp [show j < cs.length by omega]
      · rw [if_neg (by simp; omega), List.getElem?_set_ne (by omega)]

theorem setCells_all (vs : List PV) : ∀ (cs : List PV) (off : Nat), cs.all leafOk = true → vs.all leafOk = true → (setCells cs off vs).all leafOk = true := by
  induction vs with
  | nil => intro cs off h _; exact h
  | cons v vs ih =>
    intro cs off h1 h2
    simp only [List.all_cons, Bool.and_eq_true] at h2
    refine ih _ _ ?_ h2.2
    rw [List.all_eq_true] at *
    intro x hx
    rcases List.mem_or_eq_of_mem_set hx with hx | rfl
    · exact h1 x hx
    · exact h2.1

theorem CR.set {vs us : Array Value} {ps qs : List PV} (h : CR g κ vs ps) (k : CR g κ us qs) {off : Nat} (hl : off + qs.length ≤ ps.length) : CR g κ (setA vs off us.toList) (setCells ps off qs) := by
  refine ⟨by rw [setA_size, setCells_length]; exact h.1, fun i v p a b => ?_⟩
  rw [setA_get _ _ _ _ (by rw [h.1]; simpa [k.1] using hl)] at a
  rw [setCells_get _ _ _ _ hl] at b
  have : us.toList.length = qs.length := by simpa using k.1
  rw [this] at a
  split at a
  · rename_i hi
    rw [if_pos hi] at b
    exact k.2 _ _ _ (by simpa using a) b
  · rename_i hi
    rw [if_neg hi] at b
    exact h.2 _ _ _ a b

theorem zipIdx_fold (off : Nat) : ∀ (l : List Value) (k : Nat) (cs : Array Value), (l.zipIdx k).foldl (fun cs (q : Value × Nat) => cs.setIfInBounds (off + q.2) q.1) cs = setA cs (off + k) l := by
  intro l
  induction l with
  | nil => intro k cs; rfl
  | cons v l ih =>
    intro k cs
    simp only [List.zipIdx_cons, List.foldl_cons]
    rw [ih, setA, Nat.add_assoc]

theorem fill_step (cells : Array Value) (off : Nat) (us : Array Value) : us.zipIdx.foldl (fun cs (q : Value × Nat) => cs.setIfInBounds (off + q.2) q.1) cells = setA cells off us.toList := by
  rw [← Array.foldl_toList, Array.toList_zipIdx]
  exact zipIdx_fold off us.toList 0 cells

/-- Parts of a literal, of two kinds. -/
def PartsR (g : GMap) (κ : K) (place : Nat → Option (Nat × Nat)) : List (Nat × Value) → List (Nat × Nat × PV) → Prop
  | [], [] => True
  | (i, v) :: r, (off, sz, p) :: r' => place i = some (off, sz) ∧ R g κ v p ∧ PartsR g κ place r r'
  | _, _ => False

theorem fill_sim {place : Nat → Option (Nat × Nat)} : ∀ (parts : List (Nat × Value)) (ps : List (Nat × Nat × PV)) (vs : Array Value) (cs cs' : List PV), PartsR g κ place parts ps → CR g κ vs cs → cs.all leafOk = true →
    buildCells cs ps = some cs' → ∃ vs', Instr.fill place vs parts = some vs' ∧ CR g κ vs' cs' ∧ cs'.all leafOk = true := by
  intro parts
  induction parts with
  | nil =>
    intro ps vs cs cs' hp hc hlf h
    cases ps with
    | cons => exact hp.elim
    | nil => simp [buildCells] at h; subst h; exact ⟨vs, rfl, hc, hlf⟩
  | cons q r ih =>
    obtain ⟨i, v⟩ := q
    intro ps vs cs cs' hp hc hlf h
    cases ps with
    | nil => exact hp.elim
    | cons q' r' =>
      obtain ⟨off, sz, p⟩ := q'
      obtain ⟨h1, h2, h3⟩ := hp
      simp only [buildCells] at h
      split at h
      · rename_i hb
        obtain ⟨hb1, hb2, hb3⟩ := hb
        have hcl := h2.cells
        have hcr := CR.set hc (κ := κ) (g := g) (us := v.cells) (qs := p.cells) hcl (off := off) (by omega)
        obtain ⟨vs', a1, a2, a3⟩ := ih r' _ _ _ h3 hcr (setCells_all _ _ _ hlf hb3) h
        refine ⟨vs', ?_, a2, a3⟩
        simp only [Instr.fill, h1]
        rw [if_neg (by simp [hcl.1, hb1, hc.1]; omega)]
        rw [fill_step]
        exact a1
      · cases h

theorem run_mapM {α β : Type} (f : α → Sem β) (k : α → β) : ∀ (l : List α), (∀ x ∈ l, (f x).run P w = .ok (k x) w) → (l.mapM f).run P w = .ok (l.map k) w := by
  intro l
  induction l with
  | nil => intro _; rfl
  | cons x l ih =>
    intro h
    simp only [List.mapM_cons, Sem.run_bind, h x (by simp), Result.andThen_ok, ih (fun y hy => h y (by simp [hy])), List.map_cons, Sem.run_pure]

theorem build_struct {t : TypeId} {fs : Array Field} {zero : Value} {z cs' : List PV} {parts : Array (Nat × Value)} {ps : List (Nat × Nat × PV)} (hz : zeroT P t = some zero) (hu : P.underlying t = some (.struct fs))
    (hall : allFields P fs = true) (hzc : chkLeaves zero.cells.toList z = true) (hp : PartsR g κ (fun (i : Nat) => (fs[i]?).bind fun (f : Field) => (sizeT P f.type).map fun n => (f.offset, n)) parts.toList ps) (hb : buildCells z ps = some cs') :
    ∃ u, (Instr.build t parts).run P w = .ok u w ∧ R g κ u (.agg cs') := by
  obtain ⟨h1, h2, h3, h4, _⟩ := chkLeaves_R (g := g) (κ := κ) _ _ hzc
  obtain ⟨vs', a1, a2, a3⟩ := fill_sim parts.toList ps zero.cells z cs' hp ⟨by simpa using h1, fun i v p a b => h2 i v p (by simpa using a) b⟩ h3 hb
  have hpl : (fs.mapM fun (f : Field) => (do pure (f.offset, ← sizeOf f.type) : Sem (Nat × Nat))).run P w = .ok ((fs.toList.map fun (f : Field) => (f.offset, (sizeT P f.type).getD 0)).toArray) w := by
    rw [Array.mapM_eq_mapM_toList]
    simp only [Sem.run_map]
    rw [run_mapM _ (fun (f : Field) => (f.offset, (sizeT P f.type).getD 0)) _ (fun f hf => by
      simp only [allFields, List.all_eq_true] at hall
      obtain ⟨n, hn⟩ := Option.isSome_iff_exists.1 (hall f hf)
      simp [run_sizeOf hn, hn])]
    simp
  have hplace : (fun (i : Nat) => (((fs.toList.map fun (f : Field) => (f.offset, (sizeT P f.type).getD 0)).toArray)[i]? : Option (Nat × Nat))) = (fun (i : Nat) => (fs[i]?).bind fun (f : Field) => (sizeT P f.type).map fun n => (f.offset, n)) := by
    funext i
    simp only [List.getElem?_toArray, List.getElem?_map, Array.getElem?_toList]
    cases hf : fs[i]? with
    | none => rfl
    | some f =>
      simp only [allFields, List.all_eq_true] at hall
      obtain ⟨n, hn⟩ := Option.isSome_iff_exists.1 (hall f (by rw [← Array.getElem?_toList] at hf; exact List.mem_of_getElem? hf))
      simp [hn]
  refine ⟨.agg vs', ?_, .agg _ _ a2.1 a3 a2.2⟩
  simp only [Instr.build, Sem.run_bind, run_zeroValue hz, Result.andThen_ok, run_underlying hu, hpl]
  rw [hplace, a1]; rfl

theorem build_array {t e : TypeId} {len n : Nat} {zero : Value} {z cs' : List PV} {parts : Array (Nat × Value)} {ps : List (Nat × Nat × PV)} (hz : zeroT P t = some zero) (hu : P.underlying t = some (.array len e)) (hn : sizeT P e = some n)
    (hzc : chkLeaves zero.cells.toList z = true) (hp : PartsR g κ (fun i => some (i * n, n)) parts.toList ps) (hb : buildCells z ps = some cs') :
    ∃ u, (Instr.build t parts).run P w = .ok u w ∧ R g κ u (.agg cs') := by
  obtain ⟨h1, h2, h3, h4, _⟩ := chkLeaves_R (g := g) (κ := κ) _ _ hzc
  obtain ⟨vs', a1, a2, a3⟩ := fill_sim parts.toList ps zero.cells z cs' hp ⟨by simpa using h1, fun i v p a b => h2 i v p (by simpa using a) b⟩ h3 hb
  refine ⟨.agg vs', ?_, .agg _ _ a2.1 a3 a2.2⟩
  simp only [Instr.build, Sem.run_bind, run_zeroValue hz, Result.andThen_ok, run_underlying hu, run_sizeOf hn, a1]
  rfl

end Go.Ab
