/-
  append, make, min and max.
-/
import Derived.Test.YtemnjmphkmokmaaAbOp5
namespace Go.Ab
set_option linter.unusedVariables false
set_option linter.unusedSimpArgs false

variable {P : Program} {g : GMap} {base : Nat} {κ : K} {w : World} {st : St}

theorem growBy_le (n : Nat) : ∀ (r c : Nat), c ≤ 2 * n + 192 → Builtin.growBy n r c ≤ 2 * n + 192 := by
  intro r
  induction r with
  | zero => intro c h; exact h
  | succ r ih =>
    intro c h
    simp only [Builtin.growBy]
    split
    · exact h
    · exact ih _ (by omega)

theorem nextcap_le (n o : Nat) (h : o < n) : Builtin.nextslicecap n o ≤ 2 * n + 192 := by
  unfold Builtin.nextslicecap
  split
  · omega
  · split
    · omega
    · exact growBy_le n 4 o (by omega)

/-- The types of an append. -/
structure AppT (P : Program) (t xt e : TypeId) (esz : Nat) (zero : Value) : Prop where
  hu : P.underlying t = some (.slice e)
  hx : ∃ d, P.underlying xt = some d ∧ ∀ k, d ≠ .int k
  hs : sizeT P e = some esz
  h0 : 0 < esz
  hb : ∃ i, P.info? e = some i ∧ 0 < i.bytes ∧ i.bytes ≤ 256
  hz : zeroT P e = some zero
  hzs : zero.cells.size = esz

theorem notInt (d : TypeDesc) (h : ∀ k, d ≠ .int k) : (match d with | .int _ => true | _ => false) = false := by
  cases d with
  | int k => exact absurd rfl (h k)
  | _ => rfl

/-- What is appended, or stood ahead, as cells. -/
def Src (P : Program) (w : World) (esz n : Nat) (x : Value) (new : Array Value) : Prop :=
  (∀ w1 : World, (Builtin.lenOf x).run P w1 = .ok n w1) ∧ ∀ w1 : World, w1.heap = w.heap → (Builtin.firstCells esz n x).run P w1 = .ok new w1

theorem run_append_grow {t xt e ty : TypeId} {esz sLen sCap n : Nat} {zero : Value} {ab : Option Addr} {x : Value} {new old : Array Value} (hT : AppT P t xt e esz zero)
    (hx : Src P w esz n x new) (ho : Src P w esz sLen (.slice ab sLen sCap) old) (hneed : ¬ sLen + n ≤ sCap) (hroom : sLen + n ≤ room) :
    ∃ c rest, (Builtin.append_ #[t, xt] ty #[.slice ab sLen sCap, x]).run P w =
        .ok (.slice (some ⟨w.heap.size, 0, none⟩) (sLen + n) c) { w with drawn := w.drawn + 1, heap := w.heap.push (.cells (old ++ new ++ rest) e (0, 0)) } ∧ sLen + n ≤ c ∧ rest.size = (c - (sLen + n)) * esz := by
  obtain ⟨d, hd, hdi⟩ := hT.hx
  obtain ⟨i, hi, hib0, hib⟩ := hT.hb
  have hroom' : room = 68719476736 := rfl
  have hmax : IntKind.i64.max = 9223372036854775807 := by decide
  have hcap := nextcap_le (sLen + n) sCap (by omega)
  have hbytes : Builtin.nextslicecap (sLen + n) sCap * i.bytes ≤ (2 * (sLen + n) + 192) * 256 := Nat.mul_le_mul hcap hib
  refine ⟨grownCap w (sLen + n) sCap e, Builtin.zeroCells zero.cells (grownCap w (sLen + n) sCap e - (sLen + n)), ?_, grown_ge _ _ _ _, by simp [Builtin.zeroCells, hT.hzs]⟩
  unfold Builtin.append_
  simp only [List.getElem?_toArray, List.getElem?_cons_zero, List.getElem?_cons_succ, Sem.run_bind, run_underlying hT.hu, Result.andThen_ok, run_sizeOf hT.hs, run_underlying hd, Sem.run_pure, notInt d hdi, Bool.false_eq_true, if_false, hx.1,
    Bool.not_false, if_true]
  rw [if_neg hneed]
  simp only [Sem.run_bind, run_typeInfo hi, Result.andThen_ok]
  rw [if_neg (by rintro ⟨h1, _⟩; rw [hmax] at h1; omega)]
  simp only [Sem.run_bind, run_typeInfo hi, Result.andThen_ok]
  rw [if_neg (by omega)]
  have hch : (choose (.appendCap (sLen + n) sCap e)).run P w = .ok (grownCap w (sLen + n) sCap e) { w with drawn := w.drawn + 1 } := by
    simp [choose, Sem.run, Question.forced, grownCap]
  have hask : ∀ (b : Nat) (w1 : World), (askRoom b).run P w1 = .ok () w1 := fun b w1 => by
    unfold askRoom; split <;> simp [mark, Sem.run]
  have e1 := ho.2 { w with drawn := w.drawn + 1 } rfl
  have e2 := hx.2 { w with drawn := w.drawn + 1 } rfl
  simp only [Sem.run_bind, hch, Result.andThen_ok, run_typeInfo hi, hask, e1, e2, run_zeroValue hT.hz, run_newRow, Sem.run_pure]

theorem run_append_in {t xt e ty : TypeId} {esz sLen sCap n blk off lo hi : Nat} {zero : Value} {el : TypeId} {x : Value} {new rs : Array Value} (hT : AppT P t xt e esz zero)
    (hx : Src P w esz n x new) (hneed : sLen + n ≤ sCap) (hw : w.heap[blk]? = some (.cells rs el (lo, hi))) (hf : lo = hi ∨ rs.size ≤ lo) (hfit : off + sLen * esz + new.size ≤ rs.size) (hone : ∀ v ∈ new.toList, oneCell v = true) :
    (Builtin.append_ #[t, xt] ty #[.slice (some ⟨blk, off, none⟩) sLen sCap, x]).run P w =
        .ok (.slice (some ⟨blk, off, none⟩) (sLen + n) sCap) (setBlk w blk (setA rs (off + sLen * esz) new.toList) el (lo, hi)) := by
  obtain ⟨d, hd, hdi⟩ := hT.hx
  unfold Builtin.append_
  simp only [List.getElem?_toArray, List.getElem?_cons_zero, List.getElem?_cons_succ, Sem.run_bind, run_underlying hT.hu, Result.andThen_ok, run_sizeOf hT.hs, run_underlying hd, Sem.run_pure, notInt d hdi, Bool.false_eq_true, if_false, hx.1,
    Bool.not_false, if_true]
  rw [if_pos hneed]
  have e2 := hx.2 w rfl
  have h3 := run_storeCells (P := P) (off + sLen * esz) new.toList 0 w rs hw hf (by simpa using hfit) hone
  rw [add_eq]
  simp only [Sem.run_bind, e2, Result.andThen_ok, h3, Sem.run_pure, Nat.add_zero]

theorem run_append_none {t xt e ty : TypeId} {esz n sLen sCap : Nat} {zero : Value} {ab : Option Addr} {x : Value} (hT : AppT P t xt e esz zero)
    (hx : Src P w esz 0 x #[]) (hneed : sLen ≤ sCap) :
    (Builtin.append_ #[t, xt] ty #[.slice ab sLen sCap, x]).run P w = .ok (.slice ab sLen sCap) w := by
  obtain ⟨d, hd, hdi⟩ := hT.hx
  unfold Builtin.append_
  simp only [List.getElem?_toArray, List.getElem?_cons_zero, List.getElem?_cons_succ, Sem.run_bind, run_underlying hT.hu, Result.andThen_ok, run_sizeOf hT.hs, run_underlying hd, Sem.run_pure, notInt d hdi, Bool.false_eq_true, if_false, hx.1,
    Bool.not_false, if_true]
  rw [if_pos (by omega)]
  have e2 := hx.2 w rfl
  cases ab with
  | none => simp [e2]
  | some a => simp [e2, storeCells]

/-! ### Sources -/
theorem src_nil {esz : Nat} : Src P w esz 0 (.slice none 0 0) #[] := ⟨fun w1 => by simp [Builtin.lenOf], fun w1 _ => by simp [Builtin.firstCells]⟩

theorem src_at {esz n c blk off : Nat} {cs : List Value} (hn : cs.length = n * esz) (hc : CellsAt w blk off cs) : Src P w esz n (.slice (some ⟨blk, off, none⟩) n c) cs.toArray :=
  ⟨fun w1 => by simp [Builtin.lenOf], fun w1 hw1 => by
    simp only [Builtin.firstCells]
    have := run_loadCells_list (P := P) w1 ⟨blk, off, none⟩ cs (fun j v hj => by rw [add_eq, cell_heap hw1]; exact hc j v hj)
    rw [hn] at this; exact this⟩

theorem src_str (s : ByteArray) : Src P w 1 s.size (.string s) (s.data.map fun b => .int .u8 b.toNat) :=
  ⟨fun w1 => by simp [Builtin.lenOf], fun w1 _ => by
    simp only [Builtin.firstCells]
    have : s.extract 0 s.size = s := by simp
    simp [this]⟩

theorem src8_sim (h : SR P g base κ w st) {v : Value} {p : PV} {l : List UInt8} (hx : R g κ v p) (hs : src8 st p = some l) : Src P w 1 l.length v ((l.map fun b => Value.int .u8 b.toNat).toArray) := by
  by_cases hstr : ∃ s, p = .str s
  · obtain ⟨s, rfl⟩ := hstr
    cases hx with | str ba _ hl =>
    simp [src8] at hs; subst hs hl
    have := src_str (P := P) (w := w) ba
    have h2 : (ba.data.map fun b => Value.int .u8 b.toNat) = ((ba.data.toList.map fun b => Value.int .u8 b.toNat).toArray) := by
      apply Array.ext'; simp
    rw [h2] at this
    exact this
  · rcases src8_cells h hx hs (fun s he => hstr ⟨s, he⟩) with ⟨rfl, rfl⟩ | ⟨blk, off, c, rfl, hc⟩
    · exact src_nil
    · refine src_at (by simp) (fun i u hi => ?_)
      simp only [List.getElem?_map, Option.map_eq_some_iff] at hi
      obtain ⟨b, hb, rfl⟩ := hi
      exact hc i b hb

theorem toks_set (st : St) (i : Nat) : (st.toks.set i false).length = st.toks.length ∧ ∀ (j : Nat), (st.toks.set i false)[j]? = some true → st.toks[j]? = some true := by
  refine ⟨by simp, fun j hj => ?_⟩
  by_cases hij : i = j
  · subst hij
    by_cases hl : i < st.toks.length
    · simp [hl] at hj
    · simp [show st.toks.length ≤ i by omega] at hj
  · rwa [List.getElem?_set_ne hij] at hj

theorem app8_sim (h : SR P g base κ w st) {t xt e ty : TypeId} {zero : Value} {v u : Value} {p q r : PV} {st' : St} (hT : AppT P t xt e 1 zero) (hx : R g κ v p) (hy : R g κ u q) (ha : app8 st p q = some (r, st')) :
    ∃ z w', (Builtin.append_ #[t, xt] ty #[v, u]).run P w = .ok z w' ∧ Good P g base κ w z w' r st' := by
  unfold app8 at ha
  split at ha
  · cases ha
  · rename_i new hsrc
    have hS := src8_sim (P := P) h hy hsrc
    split at ha
    · cases hx
      split at ha
      · rename_i hnil
        cases ha; subst hnil
        exact ⟨_, _, run_append_none (n := 0) hT hS (Nat.le_refl _), Good.same h .nils⟩
      · rename_i hne
        split at ha
        · rename_i hroom
          cases ha
          have hpos : 0 < new.length := by
            cases new with
            | nil => exact absurd rfl hne
            | cons => simp
          obtain ⟨c, rest, hrun, hc1, hc2⟩ := run_append_grow (ty := ty) hT hS (ab := none) (sLen := 0) (sCap := 0) src_nil (by omega) (by omega)
          refine ⟨_, _, hrun, good_bytes (toks := st.toks) h rfl rfl rfl rfl (.inl rfl) (by omega) hc1 (by simp; omega) (fun i b hi => ?_) rfl (fun _ h => h)⟩
          have hlt := (List.getElem?_eq_some_iff.1 hi).1
          rw [Array.getElem?_append_left (by simpa using hlt)]
          simp [hi]
        · cases ha
    · rename_i tk l
      cases hx with | bys blk off n c _ _ hn hc hb ht =>
      subst hn
      split at ha
      · rename_i hnil
        cases ha; subst hnil
        exact ⟨_, _, run_append_none (n := 0) hT hS hc, Good.same h (.bys _ _ _ _ _ _ rfl hc hb ht)⟩
      · rename_i hne
        split at ha
        · rename_i hroom
          split at ha
          · rename_i st1 htok
            cases ha
            have hpos : 0 < new.length := by
              cases new with
              | nil => exact absurd rfl hne
              | cons => simp
            have hold : Src P w 1 l.length (.slice (some ⟨blk, off, none⟩) l.length c) ((l.map fun b => Value.int .u8 b.toNat).toArray) :=
              src_at (by simp) (fun i u hi => by
                simp only [List.getElem?_map, Option.map_eq_some_iff] at hi
                obtain ⟨b, hb', rfl⟩ := hi
                exact h.cC _ _ _ (hb i b hb'))
            have hgrow : ∀ (toks : List Bool), st1 = { st with toks := toks } → toks.length = st.toks.length → (∀ (i : Nat), toks[i]? = some true → st.toks[i]? = some true) → ¬ l.length + new.length ≤ c →
                ∃ z w', (Builtin.append_ #[t, xt] ty #[.slice (some ⟨blk, off, none⟩) l.length c, u]).run P w = .ok z w' ∧ Good P g base κ w z w' (.bys (freshT st1).1 (l ++ new)) (freshT st1).2 := by
              intro toks hst htl htt hneed
              obtain ⟨c', rest, hrun, hc1, hc2⟩ := run_append_grow (ty := ty) hT hS hold hneed hroom
              refine ⟨_, _, hrun, ?_⟩
              have hg := good_bytes (l := l ++ new) (toks := toks) (n := l.length + new.length) h (w' := { w with drawn := w.drawn + 1, heap := w.heap.push (.cells ((l.map fun b => Value.int .u8 b.toNat).toArray ++ (new.map fun b => Value.int .u8 b.toNat).toArray ++ rest) e (0, 0)) })
                rfl rfl rfl rfl (.inl rfl) (by simp) hc1 (by simp; omega) (fun i b hi => by
                  have hlt := (List.getElem?_eq_some_iff.1 hi).1
                  simp only [List.length_append] at hlt
                  rw [Array.getElem?_append_left (by simpa using hlt)]
                  have : ((l.map fun b => Value.int .u8 b.toNat).toArray ++ (new.map fun b => Value.int .u8 b.toNat).toArray) = (((l ++ new).map fun b => Value.int .u8 b.toNat).toArray) := by simp
                  rw [this]
                  simp only [List.getElem?_toArray, List.getElem?_map, hi, Option.map_some]) htl htt
              subst hst
              show Good P g base κ w _ _ (.bys (.own toks.length) (l ++ new)) _
              rw [htl]
              exact hg
            cases tk with
            | no => simp [appTok] at htok
            | ex =>
              simp only [appTok, Option.some.injEq] at htok
              simp only [TokOK] at ht
              exact hgrow st.toks htok.symm rfl (fun _ h => h) (by omega)
            | own i =>
              simp only [appTok] at htok
              split at htok
              · rename_i hi
                cases htok
                obtain ⟨e1, ce, hτ, hroomE⟩ := ht
                by_cases hneed : l.length + new.length ≤ c
                · obtain ⟨rfl, rfl⟩ := hroomE (by omega)
                  have htk := h.tk i blk _ _ hi hτ
                  obtain ⟨rs, ⟨el, lo, hi', hw, hf⟩, hce⟩ := htk.ex
                  have hfit : off + l.length * 1 + ((new.map fun b => Value.int .u8 b.toNat).toArray).size ≤ rs.size := by simp; omega
                  have hrun := run_append_in (ty := ty) hT hS hneed hw hf hfit (by simp [oneCell])
                  have hget : ∀ j, (setA rs (off + l.length * 1) ((new.map fun b => Value.int .u8 b.toNat).toArray).toList)[j]? = if off + l.length * 1 ≤ j ∧ j < off + l.length * 1 + new.length then (new.map fun b => Value.int .u8 b.toNat)[j - (off + l.length * 1)]? else rs[j]? := fun j => by
                    rw [setA_get _ _ _ _ (by simpa using hfit)]; simp
                  obtain ⟨hle, hsr⟩ := h.extTok (e := off + l.length * 1) (m := new.length) (rs' := setA rs (off + l.length * 1) ((new.map fun b => Value.int .u8 b.toNat).toArray).toList) hi hτ hw hf (setA_size _ _ _) (by simp at hfit; omega)
                    (fun j hj => by rw [hget, if_neg (by omega)]) hce
                  refine ⟨_, _, hrun, _, hle, rfl, ?_, ?_, Fr.setBlk hw htk.ge⟩
                  · exact hsr
                  · simp only [freshT, List.length_set]
                    refine .bys _ _ _ _ _ _ (by simp) hneed (fun j b hj => ?_) ⟨off + l.length * 1 + new.length, off + c * 1, ?_, fun _ => ⟨by omega, rfl⟩⟩
                    · by_cases hjl : j < l.length
                      · rw [List.getElem?_append_left hjl] at hj
                        exact hle.C _ _ _ (hb j b hj)
                      · rw [List.getElem?_append_right (by omega)] at hj
                        have hjn := (List.getElem?_eq_some_iff.1 hj).1
                        simp only [K.addC, if_pos, hget]
                        rw [if_pos (by constructor <;> omega), if_pos (by constructor <;> omega)]
                        rw [show off + j - (off + l.length * 1) = j - l.length by omega]
                        simp [hj]
                    · show (κ.τ ++ [_])[st.toks.length]? = _
                      rw [← h.tl]; simp
                · exact hgrow (st.toks.set i false) rfl (toks_set st i).1 (toks_set st i).2 hneed
              · cases htok
          · cases ha
        · cases ha
    · cases ha

theorem srcV_sim (h : SR P g base κ w st) {esz : Nat} {v : Value} {p : PV} {xs : List PV} (hx : R g κ v p) (hs : srcV esz p = some xs) :
    ∃ cs : List Value, Src P w esz xs.length v cs.toArray ∧ cs.length = (flat xs).length ∧ (∀ (i : Nat) (v : Value) (p : PV), cs[i]? = some v → (flat xs)[i]? = some p → R g κ v p) ∧
      (∀ x ∈ xs, x.cells.length = esz) ∧ dataAll xs = true ∧ (flat xs).all leafOk = true := by
  unfold srcV at hs
  split at hs
  · cases hx; cases hs
    exact ⟨[], src_nil, rfl, fun i v p a => by simp at a, by simp, rfl, rfl⟩
  · split at hs
    · rename_i he'
      cases hs; subst he'
      cases hx with | sl blk off n c _ t _ vs hn hc he hl hv hr hd hlf ht =>
      subst hn
      exact ⟨vs, src_at (by rw [hl, flat_length he]) (fun i u hi => h.cC _ _ _ (hv i u hi)), hl, hr, he, hd, hlf⟩
    · cases hs
  · cases hs

theorem flat_append (xs ys : List PV) : flat (xs ++ ys) = flat xs ++ flat ys := by simp [flat]

theorem appV_sim (h : SR P g base κ w st) {t xt e ty : TypeId} {esz : Nat} {zero : Value} {v u : Value} {p q r : PV} {st' : St} (hT : AppT P t xt e esz zero) (hx : R g κ v p) (hy : R g κ u q) (ha : appV esz st p q = some (r, st')) :
    ∃ z w', (Builtin.append_ #[t, xt] ty #[v, u]).run P w = .ok z w' ∧ Good P g base κ w z w' r st' := by
  unfold appV at ha
  split at ha
  · cases ha
  · rename_i new hsrc
    obtain ⟨cs, hS, hcl, hcr, hce, hcd, hclf⟩ := srcV_sim h hy hsrc
    have hcn : cs.length = new.length * esz := by rw [hcl, flat_length hce]
    have hpos : new ≠ [] → 0 < new.length := fun hne => by
      cases hn : new with
      | nil => exact absurd hn hne
      | cons => simp
    split at ha
    · cases hx
      split at ha
      · rename_i hnil
        cases ha; subst hnil
        have : cs = [] := by rw [← List.length_eq_zero_iff, hcn]; simp
        subst this
        exact ⟨_, _, run_append_none (n := 0) hT hS (Nat.le_refl _), Good.same h .nils⟩
      · rename_i hne
        split at ha
        · rename_i hroom
          cases ha
          have hp := hpos hne
          obtain ⟨c, rest, hrun, hc1, hc2⟩ := run_append_grow (ty := ty) hT hS (ab := none) (sLen := 0) (sCap := 0) src_nil (by omega) (by omega)
          have hsz : new.length * esz + (c - new.length) * esz = c * esz := by rw [← Nat.add_mul]; congr 1; omega
          refine ⟨_, _, hrun, good_row (toks := st.toks) h rfl rfl rfl rfl (.inl rfl) (by omega) hc1 (by simp only [Array.size_append, hc2, Nat.zero_add]; simp [hcn]; omega) hce hcd hclf (fun i v p a b => ?_) rfl (fun _ h => h)⟩
          have hlt := (List.getElem?_eq_some_iff.1 b).1
          rw [Array.getElem?_append_left (by simp [hcl]; exact hlt)] at a
          exact hcr i v p (by simpa using a) b
        · cases ha
    · rename_i e' tk l
      split at ha
      · rename_i hee
        subst hee
        cases hx with | sl blk off n c _ _ _ vs hn hc he hl hv hr hd hlf ht =>
        subst hn
        have hvn : vs.length = l.length * e' := by rw [hl, flat_length he]
        split at ha
        · rename_i hnil
          cases ha; subst hnil
          have : cs = [] := by rw [← List.length_eq_zero_iff, hcn]; simp
          subst this
          exact ⟨_, _, run_append_none (n := 0) hT hS hc, Good.same h (.sl _ _ _ _ _ _ _ _ rfl hc he hl hv hr hd hlf ht)⟩
        · rename_i hne
          split at ha
          · rename_i hroom
            split at ha
            · rename_i st1 htok
              cases ha
              have hp := hpos hne
              have hold : Src P w e' l.length (.slice (some ⟨blk, off, none⟩) l.length c) vs.toArray := src_at hvn (fun i u hi => h.cC _ _ _ (hv i u hi))
              have he2 : ∀ x ∈ l ++ new, x.cells.length = e' := fun x hx => by
                rcases List.mem_append.1 hx with hx | hx
                · exact he x hx
                · exact hce x hx
              have hd2 : dataAll (l ++ new) = true := by rw [dataAll_append, hd, hcd]; rfl
              have hlf2 : (flat (l ++ new)).all leafOk = true := by rw [flat_append, List.all_append, hlf, hclf]; rfl
              have hr2 : ∀ (i : Nat) (v : Value) (p : PV), (vs ++ cs)[i]? = some v → (flat (l ++ new))[i]? = some p → R g κ v p := fun i v p a b => by
                rw [flat_append] at b
                by_cases hi : i < vs.length
                · rw [List.getElem?_append_left hi] at a
                  rw [List.getElem?_append_left (by rw [← hl]; exact hi)] at b
                  exact hr i v p a b
                · rw [List.getElem?_append_right (by omega)] at a
                  rw [List.getElem?_append_right (by rw [← hl]; omega), ← hl] at b
                  exact hcr _ v p a b
              have hgrow : ∀ (toks : List Bool), st1 = { st with toks := toks } → toks.length = st.toks.length → (∀ (i : Nat), toks[i]? = some true → st.toks[i]? = some true) → ¬ l.length + new.length ≤ c →
                  ∃ z w', (Builtin.append_ #[t, xt] ty #[.slice (some ⟨blk, off, none⟩) l.length c, u]).run P w = .ok z w' ∧ Good P g base κ w z w' (.sl e' (freshT st1).1 (l ++ new)) (freshT st1).2 := by
                intro toks hst htl htt hneed
                obtain ⟨c', rest, hrun, hc1, hc2⟩ := run_append_grow (ty := ty) hT hS hold hneed hroom
                have hsz : l.length * e' + new.length * e' + (c' - (l.length + new.length)) * e' = c' * e' := by rw [← Nat.add_mul, ← Nat.add_mul]; congr 1; omega
                refine ⟨_, _, hrun, ?_⟩
                have hg := good_row (xs := l ++ new) (esz := e') (toks := toks) (n := l.length + new.length) h (w' := { w with drawn := w.drawn + 1, heap := w.heap.push (.cells (vs.toArray ++ cs.toArray ++ rest) e (0, 0)) })
                  rfl rfl rfl rfl (.inl rfl) (by simp) hc1 (by simp only [Array.size_append, hc2]; simp [hcn, hvn]; omega) he2 hd2 hlf2 (fun i v p a b => by
                    have hlt := (List.getElem?_eq_some_iff.1 b).1
                    rw [flat_append, List.length_append, ← hl, ← hcl] at hlt
                    rw [Array.getElem?_append_left (by simpa using hlt)] at a
                    exact hr2 i v p (by rw [List.append_toArray] at a; simpa using a) b) htl htt
                subst hst
                show Good P g base κ w _ _ (.sl e' (.own toks.length) (l ++ new)) _
                rw [htl]
                exact hg
              cases tk with
              | no => simp [appTok] at htok
              | ex =>
                simp only [appTok, Option.some.injEq] at htok
                simp only [TokOK] at ht
                exact hgrow st.toks htok.symm rfl (fun _ h => h) (by omega)
              | own i =>
                simp only [appTok] at htok
                split at htok
                · rename_i hi
                  cases htok
                  obtain ⟨e1, ce, hτ, hroomE⟩ := ht
                  by_cases hneed : l.length + new.length ≤ c
                  · obtain ⟨rfl, rfl⟩ := hroomE (by omega)
                    have htk := h.tk i blk _ _ hi hτ
                    obtain ⟨rs, ⟨el, lo, hi', hw, hf⟩, hce'⟩ := htk.ex
                    have hmul : l.length * e' + new.length * e' ≤ c * e' := by rw [← Nat.add_mul]; exact Nat.mul_le_mul_right _ hneed
                    have hfit : off + l.length * e' + cs.length ≤ rs.size := by omega
                    have hone : ∀ v ∈ cs.toArray.toList, oneCell v = true := fun v hv' => by
                      obtain ⟨j, hj⟩ := List.getElem?_of_mem (show v ∈ cs by simpa using hv')
                      have hjl : j < (flat new).length := by rw [← hcl]; exact (List.getElem?_eq_some_iff.1 hj).1
                      have hq : (flat new)[j]? = some (flat new)[j] := by simp [hjl]
                      rw [List.all_eq_true] at hclf
                      exact R_oneCell (hcr j v _ hj hq) (hclf _ (List.mem_of_getElem? hq))
                    have hrun := run_append_in (ty := ty) hT hS hneed hw hf (by simpa using hfit) hone
                    have hget : ∀ j, (setA rs (off + l.length * e') cs.toArray.toList)[j]? = if off + l.length * e' ≤ j ∧ j < off + l.length * e' + cs.length then cs[j - (off + l.length * e')]? else rs[j]? := fun j => by
                      rw [setA_get _ _ _ _ (by simpa using hfit)]
                    obtain ⟨hle, hsr⟩ := h.extTok (e := off + l.length * e') (m := cs.length) (rs' := setA rs (off + l.length * e') cs.toArray.toList) hi hτ hw hf (setA_size _ _ _) hfit
                      (fun j hj => by rw [hget, if_neg (by omega)]) hce'
                    refine ⟨_, _, hrun, _, hle, rfl, hsr, ?_, Fr.setBlk hw htk.ge⟩
                    simp only [freshT, List.length_set]
                    refine .sl _ _ _ _ _ _ _ (vs ++ cs) (by simp) hneed he2 (by rw [flat_append]; simp [hl, hcl]) (fun j v hj => ?_) (fun j v p a b => (hr2 j v p a b).mono hle) hd2 hlf2 ⟨off + l.length * e' + cs.length, off + c * e', ?_, fun _ => ⟨by rw [hcn, Nat.add_mul]; omega, rfl⟩⟩
                    · by_cases hjl : j < vs.length
                      · rw [List.getElem?_append_left hjl] at hj
                        exact hle.C _ _ _ (hv j v hj)
                      · rw [List.getElem?_append_right (by omega)] at hj
                        have hjn := (List.getElem?_eq_some_iff.1 hj).1
                        simp only [K.addC, if_pos, hget]
                        rw [if_pos (by constructor <;> omega), if_pos (by constructor <;> omega)]
                        rw [show off + j - (off + l.length * e') = j - vs.length by omega]
                        simp [hj]
                    · show (κ.τ ++ [_])[st.toks.length]? = _
                      rw [← h.tl]; simp
                  · exact hgrow (st.toks.set i false) rfl (toks_set st i).1 (toks_set st i).2 hneed
                · cases htok
            · cases ha
          · cases ha
      · cases ha
    · cases ha

end Go.Ab
