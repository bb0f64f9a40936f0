/-
  append, make, min and max.
-/
import Derived.Test.YtihjnlnmgbabjaaGreatDoorA1
import Derived.MapKept
set_option linter.unusedVariables false
set_option linter.unusedSimpArgs false
namespace Go.Ab

variable {P : Program} {g : GMap} {base : Nat} {κ : K} {w : World} {st : St}

theorem growBy_le (n : Nat) : ∀ (r c : Nat), c ≤ 2 * n + 192 → Builtin.growBy n r c ≤ 2 * n + 192 := by
  intro r
  induction r with
  | zero => intro c h; exact h
  | succ r ih =>
    intro c h
    simp only [Builtin.growBy]
    split
    · exact h
    · exact ih _ (by omega)

theorem nextcap_le (n o : Nat) (h : o < n) : Builtin.nextslicecap n o ≤ 2 * n + 192 := by
  unfold Builtin.nextslicecap
  split
  · omega
  · split
    · omega
    · exact growBy_le n 4 o (by omega)

structure AppT (P : Program) (t xt e : TypeId) (esz : Nat) (zero : Value) : Prop where
  hu : P.underlying t = some (.slice e)
  hx : ∃ d, P.underlying xt = some d ∧ ∀ k, d ≠ .int k
  hs : sizeT P e = some esz
  h0 : 0 < esz
  hb : ∃ i, P.info? e = some i ∧ 0 < i.bytes ∧ i.bytes ≤ 256
  hz : zeroT P e = some zero
  hzs : zero.cells.size = esz

def Src (P : Program) (w : World) (esz n : Nat) (x : Value) (new : Array Value) : Prop :=
  (∀ w1 : World, (Builtin.lenOf x).run P w1 = .ok n w1) ∧ ∀ w1 : World, w1.heap = w.heap → (Builtin.firstCells esz n x).run P w1 = .ok new w1

theorem run_append_grow {t xt e ty : TypeId} {esz sLen sCap n : Nat} {zero : Value} {ab : Option Addr} {x : Value} {new old : Array Value} (hT : AppT P t xt e esz zero)
    (hx : Src P w esz n x new) (ho : Src P w esz sLen (.slice ab sLen sCap) old) (hneed : ¬ sLen + n ≤ sCap) (hroom : sLen + n ≤ room) :
    ∃ c rest, (Builtin.append_ #[t, xt] ty #[.slice ab sLen sCap, x]).run P w =
        .ok (.slice (some ⟨w.heap.size, 0, none⟩) (sLen + n) c) { w with drawn := w.drawn + 1, heap := w.heap.push (.cells (old ++ new ++ rest) e (0, 0)) } ∧ sLen + n ≤ c ∧ rest.size = (c - (sLen + n)) * esz := by
  obtain ⟨d, hd, hdi⟩ := hT.hx
  obtain ⟨i, hi, hib0, hib⟩ := hT.hb
  have hroom' : room = 68719476736 := rfl
  have hmax : IntKind.i64.max = 9223372036854775807 := by decide
  have hcap := nextcap_le (sLen + n) sCap (by omega)
  have hbytes : Builtin.nextslicecap (sLen + n) sCap * i.bytes ≤ (2 * (sLen + n) + 192) * 256 := Nat.mul_le_mul hcap hib
  refine ⟨grownCap w (sLen + n) sCap e, Builtin.zeroCells zero.cells (grownCap w (sLen + n) sCap e - (sLen + n)), ?_, grown_ge _ _ _ _, by simp [Builtin.zeroCells, hT.hzs]⟩
  unfold Builtin.append_
  simp only [List.getElem?_toArray, List.getElem?_cons_zero, List.getElem?_cons_succ, Sem.run_bind, run_underlying hT.hu, Result.andThen_ok, run_sizeOf hT.hs, run_underlying hd, Sem.run_pure, Bool.false_eq_true, if_false, hx.1,
    Bool.not_false, if_true]
  rw [if_neg hneed]
  simp only [Sem.run_bind, run_typeInfo hi, Result.andThen_ok]
  rw [if_neg (by rintro ⟨h1, _⟩; rw [hmax] at h1; omega)]
  simp only [Sem.run_bind, run_typeInfo hi, Result.andThen_ok]
  rw [if_neg (by omega)]
  have hch : (choose (.appendCap (sLen + n) sCap e)).run P w = .ok (grownCap w (sLen + n) sCap e) { w with drawn := w.drawn + 1 } := by
    simp [choose, Sem.run, Question.forced, grownCap]
  have hask : ∀ (b : Nat) (w1 : World), (askRoom b).run P w1 = .ok () w1 := fun b w1 => by
    unfold askRoom; split <;> simp [mark, Sem.run]
  have e1 := ho.2 { w with drawn := w.drawn + 1 } rfl
  have e2 := hx.2 { w with drawn := w.drawn + 1 } rfl
  simp only [Sem.run_bind, hch, Result.andThen_ok, run_typeInfo hi, hask, e1, e2, run_zeroValue hT.hz, run_newRow, Sem.run_pure]

theorem run_append_in {t xt e ty : TypeId} {esz sLen sCap n blk off lo hi : Nat} {zero : Value} {el : TypeId} {x : Value} {new rs : Array Value} (hT : AppT P t xt e esz zero)
    (hx : Src P w esz n x new) (hneed : sLen + n ≤ sCap) (hw : w.heap[blk]? = some (.cells rs el (lo, hi))) (hf : lo = hi ∨ rs.size ≤ lo) (hfit : off + sLen * esz + new.size ≤ rs.size) (hone : ∀ v ∈ new.toList, oneCell v = true) :
    (Builtin.append_ #[t, xt] ty #[.slice (some ⟨blk, off, none⟩) sLen sCap, x]).run P w =
        .ok (.slice (some ⟨blk, off, none⟩) (sLen + n) sCap) (setBlk w blk (setA rs (off + sLen * esz) new.toList) el (lo, hi)) := by
  obtain ⟨d, hd, hdi⟩ := hT.hx
  unfold Builtin.append_
  simp only [List.getElem?_toArray, List.getElem?_cons_zero, List.getElem?_cons_succ, Sem.run_bind, run_underlying hT.hu, Result.andThen_ok, run_sizeOf hT.hs, run_underlying hd, Sem.run_pure, Bool.false_eq_true, if_false, hx.1,
    Bool.not_false, if_true]
  rw [if_pos hneed]
  have e2 := hx.2 w rfl
  have h3 := run_storeCells (P := P) (off + sLen * esz) new.toList 0 w rs hw hf (by simpa using hfit) hone
  rw [add_eq]
  simp only [Sem.run_bind, e2, Result.andThen_ok, h3, Sem.run_pure, Nat.add_zero]

theorem run_append_none {t xt e ty : TypeId} {esz n sLen sCap : Nat} {zero : Value} {ab : Option Addr} {x : Value} (hT : AppT P t xt e esz zero)
    (hx : Src P w esz 0 x #[]) (hneed : sLen ≤ sCap) :
    (Builtin.append_ #[t, xt] ty #[.slice ab sLen sCap, x]).run P w = .ok (.slice ab sLen sCap) w := by
  obtain ⟨d, hd, hdi⟩ := hT.hx
  unfold Builtin.append_
  simp only [List.getElem?_toArray, List.getElem?_cons_zero, List.getElem?_cons_succ, Sem.run_bind, run_underlying hT.hu, Result.andThen_ok, run_sizeOf hT.hs, run_underlying hd, Sem.run_pure, Bool.false_eq_true, if_false, hx.1,
    Bool.not_false, if_true]
  rw [if_pos (by omega)]
  have e2 := hx.2 w rfl
  cases ab with
  | none => simp [e2]
  | some a => simp [e2, storeCells]

theorem src_nil {esz : Nat} : Src P w esz 0 (.slice none 0 0) #[] := ⟨fun w1 => by simp [Builtin.lenOf], fun w1 _ => by simp [Builtin.firstCells]⟩

theorem src_zero {esz c : Nat} {a : Addr} : Src P w esz 0 (.slice (some a) 0 c) #[] := ⟨fun w1 => by simp [Builtin.lenOf], fun w1 _ => by
    simp only [Builtin.firstCells]
    have := run_loadCells_list (P := P) w1 a [] (fun j v hj => by simp at hj)
    simpa using this⟩

theorem src_at {esz n c blk off : Nat} {cs : List Value} (hn : cs.length = n * esz) (hc : CellsAt w blk off cs) : Src P w esz n (.slice (some ⟨blk, off, none⟩) n c) cs.toArray :=
  ⟨fun w1 => by simp [Builtin.lenOf], fun w1 hw1 => by
    simp only [Builtin.firstCells]
    have := run_loadCells_list (P := P) w1 ⟨blk, off, none⟩ cs (fun j v hj => by rw [add_eq, cell_heap hw1]; exact hc j v hj)
    rw [hn] at this; exact this⟩

theorem src_str (s : ByteArray) : Src P w 1 s.size (.string s) (s.data.map fun b => .int .u8 b.toNat) :=
  ⟨fun w1 => by simp [Builtin.lenOf], fun w1 _ => by
    simp only [Builtin.firstCells]
    have : s.extract 0 s.size = s := by simp
    simp [this]⟩

theorem src8_sim (h : SR P g base κ w st) {v : Value} {p : PV} {l : List UInt8} (hx : R g κ v p) (hs : src8 st p = some l) : Src P w 1 l.length v ((l.map fun b => Value.int .u8 b.toNat).toArray) := by
  by_cases hstr : ∃ s, p = .str s
  · obtain ⟨s, rfl⟩ := hstr
    cases hx with | str ba _ hl =>
    simp [src8] at hs; subst hs hl
    have := src_str (P := P) (w := w) ba
    have h2 : (ba.data.map fun b => Value.int .u8 b.toNat) = ((ba.data.toList.map fun b => Value.int .u8 b.toNat).toArray) := by
      apply Array.ext'; simp
    rw [h2] at this
    exact this
  · rcases src8_cells h hx hs (fun s he => hstr ⟨s, he⟩) with ⟨rfl, rfl⟩ | ⟨blk, off, c, rfl, hc⟩
    · exact src_nil
    · refine src_at (by simp) (fun i u hi => ?_)
      simp only [List.getElem?_map, Option.map_eq_some_iff] at hi
      obtain ⟨b, hb, rfl⟩ := hi
      exact hc i b hb

theorem toks_set (st : St) (i : Nat) : (st.toks.set i false).length = st.toks.length ∧ ∀ (j : Nat), (st.toks.set i false)[j]? = some true → st.toks[j]? = some true := by
  refine ⟨by simp, fun j hj => ?_⟩
  by_cases hij : i = j
  · subst hij
    by_cases hl : i < st.toks.length
    · simp [hl] at hj
    · simp [show st.toks.length ≤ i by omega] at hj
  · rwa [List.getElem?_set_ne hij] at hj

theorem app8_sim (h : SR P g base κ w st) {t xt e ty : TypeId} {zero : Value} {v u : Value} {p q r : PV} {st' : St} (hT : AppT P t xt e 1 zero) (heu : e = g.tU) (hx : R g κ v p) (hy : R g κ u q) (ha : app8 st p q = some (r, st')) :
    ∃ z w', (Builtin.append_ #[t, xt] ty #[v, u]).run P w = .ok z w' ∧ Good P g base κ w z w' r st' := by
  unfold app8 at ha
  split at ha
  · cases ha
  · rename_i new hsrc
    have hS := src8_sim (P := P) h hy hsrc
    split at ha
    · cases hx
      split at ha
      · rename_i hnil
        cases ha; subst hnil
        exact ⟨_, _, run_append_none (n := 0) hT hS (Nat.le_refl _), Good.same h .nils⟩
      · rename_i hne
        split at ha
        · rename_i hroom
          cases ha
          have hpos : 0 < new.length := by
            cases new with
            | nil => exact absurd rfl hne
            | cons => simp
          obtain ⟨c, rest, hrun, hc1, hc2⟩ := run_append_grow (ty := ty) hT hS (ab := none) (sLen := 0) (sCap := 0) src_nil (by omega) (by omega)
          refine ⟨_, _, hrun, good_bytes (toks := st.toks) h rfl rfl rfl rfl (.inl rfl) (by omega) hc1 (by simp; omega) (fun i b hi => ?_) rfl (fun _ h => h) heu⟩
          have hlt := (List.getElem?_eq_some_iff.1 hi).1
          rw [Array.getElem?_append_left (by simpa using hlt)]
          simp [hi]
        · cases ha
    · rename_i tk l
      cases hx with | bys blk off n c _ _ hn hc hb ht hz =>
      subst hn
      split at ha
      · rename_i hnil
        cases ha; subst hnil
        exact ⟨_, _, run_append_none (n := 0) hT hS hc, Good.same h (.bys _ _ _ _ _ _ rfl hc hb ht hz)⟩
      · rename_i hne
        split at ha
        · rename_i hroom
          split at ha
          · rename_i st1 htok
            cases ha
            have hpos : 0 < new.length := by
              cases new with
              | nil => exact absurd rfl hne
              | cons => simp
            have hold : Src P w 1 l.length (.slice (some ⟨blk, off, none⟩) l.length c) ((l.map fun b => Value.int .u8 b.toNat).toArray) :=
              src_at (by simp) (fun i u hi => by
                simp only [List.getElem?_map, Option.map_eq_some_iff] at hi
                obtain ⟨b, hb', rfl⟩ := hi
                exact h.cC _ _ _ (hb i b hb'))
            have hgrow : ∀ (toks : List Bool), st1 = { st with toks := toks } → toks.length = st.toks.length → (∀ (i : Nat), toks[i]? = some true → st.toks[i]? = some true) → ¬ l.length + new.length ≤ c →
                ∃ z w', (Builtin.append_ #[t, xt] ty #[.slice (some ⟨blk, off, none⟩) l.length c, u]).run P w = .ok z w' ∧ Good P g base κ w z w' (.bys (freshT st1).1 (l ++ new)) (freshT st1).2 := by
              intro toks hst htl htt hneed
              obtain ⟨c', rest, hrun, hc1, hc2⟩ := run_append_grow (ty := ty) hT hS hold hneed hroom
              refine ⟨_, _, hrun, ?_⟩
              have hg := good_bytes (l := l ++ new) (toks := toks) (n := l.length + new.length) h (w' := { w with drawn := w.drawn + 1, heap := w.heap.push (.cells ((l.map fun b => Value.int .u8 b.toNat).toArray ++ (new.map fun b => Value.int .u8 b.toNat).toArray ++ rest) e (0, 0)) })
                rfl rfl rfl rfl (.inl rfl) (by simp) hc1 (by simp; omega) (fun i b hi => by
                  have hlt := (List.getElem?_eq_some_iff.1 hi).1
                  simp only [List.length_append] at hlt
                  rw [Array.getElem?_append_left (by simpa using hlt)]
                  have : ((l.map fun b => Value.int .u8 b.toNat).toArray ++ (new.map fun b => Value.int .u8 b.toNat).toArray) = (((l ++ new).map fun b => Value.int .u8 b.toNat).toArray) := by simp
                  rw [this]
                  simp only [List.getElem?_toArray, List.getElem?_map, hi, Option.map_some]) htl htt heu
              subst hst
              show Good P g base κ w _ _ (.bys (.own toks.length) (l ++ new)) _
              rw [htl]
              exact hg
            cases tk with
            | no => simp [appTok] at htok
            | ex =>
              simp only [appTok, Option.some.injEq] at htok
              simp only [TokOK] at ht
              exact hgrow st.toks htok.symm rfl (fun _ h => h) (by omega)
            | own i =>
              simp only [appTok] at htok
              split at htok
              · rename_i hi
                cases htok
                obtain ⟨e1, ce, hτ, hroomE⟩ := ht
                by_cases hneed : l.length + new.length ≤ c
                · obtain ⟨rfl, rfl⟩ := hroomE (by omega)
                  have htk := h.tk i blk _ _ hi hτ
                  obtain ⟨rs, ⟨el, lo, hi', hw, hf⟩, hce⟩ := htk.ex
                  have hfit : off + l.length * 1 + ((new.map fun b => Value.int .u8 b.toNat).toArray).size ≤ rs.size := by simp; omega
                  have hrun := run_append_in (ty := ty) hT hS hneed hw hf hfit (by simp [oneCell])
                  have hget : ∀ j, (setA rs (off + l.length * 1) ((new.map fun b => Value.int .u8 b.toNat).toArray).toList)[j]? = if off + l.length * 1 ≤ j ∧ j < off + l.length * 1 + new.length then (new.map fun b => Value.int .u8 b.toNat)[j - (off + l.length * 1)]? else rs[j]? := fun j => by
                    rw [setA_get _ _ _ _ (by simpa using hfit)]; simp
                  obtain ⟨hle, hsr⟩ := h.extTok (e := off + l.length * 1) (m := new.length) (rs' := setA rs (off + l.length * 1) ((new.map fun b => Value.int .u8 b.toNat).toArray).toList) hi hτ hw hf (setA_size _ _ _) (by simp at hfit; omega)
                    (fun j hj => by rw [hget, if_neg (by omega)]) hce
                  refine ⟨_, _, hrun, _, hle, rfl, ?_, ?_, Fr.setBlk hw htk.ge⟩
                  · exact hsr
                  · simp only [freshT, List.length_set]
                    refine .bys _ _ _ _ _ _ (by simp) hneed (fun j b hj => ?_) ⟨off + l.length * 1 + new.length, off + c * 1, ?_, fun _ => ⟨by omega, rfl⟩⟩ (fun j _ => ⟨(hz i rfl).1, hle.S _ _ (hz i rfl).2⟩)
                    · by_cases hjl : j < l.length
                      · rw [List.getElem?_append_left hjl] at hj
                        exact hle.C _ _ _ (hb j b hj)
                      · rw [List.getElem?_append_right (by omega)] at hj
                        have hjn := (List.getElem?_eq_some_iff.1 hj).1
                        simp only [K.addC, if_pos, hget]
                        rw [if_pos (by constructor <;> omega), if_pos (by constructor <;> omega)]
                        rw [show off + j - (off + l.length * 1) = j - l.length by omega]
                        simp [hj]
                    · show (κ.τ ++ [_])[st.toks.length]? = _
                      rw [← h.tl]; simp
                · exact hgrow (st.toks.set i false) rfl (toks_set st i).1 (toks_set st i).2 hneed
              · cases htok
          · cases ha
        · cases ha
    · cases ha

theorem srcV_sim (h : SR P g base κ w st) {esz : Nat} {v : Value} {p : PV} {xs : List PV} (hx : R g κ v p) (hs : srcV esz p = some xs) :
    ∃ cs : List Value, Src P w esz xs.length v cs.toArray ∧ cs.length = (flat xs).length ∧ (∀ (i : Nat) (v : Value) (p : PV), cs[i]? = some v → (flat xs)[i]? = some p → R g κ v p) ∧
      (∀ x ∈ xs, x.cells.length = esz) ∧ dataAll xs = true ∧ (flat xs).all leafOk = true := by
  unfold srcV at hs
  split at hs
  · cases hx; cases hs
    exact ⟨[], src_nil, rfl, fun i v p a => by simp at a, by simp, rfl, rfl⟩
  · split at hs
    · rename_i he'
      cases hs; subst he'
      cases hx with
      | sl0 a esz t ht0 => exact ⟨[], src_zero, rfl, fun i v p a => by simp at a, by simp, rfl, rfl⟩
      | sl blk off n c _ t _ vs hn hc he hl hv hr hd hlf ht =>
      subst hn
      exact ⟨vs, src_at (by rw [hl, flat_length he]) (fun i u hi => h.cC _ _ _ (hv i u hi)), hl, hr, he, hd, hlf⟩
    · cases hs
  · cases hs

theorem flat_append (xs ys : List PV) : flat (xs ++ ys) = flat xs ++ flat ys := by simp [flat]

theorem appV_sim (h : SR P g base κ w st) {t xt e ty : TypeId} {esz : Nat} {zero : Value} {v u : Value} {p q r : PV} {st' : St} (hT : AppT P t xt e esz zero) (hx : R g κ v p) (hy : R g κ u q) (ha : appV esz st p q = some (r, st')) :
    ∃ z w', (Builtin.append_ #[t, xt] ty #[v, u]).run P w = .ok z w' ∧ Good P g base κ w z w' r st' := by
  unfold appV at ha
  split at ha
  · cases ha
  · rename_i new hsrc
    obtain ⟨cs, hS, hcl, hcr, hce, hcd, hclf⟩ := srcV_sim h hy hsrc
    have hcn : cs.length = new.length * esz := by rw [hcl, flat_length hce]
    have hpos : new ≠ [] → 0 < new.length := fun hne => by
      cases hn : new with
      | nil => exact absurd hn hne
      | cons => simp
    split at ha
    · cases hx
      split at ha
      · rename_i hnil
        cases ha; subst hnil
        have : cs = [] := by rw [← List.length_eq_zero_iff, hcn]; simp
        subst this
        exact ⟨_, _, run_append_none (n := 0) hT hS (Nat.le_refl _), Good.same h .nils⟩
      · rename_i hne
        split at ha
        · rename_i hroom
          cases ha
          have hp := hpos hne
          obtain ⟨c, rest, hrun, hc1, hc2⟩ := run_append_grow (ty := ty) hT hS (ab := none) (sLen := 0) (sCap := 0) src_nil (by omega) (by omega)
          have hsz : new.length * esz + (c - new.length) * esz = c * esz := by rw [← Nat.add_mul]; congr 1; omega
          refine ⟨_, _, hrun, good_row (toks := st.toks) h rfl rfl rfl rfl (.inl rfl) (by omega) hc1 (by simp only [Array.size_append, hc2, Nat.zero_add]; simp [hcn]; omega) hce hcd hclf (fun i v p a b => ?_) rfl (fun _ h => h)⟩
          have hlt := (List.getElem?_eq_some_iff.1 b).1
          rw [Array.getElem?_append_left (by simp [hcl]; exact hlt)] at a
          exact hcr i v p (by simpa using a) b
        · cases ha
    · rename_i e' tk l
      split at ha
      · rename_i hee
        subst hee
        cases hx with
        | sl0 a esz0 t0 ht0 =>
          split at ha
          · rename_i hnil
            cases ha; subst hnil
            have : cs = [] := by rw [← List.length_eq_zero_iff, hcn]; simp
            subst this
            exact ⟨_, _, run_append_none (n := 0) hT hS (Nat.le_refl _), Good.same h (.sl0 a _ _ ht0)⟩
          · rename_i hne
            split at ha
            · rename_i hroom
              split at ha
              · rename_i st1 htok
                cases tk with
                | own i => exact absurd rfl (ht0 i)
                | no => simp [appTok] at htok
                | ex =>
                  simp only [appTok, Option.some.injEq] at htok
                  subst htok
                  cases ha
                  have hp := hpos hne
                  simp only [List.length_nil, Nat.zero_add] at hroom
                  obtain ⟨c, rest, hrun, hc1, hc2⟩ := run_append_grow (ty := ty) hT hS (ab := some a) (sLen := 0) (sCap := 0) src_zero (by omega) (by omega)
                  have hsz : new.length * e' + (c - new.length) * e' = c * e' := by rw [← Nat.add_mul]; congr 1; omega
                  refine ⟨_, _, hrun, good_row (toks := st.toks) h rfl rfl rfl rfl (.inl rfl) (by simp) hc1 (by simp only [Array.size_append, hc2, Nat.zero_add]; simp [hcn]; omega) hce hcd hclf (fun i v p a b => ?_) rfl (fun _ h => h)⟩
                  have hlt := (List.getElem?_eq_some_iff.1 b).1
                  rw [Array.getElem?_append_left (by simp [hcl]; exact hlt)] at a
                  exact hcr i v p (by simpa using a) b
              · cases ha
            · cases ha
        | sl blk off n c _ _ _ vs hn hc he hl hv hr hd hlf ht =>
        subst hn
        have hvn : vs.length = l.length * e' := by rw [hl, flat_length he]
        split at ha
        · rename_i hnil
          cases ha; subst hnil
          have : cs = [] := by rw [← List.length_eq_zero_iff, hcn]; simp
          subst this
          exact ⟨_, _, run_append_none (n := 0) hT hS hc, Good.same h (.sl _ _ _ _ _ _ _ _ rfl hc he hl hv hr hd hlf ht)⟩
        · rename_i hne
          split at ha
          · rename_i hroom
            split at ha
            · rename_i st1 htok
              cases ha
              have hp := hpos hne
              have hold : Src P w e' l.length (.slice (some ⟨blk, off, none⟩) l.length c) vs.toArray := src_at hvn (fun i u hi => h.cC _ _ _ (hv i u hi))
              have he2 : ∀ x ∈ l ++ new, x.cells.length = e' := fun x hx => by
                rcases List.mem_append.1 hx with hx | hx
                · exact he x hx
                · exact hce x hx
              have hd2 : dataAll (l ++ new) = true := by rw [dataAll_append, hd, hcd]; rfl
              have hlf2 : (flat (l ++ new)).all leafOk = true := by rw [flat_append, List.all_append, hlf, hclf]; rfl
              have hr2 : ∀ (i : Nat) (v : Value) (p : PV), (vs ++ cs)[i]? = some v → (flat (l ++ new))[i]? = some p → R g κ v p := fun i v p a b => by
                rw [flat_append] at b
                by_cases hi : i < vs.length
                · rw [List.getElem?_append_left hi] at a
                  rw [List.getElem?_append_left (by rw [← hl]; exact hi)] at b
                  exact hr i v p a b
                · rw [List.getElem?_append_right (by omega)] at a
                  rw [List.getElem?_append_right (by rw [← hl]; omega), ← hl] at b
                  exact hcr _ v p a b
              have hgrow : ∀ (toks : List Bool), st1 = { st with toks := toks } → toks.length = st.toks.length → (∀ (i : Nat), toks[i]? = some true → st.toks[i]? = some true) → ¬ l.length + new.length ≤ c →
                  ∃ z w', (Builtin.append_ #[t, xt] ty #[.slice (some ⟨blk, off, none⟩) l.length c, u]).run P w = .ok z w' ∧ Good P g base κ w z w' (.sl e' (freshT st1).1 (l ++ new)) (freshT st1).2 := by
                intro toks hst htl htt hneed
                obtain ⟨c', rest, hrun, hc1, hc2⟩ := run_append_grow (ty := ty) hT hS hold hneed hroom
                have hsz : l.length * e' + new.length * e' + (c' - (l.length + new.length)) * e' = c' * e' := by rw [← Nat.add_mul, ← Nat.add_mul]; congr 1; omega
                refine ⟨_, _, hrun, ?_⟩
                have hg := good_row (xs := l ++ new) (esz := e') (toks := toks) (n := l.length + new.length) h (w' := { w with drawn := w.drawn + 1, heap := w.heap.push (.cells (vs.toArray ++ cs.toArray ++ rest) e (0, 0)) })
                  rfl rfl rfl rfl (.inl rfl) (by simp) hc1 (by simp only [Array.size_append, hc2]; simp [hcn, hvn]; omega) he2 hd2 hlf2 (fun i v p a b => by
                    have hlt := (List.getElem?_eq_some_iff.1 b).1
                    rw [flat_append, List.length_append, ← hl, ← hcl] at hlt
                    rw [Array.getElem?_append_left (by simpa using hlt)] at a
                    exact hr2 i v p (by rw [List.append_toArray] at a; simpa using a) b) htl htt
                subst hst
                show Good P g base κ w _ _ (.sl e' (.own toks.length) (l ++ new)) _
                rw [htl]
                exact hg
              cases tk with
              | no => simp [appTok] at htok
              | ex =>
                simp only [appTok, Option.some.injEq] at htok
                simp only [TokOK] at ht
                exact hgrow st.toks htok.symm rfl (fun _ h => h) (by omega)
              | own i =>
                simp only [appTok] at htok
                split at htok
                · rename_i hi
                  cases htok
                  obtain ⟨e1, ce, hτ, hroomE⟩ := ht
                  by_cases hneed : l.length + new.length ≤ c
                  · obtain ⟨rfl, rfl⟩ := hroomE (by omega)
                    have htk := h.tk i blk _ _ hi hτ
                    obtain ⟨rs, ⟨el, lo, hi', hw, hf⟩, hce'⟩ := htk.ex
                    have hmul : l.length * e' + new.length * e' ≤ c * e' := by rw [← Nat.add_mul]; exact Nat.mul_le_mul_right _ hneed
                    have hfit : off + l.length * e' + cs.length ≤ rs.size := by omega
                    have hone : ∀ v ∈ cs.toArray.toList, oneCell v = true := fun v hv' => by
                      obtain ⟨j, hj⟩ := List.getElem?_of_mem (show v ∈ cs by simpa using hv')
                      have hjl : j < (flat new).length := by rw [← hcl]; exact (List.getElem?_eq_some_iff.1 hj).1
                      have hq : (flat new)[j]? = some (flat new)[j] := by simp [hjl]
                      rw [List.all_eq_true] at hclf
                      exact R_oneCell (hcr j v _ hj hq) (hclf _ (List.mem_of_getElem? hq))
                    have hrun := run_append_in (ty := ty) hT hS hneed hw hf (by simpa using hfit) hone
                    have hget : ∀ j, (setA rs (off + l.length * e') cs.toArray.toList)[j]? = if off + l.length * e' ≤ j ∧ j < off + l.length * e' + cs.length then cs[j - (off + l.length * e')]? else rs[j]? := fun j => by
                      rw [setA_get _ _ _ _ (by simpa using hfit)]
                    obtain ⟨hle, hsr⟩ := h.extTok (e := off + l.length * e') (m := cs.length) (rs' := setA rs (off + l.length * e') cs.toArray.toList) hi hτ hw hf (setA_size _ _ _) hfit
                      (fun j hj => by rw [hget, if_neg (by omega)]) hce'
                    refine ⟨_, _, hrun, _, hle, rfl, hsr, ?_, Fr.setBlk hw htk.ge⟩
                    simp only [freshT, List.length_set]
                    refine .sl _ _ _ _ _ _ _ (vs ++ cs) (by simp) hneed he2 (by rw [flat_append]; simp [hl, hcl]) (fun j v hj => ?_) (fun j v p a b => (hr2 j v p a b).mono hle) hd2 hlf2 ⟨off + l.length * e' + cs.length, off + c * e', ?_, fun _ => ⟨by rw [hcn, Nat.add_mul]; omega, rfl⟩⟩
                    · by_cases hjl : j < vs.length
                      · rw [List.getElem?_append_left hjl] at hj
                        exact hle.C _ _ _ (hv j v hj)
                      · rw [List.getElem?_append_right (by omega)] at hj
                        have hjn := (List.getElem?_eq_some_iff.1 hj).1
                        simp only [K.addC, if_pos, hget]
                        rw [if_pos (by constructor <;> omega), if_pos (by constructor <;> omega)]
                        rw [show off + j - (off + l.length * e') = j - vs.length by omega]
                        simp [hj]
                    · show (κ.τ ++ [_])[st.toks.length]? = _
                      rw [← h.tl]; simp
                  · exact hgrow (st.toks.set i false) rfl (toks_set st i).1 (toks_set st i).2 hneed
                · cases htok
            · cases ha
          · cases ha
      · cases ha
    · cases ha

theorem src8_first (h : SR P g base κ w st) {v : Value} {p : PV} {l : List UInt8} (hx : R g κ v p) (hs : src8 st p = some l) (k : Nat) (hk : k ≤ l.length) :
    (Builtin.lenOf v).run P w = .ok l.length w ∧ (Builtin.firstCells 1 k v).run P w = .ok (((l.take k).map fun b => Value.int .u8 b.toNat).toArray) w := by
  by_cases hstr : ∃ s, p = .str s
  · obtain ⟨s, rfl⟩ := hstr
    cases hx with | str ba _ hl =>
    simp [src8] at hs; subst hs hl
    refine ⟨by simp [Builtin.lenOf], ?_⟩
    simp only [Builtin.firstCells, Sem.run_pure]
    congr 1
    apply Array.ext'
    simp [ByteArray.data_extract, Array.toList_extract]
  · rcases src8_cells h hx hs (fun s he => hstr ⟨s, he⟩) with ⟨rfl, rfl⟩ | ⟨blk, off, c, rfl, hc⟩
    · exact ⟨by simp [Builtin.lenOf], by simp [Builtin.firstCells]⟩
    · refine ⟨by simp [Builtin.lenOf], ?_⟩
      simp only [Builtin.firstCells]
      have := run_loadCells_list (P := P) w ⟨blk, off, none⟩ ((l.take k).map fun b => Value.int .u8 b.toNat) (fun j v hj => by
        rw [add_eq]
        simp only [List.getElem?_map, Option.map_eq_some_iff, List.getElem?_take] at hj
        obtain ⟨b, hb, rfl⟩ := hj
        split at hb
        · exact hc _ _ hb
        · cases hb)
      rw [show ((l.take k).map fun b => Value.int .u8 b.toNat).length = k * 1 by simp; omega] at this
      exact this

theorem copy_sim (h : SR P g base κ w st) {ats : Array TypeId} {t e ty : TypeId} {v u : Value} {p q r : PV} {st' : St} (hat : ats[0]? = some t) (hel : sliceElem P t = some e) (hsz : sizeT P e = some 1)
    (hd : R g κ v p) (hx : R g κ u q) (hs : copyPV st p q = some (r, st')) :
    ∃ z w', (Builtin.copy_ ats ty #[v, u]).run P w = .ok z w' ∧ Good P g base κ w z w' r st' := by
  have hu := sliceElem_eq hel
  unfold copyPV at hs
  split at hs
  · cases hs
  · rename_i new hnew
    split at hs
    · cases hs
      cases hd
      obtain ⟨a1, a2⟩ := src8_first h hx hnew 0 (Nat.zero_le _)
      refine ⟨goInt 0, w, ?_, Good.same h (by simpa [goInt] using R.int .i64 0 (by decide))⟩
      unfold Builtin.copy_
      simp only [hat, List.getElem?_toArray, List.getElem?_cons_zero, List.getElem?_cons_succ, Sem.run_bind, run_underlying hu, Result.andThen_ok, a1, run_sizeOf hsz, Nat.min_zero]
      simp [a2]
    · rename_i b off n
      split at hs
      · rename_i cs hcs
        split at hs
        · rename_i hle
          cases hs
          cases hd with | ms _ _ off' _ c blk hφ hc ho hμ =>
          have hbx := h.bx b blk cs hcs hφ hμ
          obtain ⟨rs, ⟨el, lo, hi, hw, hf⟩, hl, hr⟩ := hbx.ex
          have hmin : Nat.min new.length n ≤ new.length := Nat.min_le_left _ _
          have hmin2 : Nat.min new.length n ≤ n := Nat.min_le_right _ _
          obtain ⟨a1, a2⟩ := src8_first h hx hnew (Nat.min new.length n) hmin
          have htk : new.take (Nat.min new.length n) = new.take n := by
            rcases Nat.le_total new.length n with hc | hc
            · rw [show Nat.min new.length n = new.length from Nat.min_eq_left hc, List.take_of_length_le (Nat.le_refl _), List.take_of_length_le hc]
            · rw [show Nat.min new.length n = n from Nat.min_eq_right hc]
          rw [htk] at a2
          have hnl : (new.take n).length = Nat.min new.length n := by rw [List.length_take]; exact Nat.min_comm _ _
          generalize hus : ((new.take n).map fun b => Value.int .u8 b.toNat) = us at a2
          have husl : us.length = Nat.min new.length n := by rw [← hus, List.length_map, hnl]
          have hone : ∀ x ∈ us, oneCell x = true := fun x hx => by
            rw [← hus] at hx
            obtain ⟨b, _, rfl⟩ := List.mem_map.1 hx
            rfl
          have hstore : ∃ w', (storeCells ⟨blk, off', none⟩ us).run P w = .ok () w' ∧ w' = setBlk w blk (setA rs off us) el (lo, hi) ∧ (us = [] ∨ off' = off) := by
            rcases ho with ho | ho
            · have : us = [] := by
                apply List.eq_nil_of_length_eq_zero
                omega
              subst this
              exact ⟨w, by simp [storeCells], by simp [setA, setBlk_self hw], .inl rfl⟩
            · subst ho
              exact ⟨_, run_storeCells (P := P) off' us 0 w rs hw hf (by omega) hone, rfl, .inr rfl⟩
          obtain ⟨w', s1, hw', _⟩ := hstore
          subst hw'
          refine ⟨goInt (Nat.min new.length n : Nat), setBlk w blk (setA rs off us) el (lo, hi), ?_, ?_⟩
          · unfold Builtin.copy_
            simp only [hat, List.getElem?_toArray, List.getElem?_cons_zero, List.getElem?_cons_succ, Sem.run_bind, run_underlying hu, Result.andThen_ok, a1, run_sizeOf hsz, a2, s1, Sem.run_pure]
          · have hcl : ((new.take n).map PV.b8).length = us.length := by rw [List.length_map, hnl, husl]
            have hsr := h.setBox (rs' := setA rs off us) (cs' := setCells cs off ((new.take n).map .b8)) st.low hcs hφ hμ hw hf (setA_size _ _ _) (by rw [setCells_length]; exact hl) (fun i c hc => ?_)
              (setCells_allB _ _ _ hbx.lf (by rw [List.all_eq_true]; intro x hx; obtain ⟨b, _, rfl⟩ := List.mem_map.1 hx; rfl)) (fun c hc => ?_) (fun hm => by
                obtain ⟨i, hi'⟩ := List.getElem?_of_mem hm
                rw [setCells_get _ _ _ _ (by omega)] at hi'
                split at hi'
                · have := List.mem_of_getElem? hi'
                  obtain ⟨b, _, hb⟩ := List.mem_map.1 this
                  cases hb
                · exact List.mem_of_getElem? hi') (fun hz => by
                subst hz
                have hn0 : n = 0 := by simp at hle; omega
                subst hn0
                simp only [List.take_zero, List.map_nil] at hus ⊢
                subst hus
                exact ⟨rfl, rfl⟩)
            · exact ⟨κ, K.le.refl κ, rfl, hsr, .int _ _ (by decide), Fr.setBlk hw hbx.ge⟩
            · rw [setCells_get _ _ _ _ (by omega), hcl] at hc
              rw [setA_get _ _ _ _ (by omega)]
              split at hc
              · rename_i hi'
                rw [if_pos hi']
                rw [List.getElem?_map, Option.map_eq_some_iff] at hc
                obtain ⟨b, hb, rfl⟩ := hc
                exact ⟨.int .u8 b.toNat, by rw [← hus, List.getElem?_map, hb]; rfl, .b8 b _ rfl⟩
              · rename_i hi'
                rw [if_neg hi']
                exact hr i c hc
            · obtain ⟨i, hi'⟩ := List.getElem?_of_mem hc
              rw [setCells_get _ _ _ _ (by omega)] at hi'
              split at hi'
              · have := List.mem_of_getElem? hi'
                obtain ⟨b, _, hb⟩ := List.mem_map.1 this
                subst hb; rfl
              · exact hbx.lw c (List.mem_of_getElem? hi')
        · cases hs
      · cases hs
    · cases hs

end Go.Ab
/-
  Maps from texts to yes or no; rows of values that nobody owns.
-/
namespace Go.Ab

variable {P : Program} {g : GMap} {base : Nat} {κ : K} {w : World} {st : St}

theorem litc_sim (h : SR P g base κ w st) {t e : TypeId} {esz len : Nat} {zero : Value} {z : PV} {parts : Array (Nat × Value)} {ps : List (Nat × PV)} {l : List PV}
    (ht : sliceElem P t = some e) (hs : sizeT P e = some esz) (h0 : 0 < esz) (hlen : len * esz ≤ 16777216) (hz : z.cells.length = esz) (hzv : zeroT P e = some zero) (hcz : chkConst zero z = true) (hc : chkLeaves zero.cells.toList z.cells = true)
    (hp : PartsV g κ parts.toList ps) (hl : litFill esz (List.replicate len z) ps = some l) :
    ∃ u w', (Instr.buildSlice t len parts).run P w = .ok u w' ∧ Good P g base κ w u w' (.sl esz .no l) st := by
  have hu := sliceElem_eq ht
  obtain ⟨vs', a1, a2, a3⟩ := litFill_sim h0 parts.toList ps _ _ l hp (zeros_LitOK (g := g) (κ := κ) (len := len) h0 hz hc hcz) hl
  have hll : l.length = len := by rw [a3]; simp
  have hvs : vs'.size = len * esz := by rw [a2.cr.1, flat_length a2.he, hll]
  obtain ⟨hle, hsA⟩ := h.addC (w' := { w with heap := w.heap.push (.cells vs' e (0, 0)) }) vs' e (0, 0) rfl
  refine ⟨.slice (some ⟨w.heap.size, 0, none⟩) len len, { w with heap := w.heap.push (.cells vs' e (0, 0)) }, ?_, _, hle, rfl, hsA,
    .sl _ 0 len len esz .no l vs'.toList hll.symm (Nat.le_refl _) a2.he (by rw [Array.length_toList, a2.cr.1]) (fun i v hi => ?_) (fun i v p a b => (a2.cr.2 i v p (by simpa using a) b).mono hle) a2.hd a2.hlf trivial, Fr.push h.hb rfl rfl rfl rfl⟩
  · have hfill : Instr.fill (fun i => some (i * esz, esz)) ((Array.range (len * esz)).map ((if len * esz = 0 then #[] else zero.cells : Array Value)[· % (if len * esz = 0 then #[] else zero.cells : Array Value).size]!)) parts.toList = some vs' := by
      rw [← a1]
      by_cases hle : len * esz = 0
      · simp [hle, show Array.range 0 = #[] from rfl]
      · rw [if_neg hle]
    simp only [Instr.buildSlice, Sem.run_bind, run_underlying hu, Result.andThen_ok, run_sizeOf hs]
    rw [if_neg (by omega)]
    split
    · rename_i hc2
      rw [if_pos hc2] at hfill
      simp only [Sem.run_bind, Sem.run_pure, Result.andThen_ok]
      rw [hfill]
      simp [run_newRow]
    · rename_i hc2
      simp only [Sem.run_bind, run_zeroValue hzv, Result.andThen_ok, Sem.run_pure]
      rw [if_neg hc2] at hfill
      rw [hfill]
      simp [run_newRow]
  · have : vs'[i]? = some v := by simpa using hi
    simp [K.addC, this]

theorem old_of_below {w w' : World} (hb : Go.RowKit.Below w.heap.size w w') {k : Nat} {o : Obj} (hk : w.heap[k]? = some o) : w'.heap[k]? = some o := by
  rw [hb.block k (Array.getElem?_eq_some_iff.1 hk).1]; exact hk

theorem SR.below {κ : K} {w w' : World} {st : St} (h : SR P g base κ w st) (hb : Go.RowKit.Below w.heap.size w w') : SR P g base κ w' st where
  cC b i v hc := by
    have h1 := h.cC b i v hc
    have hlt := h.C_lt hc
    simp only [World.cell?] at h1 ⊢
    rw [hb.block b hlt]; exact h1
  sh b t hs := by
    obtain ⟨n, hn⟩ := h.sh b t hs
    refine ⟨n, ?_⟩
    have hlt : b < w.heap.size := by
      rcases Nat.lt_or_ge b w.heap.size with h1 | h1
      · exact h1
      · simp [World.shape?, Array.getElem?_eq_none h1] at hn
    rw [← hn]; exact shape_congr (hb.block b hlt)
  bl := h.bl
  bn := h.bn
  mx b blk cs h1 h2 hm := by
    have hx := h.mx b blk cs h1 h2 hm
    exact hx.congr (hb.block blk hx.lt)
  mz := h.mz
  bx b blk cs h1 h2 hm := by
    have hx := h.bx b blk cs h1 h2 hm
    obtain ⟨rs, hc, h3, h4⟩ := hx.ex
    have hlt := hc.lt
    exact ⟨hx.ge, hx.nc, ⟨rs, hc.congr (hb.block blk hlt), h3, h4⟩, hx.lf, hx.lw, fun hm => by rw [← hx.sb hm]; exact shape_congr (hb.block blk hlt)⟩
  tl := h.tl
  tk i blk e ce h1 h2 := by
    have hx := h.tk i blk e ce h1 h2
    obtain ⟨rs, hc, h3⟩ := hx.ex
    exact ⟨hx.ge, hx.nb, hx.nc, ⟨rs, hc.congr (hb.block blk hc.lt), h3⟩⟩
  td := h.td
  ll := h.ll
  ln := h.ln
  lb := h.lb
  lp k l D r h1 h2 := (h.lp k l D r h1 h2).mono (K.le.refl κ) fun k o ho _ => old_of_below hb ho
  hb := Nat.le_trans h.hb hb.size
  gv := h.gv

theorem fr_below {lam : List (Nat × Nat)} {w w' : World} (hbs : base ≤ w.heap.size) (hb : Go.RowKit.Below w.heap.size w w') : Fr base lam w w' :=
  Fr.of (hb.mono hbs) fun k o ho _ => old_of_below hb ho


theorem R.scal {κ' : K} {v : Value} {p : PV} (h : R g κ v p) (hs : scal p = true) : R g κ' v p := by
  have leaf : ∀ {v : Value} {p : PV}, R g κ v p → scalL p = true → R g κ' v p := fun {v p} h hs => by
    cases h <;> simp [scalL] at hs
    · exact .bool _
    · rename_i h; exact .b8 _ _ h
    · rename_i h; exact .int _ _ h
    · rename_i h; exact .str _ _ h
  have aggc : ∀ {v : Value} {p : PV}, R g κ v p → scalA p = true → R g κ' v p := fun {v p} h hs => by
    by_cases ha : ∃ cs, p = .agg cs
    · obtain ⟨cs, rfl⟩ := ha
      cases h with | agg vs _ hl hlf hr =>
      simp only [scalA, List.all_eq_true] at hs
      exact .agg vs cs hl hlf fun i v p a b => leaf (hr i v p a b) (hs p (List.mem_of_getElem? b))
    · exact leaf h (by cases p <;> first | exact hs | exact absurd ⟨_, rfl⟩ ha)
  by_cases ha : ∃ ps, p = .tup ps
  · obtain ⟨ps, rfl⟩ := ha
    cases h with | tup vs _ hl hnt hr =>
    simp only [Ab.scal, List.all_eq_true] at hs
    exact .tup vs ps hl hnt fun i v p a b => aggc (hr i v p a b) (hs p (List.mem_of_getElem? b))
  · exact aggc h (by cases p <;> first | exact hs | exact absurd ⟨_, rfl⟩ ha)
theorem R.fn0 {κ' : K} {v : Value} {p : PV} (h : R g κ v p) (hs : isFn0 p = true) : R g κ' v p := by
  cases h <;> simp [isFn0] at hs
  rename_i f' f cv cap h1 h2 h3 h4
  cases cap with
  | cons => simp [] at hs
  | nil => exact .fn _ _ _ _ h1 h2 h3 (fun i v p _ b => by simp at b)
def K.bare (κ : K) : K := { C := κ.C, φ := [], lam := [], τ := [], S := κ.S, μ := fun _ => false }
theorem SR.bare (h : SR P g base κ w st) : SR P g w.heap.size κ.bare w ⟨[], [], [], 0⟩ where
  cC := h.cC
  sh := h.sh
  bl := rfl
  bn := List.nodup_nil
  bx b blk cs h := by simp at h
  mx b blk cs h := by simp at h
  mz b _ := rfl
  tl := rfl
  tk i blk e ce h := by simp at h
  td i j bi ei ci bj ej cj h := by simp at h
  ll := rfl
  ln := List.nodup_nil
  lb l D h := by simp [K.bare] at h
  lp k l D r h := by simp at h
  hb := Nat.le_refl _
  gv := g.mono κ κ.bare (fun _ _ _ h => h) h.gv

theorem KV.find {k : ByteArray} {v : Bool} : ∀ {es : List MapEntry} {cs : List PV} (i : Nat), KV es cs →
    (Instr.findNow .string (.string k) es i = some none ∧ kvGet k.data.toList cs = some false ∧ ∀ c, KV (es ++ [{ key := .string k, val := .bool v, born := c }]) (kvPut k.data.toList v cs)) ∨
    ∃ j e b, Instr.findNow .string (.string k) es i = some (some (i + j, .bool b)) ∧ es[j]? = some e ∧ e.key = .string k ∧ kvGet k.data.toList cs = some b ∧
      KV (es.modify j fun e => { e with key := .string k, val := .bool v }) (kvPut k.data.toList v cs)
  | [], cs, i, h => by
    simp only [KV] at h; subst h
    exact .inl ⟨rfl, rfl, fun c => ⟨k, v, [], rfl, rfl, rfl, rfl⟩⟩
  | e :: es, cs, i, h => by
    obtain ⟨s, b, r, h1, h2, rfl, h4⟩ := h
    have hsame : Instr.sameNow .string (.string k) e.key = some (k == s) := by rw [h1]; rfl
    by_cases hk : s = k
    · subst hk
      have hb : (s == s) = true := (MapKept.bytes_beq s s).2 rfl
      refine .inr ⟨0, e, b, by simp [Instr.findNow, hsame, hb, h2], rfl, h1, by simp [kvGet], ?_⟩
      simp only [List.modify_zero_cons, kvPut, if_true]
      exact ⟨s, v, r, rfl, rfl, rfl, h4⟩
    · have hb : (k == s) = false := by
        cases hq : (k == s) with
        | false => rfl
        | true => exact absurd ((MapKept.bytes_beq k s).1 hq).symm hk
      have hne : ¬ s.data.toList = k.data.toList := fun q => hk (by
        obtain ⟨⟨a⟩⟩ := s; obtain ⟨⟨c⟩⟩ := k
        simp only at q; rw [q])
      rcases KV.find (k := k) (v := v) (i + 1) h4 with ⟨g1, g2, g3⟩ | ⟨j, e', b', g1, g2, g3, g4, g5⟩
      · refine .inl ⟨by simp [Instr.findNow, hsame, hb, g1], by simp [kvGet, hne, g2], fun c => ?_⟩
        simp only [kvPut, if_neg hne]
        exact ⟨s, b, _, h1, h2, rfl, g3 c⟩
      · refine .inr ⟨j + 1, e', b', by simp [Instr.findNow, hsame, hb, g1]; omega, by simpa using g2, g3, by simp [kvGet, hne, g4], ?_⟩
        simp only [kvPut, if_neg hne, List.modify_succ_cons]
        exact ⟨s, b, _, h1, h2, rfl, g5⟩

theorem SR.addMap (h : SR P g base κ w st) {w' : World} (hw : w'.heap = w.heap.push (.map #[] 0)) :
    let κ' : K := { κ with φ := κ.φ ++ [w.heap.size], μ := fun b => if b = κ.φ.length then true else κ.μ b }
    K.le κ κ' ∧ SR P g base κ' w' { st with boxes := st.boxes ++ [[]] } := by
  intro κ'
  have hμ : ∀ b, b < κ.φ.length → κ'.μ b = κ.μ b := fun b hb => by simp [κ', show ¬ b = κ.φ.length by omega]
  have hle : K.le κ κ' := ⟨fun _ _ _ h => h, fun i x hx => by
    have := (List.getElem?_eq_some_iff.1 hx).1
    simp [κ', List.getElem?_append_left this, hx], fun _ _ h => h, fun _ _ h => h, fun _ _ h => h, hμ⟩
  have hsz : w'.heap.size = w.heap.size + 1 := by rw [hw]; simp
  have old : ∀ (b blk : Nat), b < st.boxes.length → κ'.φ[b]? = some blk → κ.φ[b]? = some blk := fun b blk hb h2 => by
    simp only [κ', List.getElem?_append_left (show b < κ.φ.length by rw [h.bl]; exact hb)] at h2; exact h2
  have last : ∀ b cs, ¬ b < st.boxes.length → (st.boxes ++ [[]])[b]? = some cs → b = κ.φ.length ∧ cs = [] := fun b cs hb h1 => by
    have h3 := (List.getElem?_eq_some_iff.1 h1).1
    simp at h3
    obtain rfl : b = st.boxes.length := by omega
    simp at h1
    exact ⟨h.bl.symm, h1⟩
  refine ⟨hle, { cC := fun b i v hc => cell_push hw (h.cC b i v hc), sh := h.sh_push hw, bl := by simp [κ', h.bl], bn := ?_, bx := ?_, mx := ?_, mz := ?_, tl := h.tl, tk := ?_, td := h.td, ll := h.ll, ln := h.ln, lb := h.lb, lp := ?_, hb := ?_, gv := g.mono _ _ hle.C h.gv }⟩
  · show (κ.φ ++ [w.heap.size]).Nodup
    rw [List.nodup_append]
    refine ⟨h.bn, by simp, fun a ha b hb => ?_⟩
    simp at hb
    obtain ⟨i, hi⟩ := List.getElem?_of_mem ha
    have := h.phi_lt hi
    omega
  · intro b blk cs h1 h2 hm
    by_cases hb : b < st.boxes.length
    · simp only [List.getElem?_append_left hb] at h1
      have h2 := old b blk hb h2
      rw [hμ b (by rw [h.bl]; exact hb)] at hm
      have hx := h.bx b blk cs h1 h2 hm
      obtain ⟨rs', hc, h3, h4⟩ := hx.ex
      have hsame : w'.heap[blk]? = w.heap[blk]? := by rw [hw, Array.getElem?_push, if_neg (by have := hc.lt; omega)]
      exact ⟨hx.ge, hx.nc, ⟨rs', hc.congr hsame, h3, fun i c hi => by
        obtain ⟨v, hv, hr'⟩ := h4 i c hi
        exact ⟨v, hv, hr'.mono hle⟩⟩, hx.lf, hx.lw, fun hm => by rw [← hx.sb hm]; exact shape_congr hsame⟩
    · obtain ⟨rfl, -⟩ := last b cs hb h1
      simp [κ'] at hm
  · intro b blk cs h1 h2 hm
    by_cases hb : b < st.boxes.length
    · simp only [List.getElem?_append_left hb] at h1
      rw [hμ b (by rw [h.bl]; exact hb)] at hm
      exact (h.mx b blk cs h1 (old b blk hb h2) hm).push hw
    · obtain ⟨rfl, rfl⟩ := last b cs hb h1
      simp [κ'] at h2
      subst h2
      exact ⟨h.hb, #[], 0, by rw [hw]; simp, rfl⟩
  · intro b hb
    simp [κ'] at hb
    simp only [κ', show ¬ b = κ.φ.length by omega, if_false]
    exact h.mz b (by omega)
  · intro i blk e ce h1 h2
    have hx := h.tk i blk e ce h1 h2
    obtain ⟨rs', hc, h3⟩ := hx.ex
    refine ⟨hx.ge, ?_, hx.nc, ⟨rs', hc.congr ?_, h3⟩⟩
    · simp only [κ', List.mem_append, List.mem_singleton, not_or]
      exact ⟨hx.nb, by have := hc.lt; omega⟩
    · rw [hw, Array.getElem?_push, if_neg (by have := hc.lt; omega)]
  · intro k l D r h1 h2
    exact (h.lp k l D r h1 h2).mono hle (fun k o ho _ => by rw [hw]; exact push_old ho)
  · rw [hsz]; have := h.hb; omega

theorem SR.setMap (h : SR P g base κ w st) {b blk : Nat} {cs cs' : List PV} {es es' : Array MapEntry} {clock clock' : Nat} (hb : st.boxes[b]? = some cs) (hp : κ.φ[b]? = some blk) (hμ : κ.μ b = true)
    (hw : w.heap[blk]? = some (.map es clock)) (hkv : KV es'.toList cs') :
    SR P g base κ { w with heap := w.heap.setIfInBounds blk (.map es' clock') } { st with boxes := st.boxes.set b cs' } ∧ Fr base κ.lam w { w with heap := w.heap.setIfInBounds blk (.map es' clock') } := by
  have hge := (h.mx b blk cs hb hp hμ).ge
  obtain ⟨hset, hoth⟩ := MapKept.heap_set (o' := .map es' clock') hw
  have hobj : ∀ (k : Nat) (o : Obj), w.heap[k]? = some o → isCells o = false → (w.heap.setIfInBounds blk (.map es' clock'))[k]? = some o := fun k o ho hc => by
    rw [hoth k (by rintro rfl; rw [hw] at ho; cases ho; simp [isCells] at hc)]; exact ho
  have hcells : ∀ {k : Nat} {rs : Array Value}, Cells w k rs → k ≠ blk := fun {k rs} hc => by
    rintro rfl
    obtain ⟨el, lo, hi, h1, _⟩ := hc
    rw [hw] at h1; cases h1
  refine ⟨{ cC := fun b' i v hc => ?_, sh := fun b' t hs => ?_, bl := by simp [h.bl], bn := h.bn, bx := ?_, mx := ?_, mz := h.mz, tl := h.tl, tk := ?_, td := h.td, ll := h.ll, ln := h.ln, lb := h.lb, lp := fun k l D r h1 h2 => (h.lp k l D r h1 h2).mono (K.le.refl _) hobj, hb := by simpa using h.hb, gv := h.gv },
    Fr.of ⟨rfl, rfl, rfl, by simp, fun k hk => hoth k (by omega)⟩ fun k o ho hc => hobj k o ho hc⟩
  · have h1 := h.cC b' i v hc
    have hne : b' ≠ blk := by
      rintro rfl
      simp [World.cell?, hw] at h1
    rw [← h1]
    simp only [World.cell?, hoth _ hne]
  · obtain ⟨n, hn⟩ := h.sh b' t hs
    have hne : b' ≠ blk := by
      rintro rfl
      simp [World.shape?, hw] at hn
    exact ⟨n, by rw [← hn]; exact shape_congr (hoth _ hne)⟩
  · intro b' blk' cs'' h1 h2 hm
    have hbb : b ≠ b' := by rintro rfl; rw [hμ] at hm; cases hm
    simp only [List.getElem?_set_ne hbb] at h1
    have hy := h.bx b' blk' cs'' h1 h2 hm
    obtain ⟨rs2, hc, h3, h4⟩ := hy.ex
    have hne := hcells hc
    exact ⟨hy.ge, hy.nc, ⟨rs2, hc.congr (hoth _ hne), h3, h4⟩, hy.lf, hy.lw, fun hm => by rw [← hy.sb hm]; exact shape_congr (hoth _ hne)⟩
  · intro b' blk' cs'' h1 h2 hm
    by_cases hbb : b = b'
    · subst hbb
      rw [hp] at h2; cases h2
      have hlen : b < st.boxes.length := (List.getElem?_eq_some_iff.1 hb).1
      simp [hlen] at h1
      subst h1
      exact ⟨hge, es', clock', hset, hkv⟩
    · simp only [List.getElem?_set_ne hbb] at h1
      have hne : blk' ≠ blk := by
        rintro rfl
        exact hbb ((List.getElem?_inj (by rw [h.bl]; exact (List.getElem?_eq_some_iff.1 hb).1) h.bn).1 (hp.trans h2.symm))
      exact (h.mx b' blk' cs'' h1 h2 hm).congr (hoth _ hne)
  · intro i blk' e ce h1 h2
    have hy := h.tk i blk' e ce h1 h2
    obtain ⟨rs2, hc, h3⟩ := hy.ex
    exact ⟨hy.ge, hy.nb, hy.nc, ⟨rs2, hc.congr (hoth _ (hcells hc)), h3⟩⟩

theorem mapT_eq {t : TypeId} (h : mapT P t = true) : ∃ k e, P.underlying t = some (.map k e) ∧ P.underlying k = some .string ∧ zeroT P e = some (.bool false) := by
  unfold mapT at h
  split at h
  · rename_i k e hu
    simp only [Bool.and_eq_true] at h
    refine ⟨k, e, hu, isStrT_eq h.1, ?_⟩
    have h2 := h.2
    split at h2
    · rename_i b hz
      cases b
      · exact hz
      · cases h2
    · cases h2
  · cases h

theorem mkmap_sim (h : SR P g base κ w st) (t : TypeId) : ∃ u w', (Instr.makeMap t none).run P w = .ok u w' ∧ Good P g base κ w u w' (.mref st.boxes.length) { st with boxes := st.boxes ++ [[]] } := by
  have hrun : (Instr.makeMap t none).run P w = .ok (.map (some w.heap.size)) { w with heap := w.heap.push (.map #[] 0) } := by
    simp [Instr.makeMap, newObj, Sem.run]
  obtain ⟨h1, h2⟩ := h.addMap (w' := { w with heap := w.heap.push (.map #[] 0) }) rfl
  refine ⟨_, _, hrun, _, h1, rfl, h2, .mref _ _ ?_ ?_, Fr.push h.hb rfl rfl rfl rfl⟩
  · show (κ.φ ++ [w.heap.size])[st.boxes.length]? = _
    rw [← h.bl]; simp
  · simp [h.bl]

theorem mget_sim (h : SR P g base κ w st) {t : TypeId} {x k : Value} {px pk p : PV} (ht : mapT P t = true) (hx : R g κ x px) (hk : R g κ k pk) (hp : mgetPV st px pk = some p) :
    ∃ z, (Instr.lookup t x k false).run P w = .ok z w ∧ R g κ z p := by
  obtain ⟨kt, et, hm, hd, hz⟩ := mapT_eq ht
  unfold mgetPV at hp
  split at hp
  · rename_i b s
    split at hp
    · rename_i cs hcs
      simp only [Option.map_eq_some_iff] at hp
      obtain ⟨v, hv, rfl⟩ := hp
      cases hx with | mref _ blk hφ hμ =>
      cases hk with | str sb _ hs =>
      obtain ⟨es, clock, hb, hkv⟩ := (h.mx b blk cs hcs hφ hμ).ex
      have hkey : MapKept.IsKey .string (.string sb) := trivial
      rw [← hs] at hv
      rcases KV.find (k := sb) (v := true) 0 hkv with ⟨g1, g2, -⟩ | ⟨j, e, b', g1, g2, g3, g4, -⟩
      · rw [g2] at hv; cases hv
        exact ⟨.bool false, by simp [Instr.lookup, run_underlying hm, MapKept.run_getObj_map hb, MapKept.run_checkKey hd hkey, MapKept.run_findKey hd g1, run_zeroValue hz, Result.andThen], .bool _⟩
      · rw [g4] at hv; cases hv
        exact ⟨.bool _, by simp [Instr.lookup, run_underlying hm, MapKept.run_getObj_map hb, MapKept.run_checkKey hd hkey, MapKept.run_findKey hd g1, Result.andThen], .bool _⟩
    · cases hp
  · cases hp

theorem mput_sim (h : SR P g base κ w st) {t : TypeId} {x k v : Value} {px pk pv p : PV} {st' : St} (ht : mapT P t = true) (hx : R g κ x px) (hk : R g κ k pk) (hv : R g κ v pv) (hp : mputPV st px pk pv = some (p, st')) :
    p = .undef ∧ ∃ w', (Instr.mapUpdate t x k v).run P w = .ok () w' ∧ Good P g base κ w undef w' .undef st' := by
  obtain ⟨kt, et, hm, hd, hz⟩ := mapT_eq ht
  unfold mputPV at hp
  split at hp
  · rename_i b s v'
    split at hp
    · rename_i cs hcs
      cases hp
      cases hx with | mref _ blk hφ hμ =>
      cases hk with | str sb _ hs =>
      cases hv
      obtain ⟨es, clock, hb, hkv⟩ := (h.mx b blk cs hcs hφ hμ).ex
      have hkey : MapKept.IsKey .string (.string sb) := trivial
      refine ⟨rfl, ?_⟩
      rw [← hs]
      rcases KV.find (k := sb) (v := v') 0 hkv with ⟨g1, g2, g3⟩ | ⟨j, e, b', g1, g2, g3, g4, g5⟩
      · obtain ⟨q1, q2⟩ := h.setMap (es' := es.push { key := .string sb, val := .bool v', born := clock }) (clock' := clock + 1) hcs hφ hμ hb (by simpa using g3 clock)
        exact ⟨_, by simp [Instr.mapUpdate, run_underlying hm, MapKept.run_getObj_map hb, MapKept.run_checkKey hd hkey, MapKept.run_findKey hd g1, MapKept.run_setObj_map _ hb, Result.andThen], κ, K.le.refl κ, rfl, q1, .undef, q2⟩
      · have hj : es[j]? = some e := by simpa using g2
        obtain ⟨q1, q2⟩ := h.setMap (es' := es.modify j fun e => { e with key := .string sb, val := .bool v' }) (clock' := clock) hcs hφ hμ hb (by simpa using g5)
        exact ⟨_, by simp [Instr.mapUpdate, run_underlying hm, MapKept.run_getObj_map hb, MapKept.run_checkKey hd hkey, MapKept.run_findKey hd g1, hj, g3, MapKept.run_keyThatStays hkey, MapKept.run_setObj_map _ hb, Result.andThen], κ, K.le.refl κ, rfl, q1, .undef, q2⟩
    · cases hp
  · cases hp
end Go.Ab
/-
  Rows that are written in place: the built-in clear; a row that is not written any more.
-/
namespace Go.Ab

variable {P : Program} {g : GMap} {base : Nat} {κ : K} {w : World} {st : St}

theorem zeroLeaf_ok {p : PV} (h : zeroLeaf p = true) : leafOk p = true ∧ p.data = true := by cases p <;> simp_all [zeroLeaf, leafOk, PV.data]
theorem flat_rep (z : List PV) (n : Nat) : (List.replicate n z).flatten = flat (List.replicate n (.agg z)) := by
  induction n with
  | zero => rfl
  | succ n ih => simp only [List.replicate_succ, List.flatten_cons, flat, List.flatMap_cons] at *; rw [ih]; rfl
theorem set_same {α : Type} {l : List α} {b : Nat} {x : α} (h : l[b]? = some x) : l.set b x = l := by
  apply List.ext_getElem?
  intro j
  by_cases hj : b = j
  · subst hj; rw [List.getElem?_set_self (List.getElem?_eq_some_iff.1 h).1, h]
  · rw [List.getElem?_set_ne hj]

theorem clr_sim (h : SR P g base κ w st) {ats : Array TypeId} {t e ty : TypeId} {zero : Value} {z : List PV} {v : Value} {p r : PV} {st' : St} (hat : ats[0]? = some t) (hel : sliceElem P t = some e) (hsz : sizeT P e = some z.length) (h0 : 0 < z.length)
    (hzv : zeroT P e = some zero) (hzc : chkLeaves zero.cells.toList z = true) (hd : R g κ v p) (hs : clrPV st z p = some (r, st')) :
    ∃ q w', (Builtin.clear_ ats ty #[v]).run P w = .ok q w' ∧ Good P g base κ w q w' r st' := by
  have hu := sliceElem_eq hel
  unfold clrPV at hs
  split at hs
  · cases hs
    cases hd
    exact ⟨.tuple #[], w, by simp [Builtin.clear_, hat, run_underlying hu], Good.same h .undef⟩
  · rename_i b off n
    split at hs
    · rename_i cs hcs
      split at hs
      · rename_i hle
        obtain ⟨hle, hzl⟩ := hle
        cases hs
        cases hd with | ms _ _ off' _ c blk hφ hc ho hμ =>
        by_cases hn : n = 0
        · subst hn
          have hbb : st.boxes.set b (setCells cs off (List.replicate 0 z).flatten) = st.boxes := set_same hcs
          refine ⟨.tuple #[], w, by simp [Builtin.clear_, hat, run_underlying hu], ?_⟩
          rw [hbb]
          exact Good.same h .undef
        · have hoff : off' = off := by rcases ho with ho | ho; exact absurd ho hn; exact ho
          subst hoff
          have hbx := h.bx b blk cs hcs hφ hμ
          obtain ⟨rs, ⟨el, lo, hi, hw, hf⟩, hl, hr⟩ := hbx.ex
          obtain ⟨d1, d2, d3, d4, d5⟩ := chkLeaves_R (g := g) (κ := κ) _ _ hzc
          have hzs : zero.cells.size = z.length := by simpa using d1
          have hcr := zeros_CR (g := g) (κ := κ) (len := n) (zero := zero) (z := .agg z) h0 rfl hzc
          obtain ⟨us, hus⟩ : ∃ us, us = (Builtin.zeroCells zero.cells n).toList := ⟨_, rfl⟩
          have husA : (Builtin.zeroCells zero.cells n) = (Array.range (n * z.length)).map (zero.cells[· % zero.cells.size]!) := by
            unfold Builtin.zeroCells; rw [hzs]
          obtain ⟨ps, hps⟩ : ∃ ps, ps = (List.replicate n z).flatten := ⟨_, rfl⟩
          have hpsf : ps = flat (List.replicate n (.agg z)) := by rw [hps, flat_rep]
          have hpl : ps.length = n * z.length := by rw [hps]; simp
          have hcl : ps.length = us.length := by rw [hus, husA, hpl]; simp
          have hmem : ∀ q ∈ ps, q ∈ z := fun q hq => by
            rw [hps] at hq
            obtain ⟨y, hy, hqy⟩ := List.mem_flatten.1 hq
            rw [List.eq_of_mem_replicate hy] at hqy; exact hqy
          have hlo : ps.all leafOk = true := by rw [List.all_eq_true] at *; exact fun q hq => d3 q (hmem q hq)
          have hR : ∀ (i : Nat) (a : Value) (q : PV), us[i]? = some a → ps[i]? = some q → R g κ a q := fun i a q h1 h2 => by
            rw [hus, husA] at h1
            rw [hpsf] at h2
            exact hcr.2 i a q (by rw [Array.getElem?_toList] at h1; exact h1) h2
          have hone : ∀ a ∈ us, oneCell a = true := fun a ha => by
            obtain ⟨i, hi'⟩ := List.getElem?_of_mem ha
            have hlt : i < ps.length := by rw [hcl]; exact (List.getElem?_eq_some_iff.1 hi').1
            obtain ⟨q, hq⟩ : ∃ q, ps[i]? = some q := ⟨ps[i], by simp [hlt]⟩
            have hRa := hR i a q hi' hq
            have hok := List.all_eq_true.1 hlo q (List.mem_of_getElem? hq)
            cases hRa <;> first | rfl | simp [leafOk] at hok
          rw [← hps]
          refine ⟨.tuple #[], setBlk w blk (setA rs off' us) el (lo, hi), ?_, ?_⟩
          · have hst := run_storeCells (P := P) off' us 0 w rs hw hf (by rw [← hcl, hpl]; omega) hone
            rw [Nat.add_zero] at hst
            obtain ⟨k, rfl⟩ : ∃ k, n = k + 1 := ⟨n - 1, by omega⟩
            unfold Builtin.clear_
            simp only [hat, List.getElem?_toArray, List.getElem?_cons_zero, Sem.run_bind, run_underlying hu, Result.andThen_ok, run_zeroValue hzv, ← hus, hst, Sem.run_pure]
          · have hsr := h.setBox (rs' := setA rs off' us) (cs' := setCells cs off' ps) st.low hcs hφ hμ hw hf (setA_size _ _ _) (by rw [setCells_length]; exact hl) (fun i c hc => ?_)
              (setCells_allB _ _ _ hbx.lf (leafB_all hlo)) (fun c hc => ?_) (fun hm => by
                obtain ⟨i, hi'⟩ := List.getElem?_of_mem hm
                rw [setCells_get _ _ _ _ (by rw [hpl]; omega)] at hi'
                split at hi'
                · have := (List.all_eq_true.1 hlo) _ (List.mem_of_getElem? hi')
                  simp [leafOk] at this
                · exact List.mem_of_getElem? hi') (fun hz => by
                subst hz
                have : 0 < n * z.length := Nat.mul_pos (by omega) h0
                simp at hle; omega)
            · exact ⟨κ, K.le.refl κ, rfl, hsr, .undef, Fr.setBlk hw hbx.ge⟩
            · rw [setCells_get _ _ _ _ (by rw [hpl]; omega), hcl] at hc
              rw [setA_get _ _ _ _ (by rw [← hcl, hpl]; omega)]
              split at hc
              · rename_i hi'
                rw [if_pos hi']
                have hlt : i - off' < us.length := by omega
                exact ⟨us[i - off'], by simp [hlt], hR (i - off') _ c (by simp [hlt]) hc⟩
              · rename_i hi'
                rw [if_neg hi']
                exact hr i c hc
            · obtain ⟨i, hi'⟩ := List.getElem?_of_mem hc
              rw [setCells_get _ _ _ _ (by rw [hpl]; omega)] at hi'
              split at hi'
              · exact d4 _ c (hmem c (List.mem_of_getElem? hi'))
              · exact hbx.lw c (List.mem_of_getElem? hi')
      · cases hs
    · cases hs
  · cases hs

theorem SR.freezeBox (h : SR P g base κ w st) {b blk : Nat} {cs : List PV} {rs : Array Value} {el : TypeId} {lo hi : Nat} (hb : st.boxes[b]? = some cs) (hp : κ.φ[b]? = some blk) (hμ : κ.μ b = false) (hw : w.heap[blk]? = some (.cells rs el (lo, hi))) (hf : lo = hi ∨ rs.size ≤ lo) (hcs : cs ≠ []) :
    K.le κ (κ.addC blk fun i => rs[i]?) ∧ SR P g base (κ.addC blk fun i => rs[i]?) w { st with boxes := st.boxes.set b [] } := by
  have hx0 := h.bx b blk cs hb hp hμ
  have hn := hx0.nc hcs
  obtain ⟨κ', hκ⟩ : ∃ κ', κ' = κ.addC blk fun i => rs[i]? := ⟨_, rfl⟩
  rw [← hκ]
  have hold : ∀ b i, b ≠ blk → κ'.C b i = κ.C b i := fun b i hb => by simp [hκ, K.addC, hb]
  have hφ : κ'.φ = κ.φ := by rw [hκ]; rfl
  have hτ : κ'.τ = κ.τ := by rw [hκ]; rfl
  have hlm : κ'.lam = κ.lam := by rw [hκ]; rfl
  have hS : κ'.S = κ.S := by rw [hκ]; rfl
  have hμ' : κ'.μ = κ.μ := by rw [hκ]; rfl
  have hle : K.le κ κ' := ⟨fun b i v hc => by
      have : b ≠ blk := by rintro rfl; rw [hn] at hc; cases hc
      rw [hold _ _ this]; exact hc, fun _ _ x => by rw [hφ]; exact x, fun _ _ x => by rw [hlm]; exact x, fun _ _ x => by rw [hτ]; exact x, fun _ _ x => by rw [hS]; exact x, fun _ _ => by rw [hμ']⟩
  refine ⟨hle, ?_⟩
  refine { cC := ?_, sh := fun b t hb => h.sh b t (by rw [← hS]; exact hb), bl := by rw [hφ]; simpa using h.bl, bn := by rw [hφ]; exact h.bn, bx := ?_, mx := ?_, mz := by rw [hφ, hμ']; exact h.mz, tl := by rw [hτ]; exact h.tl, tk := ?_, td := by rw [hτ]; exact h.td, ll := by rw [hlm]; exact h.ll, ln := by rw [hlm]; exact h.ln, lb := by rw [hlm]; exact h.lb, lp := ?_, hb := h.hb, gv := g.mono _ _ hle.C h.gv }
  · intro b i v hc
    by_cases hb : b = blk
    · subst hb
      simp only [hκ, K.addC, if_pos] at hc
      simp only [World.cell?, hw]
      cases hri : rs[i]? with
      | none => simp [hri, hn] at hc
      | some u => simp [hri] at hc; simp [hc]
    · rw [hold _ _ hb] at hc
      exact h.cC b i v hc
  · intro b' blk' cs' h1 h2 hm
    rw [hφ] at h2
    rw [hμ'] at hm
    by_cases hbb : b = b'
    · subst hbb
      rw [hp] at h2; cases h2
      rw [List.getElem?_set_self (List.getElem?_eq_some_iff.1 hb).1] at h1
      cases h1
      exact ⟨hx0.ge, fun hq => absurd rfl hq, ⟨rs, ⟨el, lo, hi, hw, hf⟩, by simp, fun i c hi => by simp at hi⟩, rfl, fun c hc => by simp at hc, fun hm => by simp at hm⟩
    · rw [List.getElem?_set_ne hbb] at h1
      have hx := h.bx b' blk' cs' h1 h2 hm
      have hne : blk' ≠ blk := by
        rintro rfl
        exact hbb ((List.getElem?_inj (by rw [h.bl]; exact (List.getElem?_eq_some_iff.1 hb).1) h.bn).1 (hp.trans h2.symm))
      obtain ⟨rs', hc, h3, h4⟩ := hx.ex
      refine ⟨hx.ge, fun hq i => by rw [hold _ _ hne]; exact hx.nc hq i, ⟨rs', hc, h3, fun i c hi => ?_⟩, hx.lf, hx.lw, hx.sb⟩
      obtain ⟨v, hv, hr'⟩ := h4 i c hi
      exact ⟨v, hv, hr'.mono hle⟩
  · intro b' blk' cs' h1 h2 hm
    rw [hφ] at h2
    rw [hμ'] at hm
    have hbb : b ≠ b' := by rintro rfl; rw [hμ] at hm; cases hm
    rw [List.getElem?_set_ne hbb] at h1
    exact h.mx b' blk' cs' h1 h2 hm
  · intro i blk' e ce h1 h2
    rw [hτ] at h2
    have hx := h.tk i blk' e ce h1 h2
    have hne : blk' ≠ blk := by rintro rfl; exact hx.nb (List.mem_of_getElem? hp)
    exact ⟨hx.ge, by rw [hφ]; exact hx.nb, fun j hj => by rw [hold _ _ hne]; exact hx.nc j hj, hx.ex⟩
  · intro k l D r h1 h2
    rw [hlm] at h2
    exact (h.lp k l D r h1 h2).mono hle (fun k o ho _ => ho)

theorem flat_chunks (esz : Nat) (cs : List PV) : ∀ n, n * esz ≤ cs.length → flat (chunks esz n cs) = cs.take (n * esz)
  | 0, _ => by simp [chunks, flat]
  | n + 1, h => by
    have h' : n * esz + esz ≤ cs.length := by rw [Nat.succ_mul] at h; exact h
    have ih := flat_chunks esz cs n (by omega)
    unfold chunks at ih ⊢
    rw [List.range_succ, List.map_append, flat_append, ih, Nat.succ_mul, List.take_add]
    simp [flat, PV.cells]
theorem chunks_len {esz n : Nat} {cs : List PV} : (chunks esz n cs).length = n := by simp [chunks]
theorem chunks_cells {esz n : Nat} {cs : List PV} (h : n * esz ≤ cs.length) : ∀ x ∈ chunks esz n cs, x.cells.length = esz := by
  intro x hx
  obtain ⟨i, hi, rfl⟩ := List.mem_map.1 hx
  rw [List.mem_range] at hi
  have : (i + 1) * esz ≤ n * esz := Nat.mul_le_mul_right _ hi
  rw [Nat.succ_mul] at this
  simp only [PV.cells, List.length_take, List.length_drop]
  omega
theorem dataAll_of {l : List PV} (h : ∀ p ∈ l, p.data = true) : dataAll l = true := by
  induction l with
  | nil => rfl
  | cons a r ih => simp only [dataAll, Bool.and_eq_true]; exact ⟨h a (by simp), ih fun p hp => h p (by simp [hp])⟩

theorem frzr_sim (h : SR P g base κ w st) {esz : Nat} {v : Value} {p r : PV} {st' : St} (hd : R g κ v p) (hs : frzPV st esz p = some (r, st')) : Good P g base κ w v w r st' := by
  unfold frzPV at hs
  split at hs
  · cases hs
    exact Good.same h hd
  · rename_i b off n
    split at hs
    · rename_i cs hcs
      split at hs
      · rename_i hle
        obtain ⟨rfl, hle, hzl⟩ := hle
        cases hs
        cases hd with | ms _ _ off' _ c blk hφ hc ho hμ =>
        have hzl' : ∀ q ∈ cs, leafOk q = true ∧ q.data = true := fun q hq => zeroLeaf_ok (List.all_eq_true.1 hzl q hq)
        have hdat : dataAll (chunks esz n cs) = true := dataAll_of fun x hx => by
          obtain ⟨i, hi, rfl⟩ := List.mem_map.1 hx
          show dataAll _ = true
          exact dataAll_of fun q hq => (hzl' q (List.mem_of_mem_drop (List.mem_of_mem_take hq))).2
        have hlf : (flat (chunks esz n cs)).all leafOk = true := by
          rw [flat_chunks esz cs n hle, List.all_eq_true]
          exact fun q hq => (hzl' q (List.mem_of_mem_take hq)).1
        by_cases hcs0 : cs = []
        · subst hcs0
          rw [set_same hcs]
          have hx0 : flat (chunks esz n []) = [] := by rw [flat_chunks esz [] n hle]; simp
          exact Good.same h (.sl blk off' n c esz .no _ [] chunks_len.symm hc (chunks_cells hle) (by rw [hx0]; rfl) (fun i v hv => by simp at hv) (fun i v q hv _ => by simp at hv) hdat hlf trivial)
        · have hbx := h.bx b blk cs hcs hφ hμ
          obtain ⟨rs, ⟨el, lo, hi, hw, hf⟩, hl, hr⟩ := hbx.ex
          obtain ⟨f1, f2⟩ := h.freezeBox hcs hφ hμ hw hf hcs0
          refine ⟨_, f1, rfl, f2, ?_, Fr.refl _ _⟩
          have hfc := flat_chunks esz cs n hle
          refine .sl blk off' n c esz .no _ (rs.toList.take (n * esz)) chunks_len.symm hc (chunks_cells hle) ?_ (fun i v hv => ?_) (fun i v q hv hq => ?_) hdat hlf trivial
          · rw [hfc, List.length_take, List.length_take]
            have : rs.toList.length = rs.size := by simp
            omega
          · have hi := (List.getElem?_eq_some_iff.1 hv).1
            simp only [List.length_take] at hi
            have hn : n ≠ 0 := by rintro rfl; simp at hi
            have hoff : off' = 0 := by rcases ho with ho | ho; exact absurd ho hn; exact ho
            subst hoff
            rw [List.getElem?_take, if_pos (by omega)] at hv
            have hv' : rs[i]? = some v := by simpa using hv
            simp [K.addC, hv']
          · rw [hfc] at hq
            have hi := (List.getElem?_eq_some_iff.1 hv).1
            simp only [List.length_take] at hi
            rw [List.getElem?_take, if_pos (by omega)] at hv hq
            have hv' : rs[i]? = some v := by simpa using hv
            obtain ⟨v2, g1, g2⟩ := hr i q hq
            rw [hv'] at g1; cases g1
            exact g2.mono f1
      · cases hs
    · cases hs
  · cases hs

end Go.Ab
/-
  make, min, max; all operations but calls together.
-/
namespace Go.Ab

variable {P : Program} {g : GMap} {base : Nat} {κ : K} {w : World} {st : St}

theorem i64_wrap_small {n : Int} (h0 : 0 ≤ n) (h : n ≤ room) : IntKind.i64.wrap n = n := by
  have : room = 68719476736 := rfl
  simp [IntKind.wrap, IntKind.bits, IntKind.signed]
  omega

theorem run_makeSlice {t e : TypeId} {esz b : Nat} {zero : Value} {k k' : IntKind} {l c : Int} (ht : sliceElem P t = some e) (hs : sizeT P e = some esz) (h0 : 0 < esz) (hb : bytesT P e = some b) (hb' : b ≤ 256) (hz : zeroT P e = some zero)
    (hl : 0 ≤ l) (hlc : l ≤ c) (hc : c ≤ room) :
    ∃ w', (Instr.makeSlice t (.int k l) (.int k' c)).run P w = .ok (.slice (some ⟨w.heap.size, 0, none⟩) l.toNat c.toNat) w' ∧
      w' = { w with heap := w.heap.push (.cells ((Array.range (c.toNat * esz)).map (zero.cells[· % zero.cells.size]!)) e (0, 0)) } := by
  have hu := sliceElem_eq ht
  unfold bytesT at hb
  cases hi : P.info? e with
  | none => simp [hi] at hb
  | some i =>
    simp [hi] at hb
    subst hb
    have hroom : room = 68719476736 := rfl
    have hwl := i64_wrap_small hl (by omega)
    have hwc := i64_wrap_small (show 0 ≤ c by omega) hc
    have hmul : (i.bytes : Int) * c ≤ 256 * 68719476736 := by
      have h1 : (i.bytes : Int) * c ≤ 256 * c := Int.mul_le_mul_of_nonneg_right (by omega) (by omega)
      omega
    have hask : ∀ (b : Nat) (w1 : World), (askRoom b).run P w1 = .ok () w1 := fun b w1 => by
      unfold askRoom; split <;> simp [mark, Sem.run]
    refine ⟨_, ?_, rfl⟩
    unfold Instr.makeSlice
    simp only [Sem.run_bind, run_underlying hu, Result.andThen_ok, asInt, asIntOf, Sem.run_pure, run_typeInfo hi, hwl, hwc]
    rw [if_neg (by simp; omega)]
    simp only [Sem.run_bind, hask, Result.andThen_ok, run_sizeOf hs]
    by_cases hn : c.toNat * esz = 0
    · rw [if_pos hn]
      simp only [Sem.run_bind, Sem.run_pure, Result.andThen_ok, run_newRow]
      rw [hn]; simp [show Array.range 0 = #[] from rfl]
    · rw [if_neg hn]
      simp only [Sem.run_bind, Sem.run_pure, Result.andThen_ok, run_newRow, run_zeroValue hz]

theorem mk8_sim (h : SR P g base κ w st) {t e : TypeId} {b : Nat} {mu : Bool} {zero : Value} {u v : Value} {k k' : IntKind} {l c : Int} (ht : sliceElem P t = some e) (hs : sizeT P e = some 1) (hb : bytesT P e = some b) (hb' : b ≤ 256) (hz : zeroT P e = some zero)
    (hzc : chkLeaf zero (.b8 0) = true) (heu : e = g.tU) (hu : R g κ u (.int k l)) (hv : R g κ v (.int k' c)) (hl : 0 ≤ l) (hlc : l ≤ c) (hc : c ≤ room) :
    ∃ z w', (Instr.makeSlice t u v).run P w = .ok z w' ∧ Good P g base κ w z w' (if mu then .ms st.boxes.length 0 l.toNat else .bys (freshT st).1 (List.replicate l.toNat 0))
      (if mu then { st with boxes := st.boxes ++ [List.replicate l.toNat (.b8 0)] } else (freshT st).2) := by
  cases hu; cases hv
  obtain ⟨w', hrun, rfl⟩ := run_makeSlice (P := P) (w := w) (k := k) (k' := k') ht hs (by decide) hb hb' hz hl hlc hc
  refine ⟨_, _, hrun, ?_⟩
  have hcells : zero.cells = #[zero] := (chkLeaf_R (g := g) (κ := κ) hzc).2.2.2.2.2
  have hzero : zero = .int .u8 0 := by
    cases zero <;> simp_all [chkLeaf]
  have hget : ∀ i, i < c.toNat → ((Array.range (c.toNat * 1)).map (zero.cells[· % zero.cells.size]!))[i]? = some (.int .u8 0) := fun i hi => by
    rw [hcells, hzero]
    simp [hi, Nat.mod_one]
  cases mu with
  | false =>
    refine good_bytes (toks := st.toks) h rfl rfl rfl rfl (.inl rfl) (by simp) (by omega) (by simp) (fun i b hi => ?_) rfl (fun _ h => h) heu
    have hlt := (List.getElem?_eq_some_iff.1 hi).1
    simp at hlt
    rw [hget i (by omega)]
    simp [hlt] at hi
    subst hi; rfl
  | true =>
    obtain ⟨h1, h2⟩ := h.addBox (w' := { w with heap := w.heap.push (.cells ((Array.range (c.toNat * 1)).map (zero.cells[· % zero.cells.size]!)) e (0, 0)) }) _ e (0, 0) (List.replicate l.toNat (.b8 0)) rfl (.inl rfl) (by simp; omega) (fun i p hi => by
      have hlt := (List.getElem?_eq_some_iff.1 hi).1
      simp at hlt
      simp [hlt] at hi
      subst hi
      exact ⟨_, hget i (by omega), .b8 _ _ rfl⟩) (by simp [leafB]) (by simp [PV.inB]) (fun hm => by simp at hm)
    refine ⟨_, h1, rfl, h2, .ms _ _ _ _ _ _ ?_ (by omega) (.inr rfl) (h.mz _ (by rw [h.bl]; exact Nat.le_refl _)), Fr.push h.hb rfl rfl rfl rfl⟩
    show (κ.φ ++ [w.heap.size])[st.boxes.length]? = _
    rw [← h.bl]; simp

theorem mkms_sim (h : SR P g base κ w st) {t e : TypeId} {b : Nat} {zero : Value} {z : List PV} {u v : Value} {k k' : IntKind} {l c : Int} (ht : sliceElem P t = some e) (hs : sizeT P e = some z.length) (h0 : 0 < z.length) (hb : bytesT P e = some b) (hb' : b ≤ 256) (hz : zeroT P e = some zero)
    (hzc : chkLeaves zero.cells.toList z = true) (hu : R g κ u (.int k l)) (hv : R g κ v (.int k' c)) (hl : 0 ≤ l) (hlc : l ≤ c) (hc : c ≤ room) :
    ∃ r w', (Instr.makeSlice t u v).run P w = .ok r w' ∧ Good P g base κ w r w' (.ms st.boxes.length 0 l.toNat) { st with boxes := st.boxes ++ [(List.replicate l.toNat z).flatten] } := by
  cases hu; cases hv
  obtain ⟨w', hrun, rfl⟩ := run_makeSlice (P := P) (w := w) (k := k) (k' := k') ht hs h0 hb hb' hz hl hlc hc
  refine ⟨_, _, hrun, ?_⟩
  have hcl : (PV.agg z).cells = z := rfl
  have hcr := zeros_CR (g := g) (κ := κ) (len := c.toNat) (z := .agg z) h0 rfl hzc
  obtain ⟨c1, c2, c3, c4, c5⟩ := chkLeaves_R (g := g) (κ := κ) _ _ hzc
  have hfl : ∀ n, (List.replicate n z).flatten = flat (List.replicate n (.agg z)) := fun n => by
    induction n with
    | zero => rfl
    | succ n ih => simp only [List.replicate_succ, List.flatten_cons, flat, List.flatMap_cons] at *; rw [ih]; rfl
  have hpre : ∀ (i : Nat) (p : PV), (flat (List.replicate l.toNat (.agg z)))[i]? = some p → (flat (List.replicate c.toNat (.agg z)))[i]? = some p := fun i p hi => by
    have : List.replicate c.toNat (PV.agg z) = List.replicate l.toNat (.agg z) ++ List.replicate (c.toNat - l.toNat) (.agg z) := by rw [List.replicate_append_replicate]; congr 1; omega
    rw [this, flat_append, List.getElem?_append_left (List.getElem?_eq_some_iff.1 hi).1]; exact hi
  have hmem : ∀ p ∈ (List.replicate l.toNat z).flatten, p ∈ z := fun p hp => by
    obtain ⟨y, hy, hpy⟩ := List.mem_flatten.1 hp
    rw [List.eq_of_mem_replicate hy] at hpy; exact hpy
  obtain ⟨h1, h2⟩ := h.addBox (w' := { w with heap := w.heap.push (.cells ((Array.range (c.toNat * z.length)).map (zero.cells[· % zero.cells.size]!)) e (0, 0)) }) _ e (0, 0) ((List.replicate l.toNat z).flatten) rfl (.inl rfl)
    (by simp only [List.length_flatten, List.map_replicate, List.sum_replicate_nat, Array.size_map, Array.size_range]; exact Nat.mul_le_mul_right _ (by omega)) (fun i p hi => by
      rw [hfl] at hi
      have hp := hpre i p hi
      have hlt : i < ((Array.range (c.toNat * z.length)).map (zero.cells[· % zero.cells.size]!)).size := by rw [hcr.1]; exact (List.getElem?_eq_some_iff.1 hp).1
      exact ⟨_, Array.getElem?_eq_getElem hlt, hcr.2 i _ p (Array.getElem?_eq_getElem hlt) hp⟩)
    (by rw [List.all_eq_true] at *; exact fun x hx => leafB_of (c3 x (hmem x hx))) (fun p hp => c4 _ p (hmem p hp)) (fun hm => by
      have := (List.all_eq_true.1 c3) _ (hmem _ hm)
      simp [leafOk] at this)
  refine ⟨_, h1, rfl, h2, .ms _ _ _ _ _ _ ?_ (by omega) (.inr rfl) (h.mz _ (by rw [h.bl]; exact Nat.le_refl _)), Fr.push h.hb rfl rfl rfl rfl⟩
  show (κ.φ ++ [w.heap.size])[st.boxes.length]? = _
  rw [← h.bl]; simp

theorem mnmx_sim {mx : Bool} {ats : Array TypeId} {ty : TypeId} {vs : Array Value} {ps : List PV} {r : PV} (hl : vs.size = ps.length) (hr : ∀ (i : Nat) (v : Value) (p : PV), vs[i]? = some v → ps[i]? = some p → R g κ v p) (h : mnmxPV mx ps = some r) :
    ∃ z, (if mx then Builtin.max_ ats ty vs else Builtin.min_ ats ty vs).run P w = .ok z w ∧ R g κ z r := by
  obtain ⟨vs⟩ := vs
  unfold mnmxPV at h
  split at h
  · rename_i k a k' b
    split at h
    · rename_i hk; subst hk
      cases h
      match vs, hl with
      | [v0, v1], _ =>
        have r0 := hr 0 v0 _ rfl rfl
        have r1 := hr 1 v1 _ rfl rfl
        cases r0 with | int _ _ hk0 => cases r1 with | int _ _ hk1 =>
        cases mx
        · refine ⟨.int k (if b < a then b else a), by simp [Builtin.min_, Builtin.min2], ?_⟩
          rw [show (if b < a then b else a) = min a b by omega]; exact .int _ _ hk0
        · refine ⟨.int k (if b > a then b else a), by simp [Builtin.max_, Builtin.max2], ?_⟩
          rw [show (if b > a then b else a) = max a b by omega]; exact .int _ _ hk0
    · cases h
  · rename_i k a k' b k'' c
    split at h
    · rename_i hk; obtain ⟨rfl, rfl⟩ := hk
      cases h
      match vs, hl with
      | [v0, v1, v2], _ =>
        have r0 := hr 0 v0 _ rfl rfl
        have r1 := hr 1 v1 _ rfl rfl
        have r2 := hr 2 v2 _ rfl rfl
        cases r0 with | int _ _ hk0 => cases r1 with | int _ _ hk1 => cases r2 with | int _ _ hk2 =>
        cases mx
        · refine ⟨.int k (if c < (if b < a then b else a) then c else (if b < a then b else a)), by simp [Builtin.min_, Builtin.min2], ?_⟩
          rw [show (if c < (if b < a then b else a) then c else (if b < a then b else a)) = min (min a b) c by omega]; exact .int _ _ hk0
        · refine ⟨.int k (if c > (if b > a then b else a) then c else (if b > a then b else a)), by simp [Builtin.max_, Builtin.max2], ?_⟩
          rw [show (if c > (if b > a then b else a) then c else (if b > a then b else a)) = max (max a b) c by omega]; exact .int _ _ hk0
    · cases h
  · cases h

theorem chkOpds_R {ρ : Operand → Value} {e : Env} (hρ : OpdR g κ ρ e) : ∀ (xs : List Operand) (ys : List Opd), chkOpds g xs ys = true →
    (xs.map ρ).length = (ys.map (·.ev e)).length ∧ ∀ (i : Nat) (v : Value) (p : PV), (xs.map ρ)[i]? = some v → (ys.map (·.ev e))[i]? = some p → R g κ v p := by
  intro xs
  induction xs with
  | nil => intro ys h; cases ys with
    | nil => exact ⟨rfl, fun i v p a => by simp at a⟩
    | cons => simp [chkOpds] at h
  | cons x xs ih =>
    intro ys h
    cases ys with
    | nil => simp [chkOpds] at h
    | cons y ys =>
      simp only [chkOpds, Bool.and_eq_true] at h
      obtain ⟨a, b⟩ := ih ys h.2
      refine ⟨by simp at a; simp [a], fun i v p c d => ?_⟩
      cases i with
      | zero => simp at c d; subst c d; exact hρ _ _ h.1
      | succ i => simp only [List.map_cons, List.getElem?_cons_succ] at c d; exact b i v p c d

theorem chkOpdO_R {ρ : Operand → Value} {e : Env} (hρ : OpdR g κ ρ e) {x : Option Operand} {y : Option Opd} (h : chkOpdO g x y = true) : OptR g κ (x.map ρ) (y.map (·.ev e)) := by
  cases x <;> cases y <;> simp [chkOpdO] at h
  · trivial
  · exact hρ _ _ h

theorem chkPartsL_R {ρ : Operand → Value} {e : Env} (hρ : OpdR g κ ρ e) : ∀ (xs : List (Nat × Operand)) (ys : List (Nat × Opd)), chkPartsL g xs ys = true → PartsV g κ (xs.map fun q => (q.1, ρ q.2)) (ys.map fun q => (q.1, q.2.ev e)) := by
  intro xs
  induction xs with
  | nil => intro ys h; cases ys with
    | nil => trivial
    | cons => simp [chkPartsL] at h
  | cons x xs ih =>
    intro ys h
    cases ys with
    | nil => simp [chkPartsL] at h
    | cons y ys =>
      simp only [chkPartsL, Bool.and_eq_true, decide_eq_true_eq] at h
      exact ⟨h.1.1, hρ _ _ h.1.2, ih ys h.2⟩

theorem chkPartsS_R {fs : Array Field} {ρ : Operand → Value} {e : Env} (hρ : OpdR g κ ρ e) : ∀ (xs : List (Nat × Operand)) (ys : List (Nat × Nat × Opd)), chkPartsS P g fs xs ys = true →
    PartsR g κ (fun (i : Nat) => (fs[i]?).bind fun (f : Field) => (sizeT P f.type).map fun n => (f.offset, n)) (xs.map fun q => (q.1, ρ q.2)) (ys.map fun q => (q.1, q.2.1, q.2.2.ev e)) := by
  intro xs
  induction xs with
  | nil => intro ys h; cases ys with
    | nil => trivial
    | cons => simp [chkPartsS] at h
  | cons x xs ih =>
    intro ys h
    cases ys with
    | nil => simp [chkPartsS] at h
    | cons y ys =>
      simp only [chkPartsS, Bool.and_eq_true] at h
      obtain ⟨⟨h1, h2⟩, h3⟩ := h
      refine ⟨?_, hρ _ _ h2, ih ys h3⟩
      split at h1
      · rename_i f hf
        simp only [Bool.and_eq_true, decide_eq_true_eq] at h1
        simp [hf, h1.2, h1.1]
      · cases h1

theorem chkPartsA_R {n : Nat} {ρ : Operand → Value} {e : Env} (hρ : OpdR g κ ρ e) : ∀ (xs : List (Nat × Operand)) (ys : List (Nat × Nat × Opd)), chkPartsA g n xs ys = true →
    PartsR g κ (fun i => some (i * n, n)) (xs.map fun q => (q.1, ρ q.2)) (ys.map fun q => (q.1, q.2.1, q.2.2.ev e)) := by
  intro xs
  induction xs with
  | nil => intro ys h; cases ys with
    | nil => trivial
    | cons => simp [chkPartsA] at h
  | cons x xs ih =>
    intro ys h
    cases ys with
    | nil => simp [chkPartsA] at h
    | cons y ys =>
      simp only [chkPartsA, Bool.and_eq_true, decide_eq_true_eq] at h
      exact ⟨by rw [h.1.1.1, h.1.1.2], hρ _ _ h.1.2, ih ys h.2⟩

def OpGood (P : Program) (g : GMap) (base : Nat) (κ : K) (w : World) (r : Result Next) (v : PV) (st' : St) : Prop :=
  ∃ z w', (r = .ok (.value z) w' ∨ (r = .ok .skip w' ∧ z = undef)) ∧ Good P g base κ w z w' v st'

theorem OpGood.val {s : Sem Value} {v : PV} {st' : St} (h : ∃ z w', s.run P w = .ok z w' ∧ Good P g base κ w z w' v st') : OpGood P g base κ w ((do pure (.value (← s)) : Sem Next).run P w) v st' := by
  obtain ⟨z, w', h1, h2⟩ := h
  exact ⟨z, w', .inl (by simp [h1]), h2⟩

theorem OpGood.pure (hsr : SR P g base κ w st) {s : Sem Value} {v : PV} (h : ∃ z, s.run P w = .ok z w ∧ R g κ z v) : OpGood P g base κ w ((do pure (.value (← s)) : Sem Next).run P w) v st :=
  let ⟨z, h1, h2⟩ := h
  OpGood.val ⟨z, w, h1, Good.same hsr h2⟩

theorem builtin_sim (hsr : SR P g base κ w st) {ρ : Operand → Value} {e : Env} (hρ : OpdR g κ ρ e) {b : Builtin} {args : Array Operand} {ats : Array TypeId} {ty : TypeId} {cs : Array Bool} {a : AOp} {cv : PV → List PV → St → Option (PV × St)} {v : PV} {st' : St}
    (hc : chkBuiltin P g b args.toList ats a = true) (h : evOp cv a e st = some (v, st')) : OpGood P g base κ w ((builtin b ats ty cs (args.map ρ)).run P w) v st' := by
  obtain ⟨args⟩ := args
  unfold chkBuiltin at hc
  split at hc
  · rename_i hargs
    simp only at hargs; subst hargs
    simp only [Bool.and_eq_true] at hc
    obtain ⟨h1, h2⟩ := hc
    split at h2
    · rename_i t ht
      simp only [evOp, Option.map_eq_some_iff] at h
      obtain ⟨r, hr, h⟩ := h
      cases h
      have hls := len_sim (P := P) (w := w) (ty := ty) ht h2 (hρ _ _ h1) hr
      exact OpGood.pure hsr (by simpa using hls)
    · cases h2
  · rename_i u8 esz s' x' hargs
    simp only at hargs; subst hargs
    simp only [Bool.and_eq_true] at hc
    obtain ⟨⟨h1, h2⟩, h3⟩ := hc
    split at h3
    · rename_i t xt ht hxt
      split at h3
      · rename_i el hel
        simp only [Bool.and_eq_true, decide_eq_true_eq] at h3
        obtain ⟨⟨⟨⟨⟨⟨a1, a2⟩, a3⟩, a4⟩, a5⟩, a6⟩, a7⟩ := h3
        obtain ⟨dx, hdx⟩ := Option.isSome_iff_exists.1 a5
        split at a6
        · rename_i zero hz
          simp only [Bool.and_eq_true, decide_eq_true_eq] at a6
          have hT : AppT P t xt el esz zero := by
            refine ⟨sliceElem_eq hel, ⟨dx, hdx, ?_⟩, a1, a2, ?_, hz, a6.1⟩
            · rintro k rfl
              simp [intT, hdx] at a4
            · unfold bytesT at a3
              cases hi : P.info? el with
              | none => simp [hi] at a3
              | some i => simp [hi] at a3; exact ⟨i, rfl, a3.1, a3.2⟩
          have hats : ∀ args : Array Value, (Builtin.append_ ats ty args).run P w = (Builtin.append_ #[t, xt] ty args).run P w := fun args => by
            unfold Builtin.append_
            rw [ht, hxt]; rfl
          refine OpGood.val ?_
          simp only [List.map_toArray, List.map_cons, List.map_nil]
          cases u8 with
          | true =>
            simp only [if_true, Bool.and_eq_true, decide_eq_true_eq] at a7
            obtain ⟨⟨a8, rfl⟩, a9⟩ := a7
            simp only [evOp, if_true] at h
            obtain ⟨z, w', b1, b2⟩ := app8_sim (ty := ty) hsr hT a9 (hρ _ _ h1) (hρ _ _ h2) h
            exact ⟨z, w', by rw [hats]; exact b1, b2⟩
          | false =>
            simp only [evOp, Bool.false_eq_true, if_false] at h
            obtain ⟨z, w', b1, b2⟩ := appV_sim (ty := ty) hsr hT (hρ _ _ h1) (hρ _ _ h2) h
            exact ⟨z, w', by rw [hats]; exact b1, b2⟩
        · cases a6
      · cases h3
    · cases h3
  · rename_i s' x' hargs
    simp only at hargs; subst hargs
    simp only [Bool.and_eq_true] at hc
    obtain ⟨⟨h1, h2⟩, h3⟩ := hc
    split at h3
    · rename_i t ht
      split at h3
      · rename_i el hel
        simp only [decide_eq_true_eq] at h3
        simp only [evOp] at h
        obtain ⟨z, w', b1, b2⟩ := copy_sim (ty := ty) hsr ht hel h3 (hρ _ _ h1) (hρ _ _ h2) h
        exact OpGood.val ⟨z, w', by simpa using b1, b2⟩
      · cases h3
    · cases h3
  · rename_i zz y hargs
    simp only at hargs; subst hargs
    simp only [Bool.and_eq_true] at hc
    obtain ⟨h1, h3⟩ := hc
    split at h3
    · rename_i t ht
      split at h3
      · rename_i el hel
        simp only [Bool.and_eq_true, decide_eq_true_eq] at h3
        obtain ⟨⟨h4, h5⟩, h6⟩ := h3
        split at h6
        · rename_i zv hzv
          simp only [evOp] at h
          obtain ⟨z, w', b1, b2⟩ := clr_sim (ty := ty) hsr ht hel h4 h5 hzv h6 (hρ _ _ h1) h
          exact OpGood.val ⟨z, w', by simpa using b1, b2⟩
        · cases h6
      · cases h3
    · cases h3
  · rename_i ys
    simp only [evOp, Option.map_eq_some_iff] at h
    obtain ⟨r, hr, h⟩ := h
    cases h
    obtain ⟨c1, c2⟩ := chkOpds_R hρ _ _ hc
    obtain ⟨z, d1, d2⟩ := mnmx_sim (P := P) (w := w) (mx := true) (ats := ats) (ty := ty) (vs := (args.map ρ).toArray) (by simpa using c1) (fun i v p a b => c2 i v p (by simpa using a) b) hr
    exact OpGood.pure hsr ⟨z, by simpa using d1, d2⟩
  · rename_i ys
    simp only [evOp, Option.map_eq_some_iff] at h
    obtain ⟨r, hr, h⟩ := h
    cases h
    obtain ⟨c1, c2⟩ := chkOpds_R hρ _ _ hc
    obtain ⟨z, d1, d2⟩ := mnmx_sim (P := P) (w := w) (mx := false) (ats := ats) (ty := ty) (vs := (args.map ρ).toArray) (by simpa using c1) (fun i v p a b => c2 i v p (by simpa using a) b) hr
    exact OpGood.pure hsr ⟨z, by simpa using d1, d2⟩
  · cases hc

def isCall : AOp → Bool
  | .call _ _ => true
  | .callk _ _ => true
  | .callp _ _ => true
  | _ => false

theorem b2s_src {mu : Bool} {st : St} {p : PV} {l : List UInt8} (h : b2s mu st p = some l) : src8 st p = some l ∧ ∀ s, p ≠ .str s := by
  unfold b2s at h
  split at h
  · exact ⟨by rw [← h]; rfl, fun s => by simp⟩
  · exact ⟨by rw [← h]; rfl, fun s => by simp⟩
  · split at h
    · exact ⟨h, fun s => by simp⟩
    · cases h
  · cases h


theorem op_sim (hsr : SR P g base κ w st) {ρ : Operand → Value} {e : Env} (hρ : OpdR g κ ρ e) {o : Oper} {a : AOp} {cv : PV → List PV → St → Option (PV × St)} {v : PV} {st' : St}
    (hc : chkOp P g o.op a = true) (hnc : isCall a = false) (h : evOp cv a e st = some (v, st')) : OpGood P g base κ w ((execOp ρ o).run P w) v st' := by
  unfold chkOp at hc
  split at hc
  -- move, assign
  · rename_i x y ho
    simp only [evOp, Option.some.injEq, Prod.mk.injEq] at h
    obtain ⟨rfl, rfl⟩ := h
    exact ⟨_, w, .inl (by simp only [execOp, ho]; rfl), Good.same hsr (hρ _ _ hc)⟩
  · rename_i x y ho
    simp only [evOp, Option.some.injEq, Prod.mk.injEq] at h
    obtain ⟨rfl, rfl⟩ := h
    exact ⟨_, w, .inl (by simp only [execOp, ho]; rfl), Good.same hsr (hρ _ _ hc)⟩
  · rename_i x esz y ho
    simp only [Bool.and_eq_true, decide_eq_true_eq] at hc
    simp only [evOp] at h
    exact ⟨_, w, .inl (by simp only [execOp, ho]; rfl), frzr_sim hsr (hρ _ _ hc.1) h⟩
  · rename_i x esz y ho
    simp only [Bool.and_eq_true, decide_eq_true_eq] at hc
    simp only [evOp] at h
    exact ⟨_, w, .inl (by simp only [execOp, ho]; rfl), frzr_sim hsr (hρ _ _ hc.1) h⟩
  -- pick
  · rename_i c x y c' x' y' ho
    simp only [Bool.and_eq_true] at hc
    simp only [evOp] at h
    split at h
    · rename_i t ht
      have hb := hρ _ _ hc.1.1
      rw [ht] at hb
      cases h
      refine ⟨if t then ρ x else ρ y, w, .inl ?_, Good.same hsr (by cases t with | true => exact hρ _ _ hc.1.2 | false => exact hρ _ _ hc.2)⟩
      simp only [execOp, ho]
      generalize ρ c = vc at hb
      cases hb
      simp only [Sem.run_bind, asBool, Sem.run_pure, Result.andThen_ok]
    · cases h
  -- alloc
  · rename_i t z ho
    split at hc
    · rename_i zv hz
      simp only [evOp, Option.some.injEq] at h
      obtain ⟨u, w', h1, h2⟩ := alloc_sim hsr hz hc
      rw [h] at h2
      simp only [execOp, ho]
      exact OpGood.val ⟨u, w', h1, h2⟩
    · cases hc
  -- box
  · rename_i t x y ho
    simp only [evOp] at h
    split at h
    · rename_i hb
      simp only [Option.some.injEq] at h
      obtain ⟨u, w', h1, h2⟩ := box_sim (t := t) hsr (hρ _ _ hc) hb.1 hb.2
      rw [h] at h2
      simp only [execOp, ho]
      exact OpGood.val ⟨u, w', h1, h2⟩
    · cases h
  -- boxc
  · rename_i t x y ho
    simp only [evOp, Option.map_eq_some_iff] at h
    obtain ⟨r, ⟨u, hu, rfl⟩, h⟩ := h
    cases h
    obtain ⟨z, w', h1, h2⟩ := boxc_sim (t := t) hsr (hρ _ _ hc) hu
    simp only [execOp, ho]
    exact OpGood.val ⟨z, w', h1, h2⟩
  -- build
  · rename_i t parts z ps ho
    simp only [Bool.and_eq_true] at hc
    obtain ⟨hz, hp⟩ := hc
    split at hz
    · rename_i zv hzv
      simp only [evOp, Option.map_eq_some_iff] at h
      obtain ⟨r, ⟨cells, hr, rfl⟩, h⟩ := h
      cases h
      simp only [execOp, ho]
      split at hp
      · rename_i fs hu
        simp only [Bool.and_eq_true] at hp
        obtain ⟨u, h1, h2⟩ := build_struct (P := P) (w := w) (parts := parts.map fun (i, x) => (i, ρ x)) hzv hu hp.1 hz (by
          have := chkPartsS_R (P := P) (fs := fs) hρ _ _ hp.2
          simpa using this) hr
        exact OpGood.pure hsr ⟨u, h1, h2⟩
      · rename_i n el hu
        split at hp
        · rename_i n' hn
          obtain ⟨u, h1, h2⟩ := build_array (P := P) (w := w) (parts := parts.map fun (i, x) => (i, ρ x)) hzv hu hn hz (by
            have := chkPartsA_R (n := n') hρ _ _ hp
            simpa using this) hr
          exact OpGood.pure hsr ⟨u, h1, h2⟩
        · cases hp
      · cases hp
    · cases hz
  -- lit8
  · rename_i t len parts len' ps ho
    simp only [Bool.and_eq_true, decide_eq_true_eq] at hc
    obtain ⟨⟨⟨rfl, h1⟩, h2⟩, h3⟩ := hc
    simp only [evOp] at h
    split at h
    · rename_i l hl
      simp only [Option.some.injEq] at h
      split at h2
      · rename_i el hel
        simp only [Bool.and_eq_true, decide_eq_true_eq] at h2
        obtain ⟨⟨⟨h4, h5⟩, h6⟩, h7⟩ := h2
        split at h6
        · rename_i zv hz
          simp only [execOp, ho]
          obtain ⟨u, w', a1, a2⟩ := lit8_sim hsr (parts := parts.map fun (i, x) => (i, ρ x)) hel h5 h1 hz h6 (by
            have := chkPartsL_R hρ _ _ h3
            simpa using this) hl h7
          cases h
          exact OpGood.val ⟨u, w', a1, a2⟩
        · cases h6
      · cases h2
    · cases h
  -- lit8c
  · rename_i t len parts len' ps ho
    simp only [Bool.and_eq_true, decide_eq_true_eq] at hc
    obtain ⟨⟨⟨rfl, h1⟩, h2⟩, h3⟩ := hc
    simp only [evOp, Option.map_eq_some_iff] at h
    obtain ⟨r, ⟨l, hl, rfl⟩, h⟩ := h
    · split at h2
      · rename_i el hel
        simp only [Bool.and_eq_true, decide_eq_true_eq] at h2
        obtain ⟨⟨⟨h4, h5⟩, h6⟩, h7⟩ := h2
        split at h6
        · rename_i zv hz
          simp only [execOp, ho]
          obtain ⟨u, w', a1, a2⟩ := lit8c_sim hsr (parts := parts.map fun (i, x) => (i, ρ x)) hel h5 h1 hz h6 (by
            have := chkPartsL_R hρ _ _ h3
            simpa using this) hl h7
          cases h
          exact OpGood.val ⟨u, w', a1, a2⟩
        · cases h6
      · cases h2
  -- lit
  · rename_i t len parts esz z len' ps ho
    simp only [Bool.and_eq_true, decide_eq_true_eq] at hc
    obtain ⟨⟨rfl, h2⟩, h3⟩ := hc
    simp only [evOp] at h
    split at h
    · rename_i l hl
      split at h2
      · rename_i el hel
        simp only [Bool.and_eq_true, decide_eq_true_eq] at h2
        obtain ⟨⟨⟨⟨⟨h4, h5⟩, h6⟩, h7⟩, h8⟩, h9⟩ := h2
        split at h9
        · rename_i zv hz
          simp only [Bool.and_eq_true] at h9
          simp only [execOp, ho]
          obtain ⟨u, w', a1, a2⟩ := lit_sim hsr (parts := parts.map fun (i, x) => (i, ρ x)) hel h5 h6 h7 h8 hz h9.1 h9.2 (by
            have := chkPartsL_R hρ _ _ h3
            simpa using this) hl
          cases h
          exact OpGood.val ⟨u, w', a1, a2⟩
        · cases h9
      · cases h2
    · cases h
  -- litc
  · rename_i t len parts esz z len' ps ho
    simp only [Bool.and_eq_true, decide_eq_true_eq] at hc
    obtain ⟨⟨rfl, h2⟩, h3⟩ := hc
    simp only [evOp, Option.map_eq_some_iff] at h
    obtain ⟨r, ⟨l, hl, rfl⟩, h⟩ := h
    split at h2
    · rename_i el hel
      simp only [Bool.and_eq_true, decide_eq_true_eq] at h2
      obtain ⟨⟨⟨⟨⟨h4, h5⟩, h6⟩, h7⟩, h8⟩, h9⟩ := h2
      split at h9
      · rename_i zv hz
        simp only [Bool.and_eq_true] at h9
        simp only [execOp, ho]
        obtain ⟨u, w', a1, a2⟩ := litc_sim hsr (parts := parts.map fun (i, x) => (i, ρ x)) hel h5 h6 h7 h8 hz h9.1 h9.2 (by
          have := chkPartsL_R hρ _ _ h3
          simpa using this) hl
        cases h
        exact OpGood.val ⟨u, w', a1, a2⟩
      · cases h9
    · cases h2
  -- makeMap
  · rename_i t ho
    simp only [evOp, Option.some.injEq, Prod.mk.injEq] at h
    obtain ⟨rfl, rfl⟩ := h
    simp only [execOp, ho, Option.map_none]
    exact OpGood.val (mkmap_sim hsr t)
  -- lookup
  · rename_i t x k x' k' ho
    simp only [Bool.and_eq_true] at hc
    obtain ⟨⟨h1, h2⟩, h3⟩ := hc
    simp only [evOp, Option.map_eq_some_iff] at h
    obtain ⟨r, hr, h⟩ := h
    cases h
    simp only [execOp, ho]
    exact OpGood.pure hsr (mget_sim hsr h3 (hρ _ _ h1) (hρ _ _ h2) hr)
  -- mapUpdate
  · rename_i t x k y x' k' y' ho
    simp only [Bool.and_eq_true] at hc
    obtain ⟨⟨⟨h1, h2⟩, h3⟩, h4⟩ := hc
    simp only [evOp] at h
    obtain ⟨rfl, w', a1, a2⟩ := mput_sim hsr h4 (hρ _ _ h1) (hρ _ _ h2) (hρ _ _ h3) h
    exact ⟨undef, w', .inr ⟨by simp [execOp, ho, a1], rfl⟩, a2⟩
  -- load
  · rename_i t x ag sz y ho
    simp only [Bool.and_eq_true, decide_eq_true_eq, Bool.or_eq_true, Bool.not_eq_true'] at hc
    obtain ⟨⟨h1, h2⟩, h3⟩ := hc
    simp only [evOp, Option.map_eq_some_iff] at h
    obtain ⟨r, hr, h⟩ := h
    cases h
    simp only [execOp, ho]
    exact OpGood.pure hsr (load_sim hsr h2 (fun ha => by rcases h3 with h3 | h3 <;> simp_all) (hρ _ _ h1) hr)
  -- loadc
  · rename_i t x ag sz y ho
    simp only [Bool.and_eq_true, decide_eq_true_eq, Bool.or_eq_true, Bool.not_eq_true'] at hc
    obtain ⟨⟨h1, h2⟩, h3⟩ := hc
    simp only [evOp, Option.map_eq_some_iff] at h
    obtain ⟨r, hr, h⟩ := h
    cases h
    simp only [execOp, ho]
    exact OpGood.pure hsr (load_sim hsr h2 (fun ha => by rcases h3 with h3 | h3 <;> simp_all) (hρ _ _ h1) (loadc_load hr))
  -- store
  · rename_i t x y sz x' y' ho
    simp only [Bool.and_eq_true, decide_eq_true_eq] at hc
    obtain ⟨⟨h1, h2⟩, h3⟩ := hc
    simp only [evOp, Option.map_eq_some_iff] at h
    obtain ⟨st2, hr, h⟩ := h
    cases h
    obtain ⟨w', a1, a2⟩ := store_sim hsr h3 (hρ _ _ h1) (hρ _ _ h2) hr
    exact ⟨undef, w', .inr ⟨by simp [execOp, ho, a1], rfl⟩, a2⟩
  -- storek
  · rename_i t x y sz x' y' ho
    simp only [Bool.and_eq_true, decide_eq_true_eq] at hc
    obtain ⟨⟨h1, h2⟩, h3⟩ := hc
    simp only [evOp] at h
    obtain ⟨h, _⟩ := keepB_some h
    simp only [Option.map_eq_some_iff] at h
    obtain ⟨st2, hr, h⟩ := h
    cases h
    obtain ⟨w', a1, a2⟩ := store_sim hsr h3 (hρ _ _ h1) (hρ _ _ h2) hr
    exact ⟨undef, w', .inr ⟨by simp [execOp, ho, a1], rfl⟩, a2⟩
  -- nilCheck
  · rename_i x y ho
    simp only [evOp, Option.map_eq_some_iff] at h
    obtain ⟨r, hr, h⟩ := h
    cases h
    obtain ⟨a1, a2⟩ := nilck_sim (P := P) (w := w) ho rfl (hρ _ _ hc) hr
    exact ⟨_, w, .inl a1, Good.same hsr a2⟩
  -- binOp
  · rename_i op t x y yt op' ek x' y' ho
    simp only [Bool.and_eq_true, decide_eq_true_eq] at hc
    obtain ⟨⟨⟨rfl, h1⟩, h2⟩, h3⟩ := hc
    simp only [evOp, Option.map_eq_some_iff] at h
    obtain ⟨r, hr, h⟩ := h
    cases h
    have hg := eqGuard_sim (P := P) (w := w) (t := t) (x := x) (y := y) h3 (hρ _ _ h1) (hρ _ _ h2) hr
    obtain ⟨z, b1, b2⟩ := binPV_sim (P := P) (w := w) h3 (hρ _ _ h1) (hρ _ _ h2) hr
    simp only [execOp, ho]
    exact OpGood.pure hsr ⟨z, by simp only [Sem.run_bind, hg, Result.andThen_ok]; exact b1, b2⟩
  -- unOp
  · rename_i op t x op' y ho
    simp only [Bool.and_eq_true, decide_eq_true_eq] at hc
    obtain ⟨rfl, h1⟩ := hc
    simp only [evOp, Option.map_eq_some_iff] at h
    obtain ⟨r, hr, h⟩ := h
    cases h
    simp only [execOp, ho]
    exact OpGood.pure hsr (unPV_sim (hρ _ _ h1) hr)
  -- conversions
  · rename_i s d x k y ho
    simp only [Bool.and_eq_true, decide_eq_true_eq] at hc
    simp only [evOp, Option.map_eq_some_iff] at h
    obtain ⟨r, hr, h⟩ := h
    cases h
    simp only [execOp, ho]
    exact OpGood.pure hsr (cInt_sim hc.1.2 hc.2 (hρ _ _ hc.1.1) hr)
  · rename_i s d x mu y ho
    simp only [Bool.and_eq_true] at hc
    obtain ⟨⟨h1, h2⟩, h3⟩ := hc
    split at h3
    · rename_i el hel
      simp only [Bool.and_eq_true, decide_eq_true_eq] at h3
      simp only [evOp] at h
      split at h
      · rename_i l hl
        have hx := hρ _ _ h1
        rw [hl] at hx
        obtain ⟨u, w', a1, a2⟩ := cS2B_sim (mu := mu) hsr h2 hel h3.1 h3.2 hx
        simp only [execOp, ho]
        refine OpGood.val ⟨u, w', a1, ?_⟩
        cases mu <;> simp at h <;> obtain ⟨rfl, rfl⟩ := h <;> exact a2
      · cases h
    · cases h3
  · rename_i s d x y ho
    simp only [Bool.and_eq_true] at hc
    obtain ⟨⟨h1, h2⟩, h3⟩ := hc
    split at h3
    · rename_i el hel
      simp only [evOp, Option.map_eq_some_iff] at h
      obtain ⟨r, ⟨l, hl, rfl⟩, h⟩ := h
      cases h
      simp only [execOp, ho]
      have hx := hρ _ _ h1
      generalize y.ev e = p at hl hx
      refine OpGood.pure hsr ?_
      obtain ⟨hl1, hl2⟩ := b2s_src hl
      exact cB2S_sim hsr hel h3 h2 hx hl1 hl2
    · cases h3
  · rename_i s d x y ho
    simp only [Bool.and_eq_true] at hc
    obtain ⟨⟨h1, h2⟩, h3⟩ := hc
    simp only [evOp] at h
    split at h
    · rename_i l hl
      cases h
      have hx := hρ _ _ h1
      rw [hl] at hx
      simp only [execOp, ho]
      exact OpGood.pure hsr ⟨ρ x, cStr_sim h2 h3 hx, hx⟩
    · cases h
  · rename_i s d x y ho
    simp only [Bool.and_eq_true, decide_eq_true_eq] at hc
    obtain ⟨⟨h1, rfl⟩, h3⟩ := hc
    split at h3
    · rename_i el hel
      simp only [evOp] at h
      split at h
      · rename_i i l hl
        split at h
        · rename_i hi
          cases h
          have hx := hρ _ _ h1
          rw [hl] at hx
          obtain ⟨w', a1, a2⟩ := cSame_sim hsr hel h3 hx hi
          simp only [execOp, ho]
          exact OpGood.val ⟨_, w', a1, a2⟩
        · cases h
      · cases h
    · cases h3
  -- makeFunc
  · rename_i f first caps f' cs ho
    simp only [Bool.and_eq_true, decide_eq_true_eq] at hc
    obtain ⟨⟨h1, h2⟩, h3⟩ := hc
    simp only [evOp] at h
    split at h
    case isFalse => cases h
    rename_i hk
    simp only [Option.some.injEq, Prod.mk.injEq] at h
    obtain ⟨rfl, rfl⟩ := h
    obtain ⟨c1, c2⟩ := chkOpds_R hρ _ _ h3
    simp only [execOp, ho]
    refine OpGood.pure hsr (mkfn_sim h1 (by apply Array.eq_empty_of_size_eq_zero; simpa using h2) hk (by simpa using c1) (fun i v p a b => c2 i v p (by simpa using a) b))
  -- makeSlice
  · rename_i t l c mu l' c' ho
    simp only [Bool.and_eq_true] at hc
    obtain ⟨⟨h1, h2⟩, h3⟩ := hc
    split at h3
    · rename_i el hel
      simp only [Bool.and_eq_true, decide_eq_true_eq] at h3
      obtain ⟨⟨⟨⟨h4, h5⟩, h6⟩, h7⟩, h8⟩ := h3
      split at h6
      · rename_i b hb
        simp only [Bool.and_eq_true, decide_eq_true_eq] at h6
        split at h7
        · rename_i zv hz
          simp only [evOp] at h
          split at h
          · rename_i k l0 k' c0 hl0 hc0
            split at h
            · rename_i hbd
              have hx1 := hρ _ _ h1
              have hx2 := hρ _ _ h2
              rw [hl0] at hx1
              rw [hc0] at hx2
              obtain ⟨u, w', a1, a2⟩ := mk8_sim (mu := mu) hsr hel h5 hb h6.2 hz h7 h8 hx1 hx2 hbd.1 hbd.2.1 hbd.2.2
              simp only [execOp, ho]
              refine OpGood.val ⟨u, w', a1, ?_⟩
              cases mu <;> simp at h <;> obtain ⟨rfl, rfl⟩ := h <;> exact a2
            · cases h
          · cases h
        · cases h7
      · cases h6
    · cases h3
  · rename_i t l c z l' c' ho
    simp only [Bool.and_eq_true] at hc
    obtain ⟨⟨h1, h2⟩, h3⟩ := hc
    split at h3
    · rename_i el hel
      simp only [Bool.and_eq_true, decide_eq_true_eq] at h3
      obtain ⟨⟨⟨h4, h5⟩, h6⟩, h7⟩ := h3
      split at h6
      · rename_i b hb
        simp only [Bool.and_eq_true, decide_eq_true_eq] at h6
        split at h7
        · rename_i zv hz
          simp only [evOp] at h
          split at h
          · rename_i k l0 k' c0 hl0 hc0
            split at h
            · rename_i hbd
              have hx1 := hρ _ _ h1
              have hx2 := hρ _ _ h2
              rw [hl0] at hx1
              rw [hc0] at hx2
              obtain ⟨u, w', a1, a2⟩ := mkms_sim hsr hel h4 h5 hb h6.2 hz h7 hx1 hx2 hbd.1 hbd.2.1 hbd.2.2
              simp only [execOp, ho]
              cases h
              exact OpGood.val ⟨u, w', a1, a2⟩
            · cases h
          · cases h
        · cases h7
      · cases h6
    · cases h3
  -- slice
  · rename_i t x lo hi mx esz x' lo' hi' mx' ho
    simp only [Bool.and_eq_true, Bool.or_eq_true, Bool.not_eq_true'] at hc
    obtain ⟨⟨⟨⟨⟨h1, h2⟩, h3⟩, h4⟩, h5⟩, h6⟩ := hc
    simp only [evOp, Option.map_eq_some_iff] at h
    obtain ⟨r, hr, h⟩ := h
    cases h
    simp only [execOp, ho]
    have r4 := chkOpdO_R hρ h4
    have r3 := chkOpdO_R hρ h3
    have hsl := slc_sim (P := P) (w := w) h6 (hρ _ _ h1) (chkOpdO_R hρ h2) r3 r4 (by
      intro hs
      rcases h5 with h5 | h5
      · cases mx <;> cases mx' <;> simp_all [chkOpdO]
      · cases hi <;> cases hi' <;> simp_all [chkOpdO]) hr
    obtain ⟨z, b1, b2⟩ := hsl
    refine OpGood.pure hsr ⟨z, ?_, b2⟩
    have hu : ∃ d, P.underlying t = some d ∧ (∀ n el, d ≠ .array n el) := by
      split at h6
      · exact ⟨_, isStrT_eq h6, by simp⟩
      · split at h6
        · rename_i el hel; exact ⟨_, sliceElem_eq hel, by simp⟩
        · cases h6
    obtain ⟨d, hd, hda⟩ := hu
    simp only [Instr.sliceAt, Sem.run_bind, run_underlying hd, Result.andThen_ok]
    first
    | exact b1
    | (split
       · exact absurd rfl (hda _ _)
       · exact b1)
  -- a front
  · rename_i t x hi x' hi' ho
    simp only [Bool.and_eq_true] at hc
    obtain ⟨⟨h1, h2⟩, h3⟩ := hc
    simp only [evOp, Option.map_eq_some_iff] at h
    obtain ⟨r, hr, h⟩ := h
    cases h
    simp only [execOp, ho]
    split at h3
    · rename_i el hel
      simp only [decide_eq_true_eq] at h3
      exact OpGood.pure hsr (slcT_sim (P := P) (w := w) hel h3 (hρ _ _ h1) (hρ _ _ h2) hr)
    · cases h3
  -- slice of an array
  · rename_i t x lo hi mx len esz x' lo' hi' mx' ho
    simp only [Bool.and_eq_true, Bool.or_eq_true, Bool.not_eq_true'] at hc
    obtain ⟨⟨⟨⟨⟨h1, h2⟩, h3⟩, h4⟩, h5⟩, h6⟩ := hc
    simp only [evOp, Option.map_eq_some_iff] at h
    obtain ⟨r, hr, h⟩ := h
    cases h
    simp only [execOp, ho]
    have r4 := chkOpdO_R hρ h4
    have r3 := chkOpdO_R hρ h3
    split at h6
    · rename_i n el hel
      simp only [Bool.and_eq_true, decide_eq_true_eq] at h6
      obtain ⟨rfl, h7⟩ := h6
      exact OpGood.pure hsr (slcA_sim (P := P) (w := w) hel h7 (hρ _ _ h1) (chkOpdO_R hρ h2) r3 r4 (by
        intro hs
        rcases h5 with h5 | h5
        · cases mx <;> cases mx' <;> simp_all [chkOpdO]
        · cases hi <;> cases hi' <;> simp_all [chkOpdO]) hr)
    · cases h6
  -- fieldAddr
  · rename_i s x f off y ho
    simp only [Bool.and_eq_true] at hc
    obtain ⟨h1, h2⟩ := hc
    split at h2
    · rename_i fs hfs
      split at h2
      · rename_i fd hfd
        simp only [Bool.and_eq_true, decide_eq_true_eq] at h2
        obtain ⟨h3, h4⟩ := h2
        split at h4
        · rename_i n hn
          simp only [decide_eq_true_eq] at h4
          simp only [evOp, Option.map_eq_some_iff] at h
          obtain ⟨r, hr, h⟩ := h
          cases h
          simp only [execOp, ho]
          exact OpGood.pure hsr (faddr_sim hsr hfs hfd h3 hn h4 (hρ _ _ h1) hr)
        · cases h4
      · cases h2
    · cases h2
  -- field
  · rename_i s x f ag off sz y ho
    simp only [Bool.and_eq_true] at hc
    obtain ⟨h1, h2⟩ := hc
    split at h2
    · rename_i fs hfs
      split at h2
      · rename_i fd hfd
        simp only [Bool.and_eq_true, decide_eq_true_eq, Bool.or_eq_true, Bool.not_eq_true'] at h2
        obtain ⟨⟨h3, h4⟩, h5⟩ := h2
        simp only [evOp, Option.map_eq_some_iff] at h
        obtain ⟨r, hr, h⟩ := h
        cases h
        simp only [execOp, ho]
        exact OpGood.pure hsr (fld_sim hfs hfd h3 h4 (fun ha => by rcases h5 with h5 | h5 <;> simp_all) (hρ _ _ h1) hr)
      · cases h2
    · cases h2
  -- indexAddr
  · rename_i t x i esz y j ho
    simp only [Bool.and_eq_true] at hc
    obtain ⟨⟨h1, h2⟩, h3⟩ := hc
    split at h3
    · rename_i el hel
      simp only [decide_eq_true_eq] at h3
      simp only [evOp, Option.map_eq_some_iff] at h
      obtain ⟨r, hr, h⟩ := h
      cases h
      simp only [execOp, ho]
      exact OpGood.pure hsr (iaddr_sim hsr hel h3 (hρ _ _ h1) (hρ _ _ h2) hr)
    · cases h3
  · rename_i t x i len esz y j ho
    simp only [Bool.and_eq_true] at hc
    obtain ⟨⟨h1, h2⟩, h3⟩ := hc
    split at h3
    · rename_i n el hel
      simp only [Bool.and_eq_true, decide_eq_true_eq] at h3
      obtain ⟨rfl, h4⟩ := h3
      simp only [evOp, Option.map_eq_some_iff] at h
      obtain ⟨r, hr, h⟩ := h
      cases h
      simp only [execOp, ho]
      exact OpGood.pure hsr (iaddrA_sim hel h4 (hρ _ _ h1) (hρ _ _ h2) hr)
    · cases h3
  -- index
  · rename_i t x i len ag esz y j ho
    simp only [Bool.and_eq_true] at hc
    obtain ⟨⟨h1, h2⟩, h3⟩ := hc
    split at h3
    · rename_i n el hel
      simp only [Bool.and_eq_true, decide_eq_true_eq] at h3
      obtain ⟨⟨rfl, h4⟩, h5⟩ := h3
      simp only [evOp, Option.map_eq_some_iff] at h
      obtain ⟨r, hr, h⟩ := h
      cases h
      simp only [execOp, ho]
      exact OpGood.pure hsr (idx_sim hel h4 h5 (hρ _ _ h1) (hρ _ _ h2) hr)
    · cases h3
  · rename_i t x i y j ho
    simp only [Bool.and_eq_true] at hc
    simp only [evOp, Option.map_eq_some_iff] at h
    obtain ⟨r, hr, h⟩ := h
    cases h
    simp only [execOp, ho]
    exact OpGood.pure hsr (idxS_sim hc.2 (hρ _ _ hc.1.1) (hρ _ _ hc.1.2) hr)
  -- extract
  · rename_i x k k' y ho
    simp only [Bool.and_eq_true, decide_eq_true_eq] at hc
    obtain ⟨h1, rfl⟩ := hc
    simp only [evOp, Option.map_eq_some_iff] at h
    obtain ⟨r, hr, h⟩ := h
    cases h
    simp only [execOp, ho]
    exact OpGood.pure hsr (ext_sim (hρ _ _ h1) hr)
  -- builtins
  · rename_i a0 _ c ho
    obtain ⟨callee, args, ats⟩ := c
    cases callee with
    | value f =>
      simp only at hc
      split at hc
      · simp [isCall] at hnc
      · simp [isCall] at hnc
      · simp [isCall] at hnc
      · cases hc
    | builtin b =>
      simp only [execOp, ho, resolve, Sem.run_bind, Sem.run_pure, Result.andThen_ok, invoke]
      exact builtin_sim hsr hρ hc h
    | invoke r n => simp at hc
  · cases hc

end Go.Ab
/-
  What a caller keeps of what a callee has made.
-/
namespace Go.Ab

variable {P : Program} {g : GMap} {base : Nat} {κ : K} {w : World} {st : St}

def PV.tk : PV → List Nat
  | .agg cs => toksOf cs
  | .tup vs => vs.flatMap fun v => toksOf v.cells
  | v => toksOf [v]

theorem inBAll_get {n : Nat} {ps : List PV} (h : PV.inB.inBAll n ps = true) {i : Nat} {p : PV} (hp : ps[i]? = some p) : p.inB n = true := by
  induction ps generalizing i with
  | nil => simp at hp
  | cons x xs ih =>
    simp only [PV.inB.inBAll, Bool.and_eq_true] at h
    cases i with
    | zero => simp at hp; rw [← hp]; exact h.1
    | succ i => simp at hp; exact ih h.2 hp

theorem data_toks : ∀ (cs : List PV), dataAll cs = true → toksOf cs = [] := by
  intro cs
  induction cs with
  | nil => intro _; rfl
  | cons x xs ih =>
    intro h
    simp only [dataAll, Bool.and_eq_true] at h
    have h1 : tokOf x = none := by
      cases x <;> simp_all [tokOf, PV.data]
      · rename_i t l; obtain rfl := Tok.isNo_eq h.1; rfl
      · rename_i e t l; obtain rfl := Tok.isNo_eq h.1.1; rfl
    have h2 := ih h.2
    simp only [toksOf, List.filterMap_cons, h1] at *
    exact h2

theorem capOk_tk {p : PV} (h : capOk p = true) : p.tk = [] := by
  cases p <;> simp_all [capOk, PV.tk, toksOf, tokOf, PV.data]
  · rename_i t l; obtain rfl := Tok.isNo_eq h; rfl
  · rename_i e t l; obtain rfl := Tok.isNo_eq h.1; rfl
  · rename_i cs
    have := data_toks cs h
    show ∀ a ∈ cs, tokOf a = none
    simpa [toksOf] using this

theorem leaf_tk {p : PV} (h : leafB p = true) : p.tk = toksOf [p] := by
  cases p <;> simp_all [leafB, PV.tk]

theorem R.restrict {κ κ' : K} {n : Nat} {T : Nat → Prop} (hS : ∀ (b : Nat) (t : TypeId), κ.S b = some t → κ'.S b = some t) (hC : ∀ b i v, κ.C b i = some v → κ'.C b i = some v) (hφ : ∀ (i x : Nat), i < n → κ.φ[i]? = some x → κ'.φ[i]? = some x ∧ κ'.μ i = κ.μ i)
    (hτ : ∀ (t : Nat) (x : Nat × Nat × Nat), T t → κ.τ[t]? = some x → κ'.τ[t]? = some x) {v : Value} {p : PV} (h : R g κ v p) : p.inB n = true → (∀ t ∈ p.tk, T t) → R g κ' v p := by
  have tok : ∀ {t : Tok} {blk off k c esz : Nat}, TokOK κ t blk off k c esz → (∀ i, t = .own i → T i) → TokOK κ' t blk off k c esz := fun {t _ _ _ _ _} ht hT => by
    cases t with
    | no => trivial
    | ex => exact ht
    | own i => obtain ⟨e, ce, h1, h2⟩ := ht; exact ⟨e, ce, hτ _ _ (hT i rfl) h1, h2⟩
  induction h with
  | undef => exact fun _ _ => .undef
  | bool b => exact fun _ _ => .bool b
  | b8 b n h => exact fun _ _ => .b8 b n h
  | int k n h => exact fun _ _ => .int k n h
  | str s l h => exact fun _ _ => .str s l h
  | nilp => exact fun _ _ => .nilp
  | nils => exact fun _ _ => .nils
  | nilf => exact fun _ _ => .nilf
  | nili => exact fun _ _ => .nili
  | ptr b off blk h hm => exact fun hb _ => .ptr b off blk (hφ _ _ (by simpa [PV.inB] using hb) h).1 (by rw [(hφ _ _ (by simpa [PV.inB] using hb) h).2]; exact hm)
  | mref b blk h hm => exact fun hb _ => .mref b blk (hφ _ _ (by simpa [PV.inB] using hb) h).1 (by rw [(hφ _ _ (by simpa [PV.inB] using hb) h).2]; exact hm)
  | cp blk off vs cells hl hc hr hd hlf ih => exact fun _ _ => .cp blk off vs cells hl (fun i v h => hC _ _ _ (hc i v h)) (fun i v p h1 h2 => (hr i v p h1 h2).dataMono hC (dataAll_get hd h2)) hd hlf
  | bys blk off n c t l hn hc hb ht hz => exact fun _ hT => .bys blk off n c t l hn hc (fun i b h => hC _ _ _ (hb i b h)) (tok ht fun i hi => hT i (by simp [PV.tk, toksOf, tokOf, hi])) (fun i h => ⟨(hz i h).1, hS _ _ (hz i h).2⟩)
  | sl blk off n c esz t xs vs hn hc he hl hv hr hd hlf ht ih =>
    exact fun _ hT => .sl blk off n c esz t xs vs hn hc he hl (fun i v h => hC _ _ _ (hv i v h)) (fun i v p h1 h2 => (hr i v p h1 h2).dataMono hC (dataAll_get (dataAll_flat hd) h2)) hd hlf (tok ht fun i hi => hT i (by simp [PV.tk, toksOf, tokOf, hi]))
  | sl0 a esz t ht => exact fun _ _ => .sl0 a esz t ht
  | ms b off off' n c blk h hc ho hm => exact fun hb _ => .ms b off off' n c blk (hφ _ _ (by simpa [PV.inB] using hb) h).1 hc ho (by rw [(hφ _ _ (by simpa [PV.inB] using hb) h).2]; exact hm)
  | fn f' f cv cap h hl hk hr ih =>
    intro hb _
    refine .fn f' f cv cap h hl hk (fun i v p h1 h2 => ih i v p h1 h2 (inBAll_get (by simpa [PV.inB] using hb) h2) ?_)
    rw [List.all_eq_true] at hk
    rw [capOk_tk (hk p (List.mem_of_getElem? h2))]
    simp
  | yld k l d h => exact fun hb _ => by simp [PV.inB] at hb
  | bslot => exact fun _ _ => .bslot
  | agg vs ps hl hlf hr ih =>
    intro hb hT
    refine .agg vs ps hl hlf (fun i v p h1 h2 => ih i v p h1 h2 (inBAll_get (by simpa [PV.inB] using hb) h2) (fun t ht => hT t ?_))
    rw [List.all_eq_true] at hlf
    rw [leaf_tk (hlf p (List.mem_of_getElem? h2))] at ht
    simp only [PV.tk, toksOf, List.mem_filterMap, List.mem_singleton] at *
    obtain ⟨a, rfl, ha⟩ := ht
    exact ⟨a, List.mem_of_getElem? h2, ha⟩
  | tup vs ps hl hnt hr ih =>
    intro hb hT
    refine .tup vs ps hl hnt (fun i v p h1 h2 => ?_)
    have hpb := inBAll_get (by simpa [PV.inB] using hb) h2
    rw [List.all_eq_true] at hnt
    have hpt := hnt p (List.mem_of_getElem? h2)
    refine ih i v p h1 h2 hpb (fun t ht => hT t ?_)
    simp only [PV.tk, List.mem_flatMap]
    refine ⟨p, List.mem_of_getElem? h2, ?_⟩
    cases p <;> first | exact ht | (simp [notTup] at hpt)

structure Ren (n : Nat) (κ κ' : K) (acc : List Nat) : Prop where
  S : ∀ (b : Nat) (t : TypeId), κ.S b = some t → κ'.S b = some t
  old : ∀ (i : Nat) (x : Nat × Nat × Nat), i < n → κ.τ[i]? = some x → κ'.τ[i]? = some x
  new : ∀ (j i : Nat) (x : Nat × Nat × Nat), acc[j]? = some i → κ.τ[i]? = some x → κ'.τ[n + j]? = some x

theorem keepTok_pre {n : Nat} {toks : List Bool} {acc : List Nat} {t : Tok} : acc <+: (keepTok n toks acc t).2 := by
  unfold keepTok
  split
  · split
    · exact List.prefix_refl _
    · split
      · exact List.prefix_append _ _
      · exact List.prefix_refl _
  · exact List.prefix_refl _

theorem keepTok_ok {n : Nat} {toks : List Bool} {acc accF : List Nat} {t : Tok} {κ κ' : K} {blk off k c esz : Nat} (hren : Ren n κ κ' accF) (hp : (keepTok n toks acc t).2 <+: accF) (ht : TokOK κ t blk off k c esz) :
    TokOK κ' (keepTok n toks acc t).1 blk off k c esz := by
  unfold keepTok at *
  split
  · rename_i i
    obtain ⟨e, ce, h1, h2⟩ := ht
    simp only at hp
    split
    · rename_i hi
      exact ⟨e, ce, hren.old _ _ hi h1, h2⟩
    · rename_i hi
      rw [if_neg hi] at hp
      split
      · rename_i hc
        rw [if_pos hc] at hp
        refine ⟨e, ce, hren.new acc.length i _ ?_ h1, h2⟩
        obtain ⟨r, rfl⟩ := hp
        simp
      · trivial
  · rename_i hne
    cases t with
    | no => trivial
    | ex => exact ht
    | own i => exact absurd rfl (hne i)

theorem keepLeaf_pre {n : Nat} {toks : List Bool} {acc : List Nat} {v : PV} : acc <+: (keepLeaf n toks acc v).2 := by
  unfold keepLeaf
  split
  · exact keepTok_pre
  · exact keepTok_pre
  · exact List.prefix_refl _

theorem keepCells_pre {n : Nat} {toks : List Bool} : ∀ {vs : List PV} {acc : List Nat}, acc <+: (keepCells n toks acc vs).2 := by
  intro vs
  induction vs with
  | nil => intro acc; exact List.prefix_refl _
  | cons v vs ih => intro acc; exact List.IsPrefix.trans keepLeaf_pre ih

theorem keepVal_pre {n : Nat} {toks : List Bool} {acc : List Nat} {v : PV} : acc <+: (keepVal n toks acc v).2 := by
  unfold keepVal
  split
  · exact keepCells_pre
  · exact keepLeaf_pre

theorem keepVals_pre {n : Nat} {toks : List Bool} : ∀ {vs : List PV} {acc : List Nat}, acc <+: (keepVals n toks acc vs).2 := by
  intro vs
  induction vs with
  | nil => intro acc; exact List.prefix_refl _
  | cons v vs ih => intro acc; exact List.IsPrefix.trans keepVal_pre ih

theorem keepLeaf_R {κ κ' : K} {n nb : Nat} {toks : List Bool} {acc accF : List Nat} {v : Value} {p : PV} (hC : ∀ b i v, κ.C b i = some v → κ'.C b i = some v) (hφ : ∀ (i x : Nat), i < nb → κ.φ[i]? = some x → κ'.φ[i]? = some x ∧ κ'.μ i = κ.μ i) (hren : Ren n κ κ' accF)
    (hp : (keepLeaf n toks acc p).2 <+: accF) (hb : p.inB nb = true) (hlf : leafB p = true) (h : R g κ v p) : R g κ' v (keepLeaf n toks acc p).1 ∧ leafB (keepLeaf n toks acc p).1 = true ∧ notTup (keepLeaf n toks acc p).1 = true := by
  cases h
  case bys blk off k c t l hn hc hbb ht hz =>
    exact ⟨.bys blk off k c _ l hn hc (fun i b h => hC _ _ _ (hbb i b h)) (keepTok_ok hren hp ht) (fun i h => by
      have : ∃ j, t = .own j := by
        cases t with
        | own j => exact ⟨j, rfl⟩
        | no => simp [keepTok] at h
        | ex => simp [keepTok] at h
      obtain ⟨j, hj⟩ := this
      exact ⟨(hz j hj).1, hren.S _ _ (hz j hj).2⟩), rfl, rfl⟩
  case sl blk off k c esz t xs vs hn hc he hl hv hr hd hlf' ht =>
    exact ⟨.sl blk off k c esz _ xs vs hn hc he hl (fun i v h => hC _ _ _ (hv i v h)) (fun i v p h1 h2 => (hr i v p h1 h2).dataMono hC (dataAll_get (dataAll_flat hd) h2)) hd hlf' (keepTok_ok hren hp ht), rfl, rfl⟩
  case bslot => exact ⟨.bslot, rfl, rfl⟩
  case sl0 a esz t ht =>
    have : (keepTok n toks acc t).1 = t := by
      cases t with
      | own i => exact absurd rfl (ht i)
      | _ => rfl
    refine ⟨?_, rfl, rfl⟩
    simp only [keepLeaf, this]
    exact .sl0 a esz t ht
  case agg => simp [leafB] at hlf
  case tup => simp [leafB] at hlf
  case undef => simp [leafB] at hlf
  case yld => simp [PV.inB] at hb
  case mref => simp [leafB] at hlf
  case ptr b off blk h hm => exact ⟨.ptr b off blk (hφ _ _ (by simpa [PV.inB] using hb) h).1 (by rw [(hφ _ _ (by simpa [PV.inB] using hb) h).2]; exact hm), rfl, rfl⟩
  case ms b off off' k c blk h hc ho hm => exact ⟨.ms b off off' k c blk (hφ _ _ (by simpa [PV.inB] using hb) h).1 hc ho (by rw [(hφ _ _ (by simpa [PV.inB] using hb) h).2]; exact hm), rfl, rfl⟩
  case cp blk off vs cells hl hc hr hd hlf' => exact ⟨.cp blk off vs cells hl (fun i v h => hC _ _ _ (hc i v h)) (fun i v p h1 h2 => (hr i v p h1 h2).dataMono hC (dataAll_get hd h2)) hd hlf', rfl, rfl⟩
  case fn f' f cv cap h1 hl hk hr =>
    refine ⟨?_, rfl, rfl⟩
    exact (R.fn f' f cv cap h1 hl hk hr).restrict (n := nb) (T := fun _ => False) hren.S hC hφ (fun t x ht => ht.elim) hb (by simp [PV.tk, toksOf, tokOf])
  case bool b => exact ⟨.bool b, rfl, rfl⟩
  case b8 b m hm => exact ⟨.b8 b m hm, rfl, rfl⟩
  case int k m hk => exact ⟨.int k m hk, rfl, rfl⟩
  case str s l hl => exact ⟨.str s l hl, rfl, rfl⟩
  case nilp => exact ⟨.nilp, rfl, rfl⟩
  case nils => exact ⟨.nils, rfl, rfl⟩
  case nilf => exact ⟨.nilf, rfl, rfl⟩
  case nili => exact ⟨.nili, rfl, rfl⟩

theorem keepCells_R {κ κ' : K} {n nb : Nat} {toks : List Bool} {accF : List Nat} (hC : ∀ b i v, κ.C b i = some v → κ'.C b i = some v) (hφ : ∀ (i x : Nat), i < nb → κ.φ[i]? = some x → κ'.φ[i]? = some x ∧ κ'.μ i = κ.μ i) (hren : Ren n κ κ' accF) :
    ∀ (ps : List PV) (acc : List Nat) (f : Nat → Option Value), (keepCells n toks acc ps).2 <+: accF → PV.inB.inBAll nb ps = true → ps.all leafB = true → (∀ (i : Nat) (v : Value) (p : PV), f i = some v → ps[i]? = some p → R g κ v p) →
      (keepCells n toks acc ps).1.length = ps.length ∧ (keepCells n toks acc ps).1.all leafB = true ∧ ∀ (i : Nat) (v : Value) (p : PV), f i = some v → (keepCells n toks acc ps).1[i]? = some p → R g κ' v p := by
  intro ps
  induction ps with
  | nil => intro acc f _ _ _ _; exact ⟨rfl, rfl, fun i v p _ h => by simp [keepCells] at h⟩
  | cons p ps ih =>
    intro acc f hp hb hlf hr
    simp only [PV.inB.inBAll, Bool.and_eq_true] at hb
    simp only [List.all_cons, Bool.and_eq_true] at hlf
    obtain ⟨a1, a2, a3⟩ := ih (keepLeaf n toks acc p).2 (fun i => f (i + 1)) hp hb.2 hlf.2 (fun i v q h1 h2 => hr (i + 1) v q h1 (by simpa using h2))
    have hpre : (keepLeaf n toks acc p).2 <+: accF := List.IsPrefix.trans keepCells_pre hp
    have hleaf : leafB (keepLeaf n toks acc p).1 = true := by
      have h1 := hlf.1
      cases p <;> simp_all [keepLeaf, leafB]
    refine ⟨by simp [keepCells, a1], by simp only [keepCells, List.all_cons, hleaf, a2]; rfl, fun i v q h1 h2 => ?_⟩
    cases i with
    | zero =>
      simp [keepCells] at h2; subst h2
      exact (keepLeaf_R hC hφ hren hpre hb.1 hlf.1 (hr 0 v p h1 rfl)).1
    | succ i => exact a3 i v q h1 (by simpa [keepCells] using h2)

theorem keepVal_R {κ κ' : K} {n nb : Nat} {toks : List Bool} {acc accF : List Nat} {v : Value} {p : PV} (hC : ∀ b i v, κ.C b i = some v → κ'.C b i = some v) (hφ : ∀ (i x : Nat), i < nb → κ.φ[i]? = some x → κ'.φ[i]? = some x ∧ κ'.μ i = κ.μ i) (hren : Ren n κ κ' accF)
    (hp : (keepVal n toks acc p).2 <+: accF) (hb : p.inB nb = true) (hnt : notTup p = true) (h : R g κ v p) : R g κ' v (keepVal n toks acc p).1 ∧ notTup (keepVal n toks acc p).1 = true := by
  by_cases ha : ∃ cs, p = .agg cs
  · obtain ⟨cs, rfl⟩ := ha
    cases h with | agg vs _ hl hlf hr =>
    obtain ⟨a1, a2, a3⟩ := keepCells_R hC hφ hren cs acc (fun i => vs[i]?) hp (by simpa [PV.inB] using hb) hlf hr
    exact ⟨.agg _ _ (by rw [a1]; exact hl) a2 a3, rfl⟩
  · by_cases hu : p = .undef
    · subst hu; cases h; exact ⟨.undef, rfl⟩
    · by_cases hm : ∃ b, p = .mref b
      · obtain ⟨b, rfl⟩ := hm
        cases h with | mref _ blk h1 h2 =>
        have h3 := hφ b blk (by simpa [PV.inB] using hb) h1
        exact ⟨.mref _ blk h3.1 (by rw [h3.2]; exact h2), rfl⟩
      · have hlf : leafB p = true := by cases p <;> simp_all [leafB, notTup]
        have hk : keepVal n toks acc p = keepLeaf n toks acc p := by cases p <;> first | rfl | exact absurd ⟨_, rfl⟩ ha
        rw [hk] at hp ⊢
        have := keepLeaf_R hC hφ hren hp hb hlf h
        exact ⟨this.1, this.2.2⟩

theorem keepVals_R {κ κ' : K} {n nb : Nat} {toks : List Bool} {accF : List Nat} (hC : ∀ b i v, κ.C b i = some v → κ'.C b i = some v) (hφ : ∀ (i x : Nat), i < nb → κ.φ[i]? = some x → κ'.φ[i]? = some x ∧ κ'.μ i = κ.μ i) (hren : Ren n κ κ' accF) :
    ∀ (ps : List PV) (acc : List Nat) (f : Nat → Option Value), (keepVals n toks acc ps).2 <+: accF → PV.inB.inBAll nb ps = true → ps.all notTup = true → (∀ (i : Nat) (v : Value) (p : PV), f i = some v → ps[i]? = some p → R g κ v p) →
      (keepVals n toks acc ps).1.length = ps.length ∧ ((∀ i, i < ps.length → (f i).isSome) → (keepVals n toks acc ps).1.all notTup = true) ∧ ∀ (i : Nat) (v : Value) (p : PV), f i = some v → (keepVals n toks acc ps).1[i]? = some p → R g κ' v p := by
  intro ps
  induction ps with
  | nil => intro acc f _ _ _ _; exact ⟨rfl, fun _ => rfl, fun i v p _ h => by simp [keepVals] at h⟩
  | cons p ps ih =>
    intro acc f hp hb hnt hr
    simp only [PV.inB.inBAll, Bool.and_eq_true] at hb
    simp only [List.all_cons, Bool.and_eq_true] at hnt
    obtain ⟨a1, a2, a3⟩ := ih (keepVal n toks acc p).2 (fun i => f (i + 1)) hp hb.2 hnt.2 (fun i v q h1 h2 => hr (i + 1) v q h1 (by simpa using h2))
    have hpre : (keepVal n toks acc p).2 <+: accF := List.IsPrefix.trans keepVals_pre hp
    refine ⟨by simp [keepVals, a1], fun hs => ?_, fun i v q h1 h2 => ?_⟩
    · obtain ⟨v0, hv0⟩ := Option.isSome_iff_exists.1 (hs 0 (by simp))
      have h0 := (keepVal_R hC hφ hren hpre hb.1 hnt.1 (hr 0 v0 p hv0 rfl)).2
      simp only [keepVals, List.all_cons, h0, a2 (fun i hi => hs (i + 1) (by simpa using hi))]; rfl
    · cases i with
      | zero =>
        simp [keepVals] at h2; subst h2
        exact (keepVal_R hC hφ hren hpre hb.1 hnt.1 (hr 0 v p h1 rfl)).1
      | succ i => exact a3 i v q h1 (by simpa [keepVals] using h2)

theorem keepRes_R {κ κ' : K} {n nb : Nat} {toks : List Bool} {v : Value} {p : PV} (hC : ∀ b i v, κ.C b i = some v → κ'.C b i = some v) (hφ : ∀ (i x : Nat), i < nb → κ.φ[i]? = some x → κ'.φ[i]? = some x ∧ κ'.μ i = κ.μ i) (hren : Ren n κ κ' (keepRes n toks p).2)
    (hb : p.inB nb = true) (h : R g κ v p) : R g κ' v (keepRes n toks p).1 := by
  by_cases ht : ∃ us, p = .tup us
  · obtain ⟨us, rfl⟩ := ht
    cases h with | tup vs _ hl hnt hr =>
    obtain ⟨a1, a2, a3⟩ := keepVals_R hC hφ hren us [] (fun i => vs[i]?) (List.prefix_refl _) (by simpa [PV.inB] using hb) hnt hr
    exact .tup _ _ (by rw [a1]; exact hl) (a2 fun i hi => by simp [show i < vs.size by omega]) a3
  · have hk : keepRes n toks p = keepVal n toks [] p := by cases p <;> first | rfl | exact absurd ⟨_, rfl⟩ ht
    rw [hk] at hren ⊢
    exact (keepVal_R hC hφ hren (List.prefix_refl _) hb (by cases p <;> first | rfl | exact absurd ⟨_, rfl⟩ ht) h).1

structure AccOK (n : Nat) (toks : List Bool) (acc : List Nat) : Prop where
  live : ∀ i ∈ acc, toks[i]? = some true
  own : ∀ i ∈ acc, n ≤ i
  nd : acc.Nodup

theorem keepTok_acc {n : Nat} {toks : List Bool} {acc : List Nat} {t : Tok} (h : AccOK n toks acc) : AccOK n toks (keepTok n toks acc t).2 := by
  unfold keepTok
  split
  · split
    · exact h
    · split
      · rename_i i h1 h2
        refine ⟨fun j hj => ?_, fun j hj => ?_, ?_⟩
        · simp at hj; rcases hj with hj | rfl
          · exact h.live j hj
          · exact h2.1
        · simp at hj; rcases hj with hj | rfl
          · exact h.own j hj
          · omega
        · rw [List.nodup_append]
          exact ⟨h.nd, by simp, fun a ha b hb => by simp at hb; subst hb; rintro rfl; exact h2.2 ha⟩
      · exact h
  · exact h

theorem keepLeaf_acc {n : Nat} {toks : List Bool} {acc : List Nat} {v : PV} (h : AccOK n toks acc) : AccOK n toks (keepLeaf n toks acc v).2 := by
  unfold keepLeaf
  split
  · exact keepTok_acc h
  · exact keepTok_acc h
  · exact h

theorem keepCells_acc {n : Nat} {toks : List Bool} : ∀ {vs : List PV} {acc : List Nat}, AccOK n toks acc → AccOK n toks (keepCells n toks acc vs).2 := by
  intro vs
  induction vs with
  | nil => intro acc h; exact h
  | cons v vs ih => intro acc h; exact ih (keepLeaf_acc h)

theorem keepVal_acc {n : Nat} {toks : List Bool} {acc : List Nat} {v : PV} (h : AccOK n toks acc) : AccOK n toks (keepVal n toks acc v).2 := by
  unfold keepVal
  split
  · exact keepCells_acc h
  · exact keepLeaf_acc h

theorem keepVals_acc {n : Nat} {toks : List Bool} : ∀ {vs : List PV} {acc : List Nat}, AccOK n toks acc → AccOK n toks (keepVals n toks acc vs).2 := by
  intro vs
  induction vs with
  | nil => intro acc h; exact h
  | cons v vs ih => intro acc h; exact ih (keepVal_acc h)

theorem keepRes_acc (n : Nat) (toks : List Bool) (p : PV) : AccOK n toks (keepRes n toks p).2 := by
  have h0 : AccOK n toks [] := ⟨by simp, by simp, List.nodup_nil⟩
  unfold keepRes
  split
  · exact keepVals_acc h0
  · exact keepVal_acc h0

theorem SR.low {κ : K} {w : World} {st : St} (h : SR P g base κ w st) (x : Nat) : SR P g base κ w { st with low := x } :=
  ⟨h.cC, h.sh, h.bl, h.bn, h.bx, h.mx, h.mz, h.tl, h.tk, h.td, h.ll, h.ln, h.lb, h.lp, h.hb, h.gv⟩

theorem loops_back {κ κ1 : K} {w w1 : World} {st st1 : St} (h0 : SR P g base κ w st) (h1 : SR P g base κ1 w1 st1) (hlam : κ1.lam = κ.lam) (hfr : Fr base κ.lam w w1)
    (hln : st1.loops.length = st.loops.length) (hlk : ∀ (k : Nat) (r : LoopS), st.loops[k]? = some r → ∃ r1, st1.loops[k]? = some r1 ∧ SameLoop r r1) {κ' : K} (hle : K.le κ κ')
    (k l D : Nat) (r1 : LoopS) (hr1 : st1.loops[k]? = some r1) (hl : κ.lam[k]? = some (l, D)) : LoopOK P g κ' w1 l D r1 := by
  have hk : k < st.loops.length := by rw [← hln]; exact (List.getElem?_eq_some_iff.1 hr1).1
  have hr0 : st.loops[k]? = some st.loops[k] := by simp [hk]
  obtain ⟨r1', a1, a2⟩ := hlk k _ hr0
  rw [hr1] at a1; cases a1
  obtain ⟨rec0, nt0, b1, b2, b3, b4, b5, b6, b7, b8, b9, b10⟩ := (h0.lp k l D _ hr0 hl).ex
  obtain ⟨rec1, nt1, c1, c2, c3, c4, c5, c6, c7, c8, c9, c10⟩ := (h1.lp k l D r1 hr1 (by rw [hlam]; exact hl)).ex
  obtain ⟨rec', d1, d2⟩ := hfr.loops l rec0 (List.mem_map.2 ⟨(l, D), List.mem_of_getElem? hl, rfl⟩) b1
  rw [c1] at d1; cases d1
  refine ⟨rec1, nt0, c1, c2, c3, c4, ?_, ?_, ?_, ?_, c9, c10⟩
  · rw [d2.tmps, a2.env]; exact b5.mono hle
  · rw [d2.assign, a2.assign]; exact b6
  · rw [d2.body, a2.body]; exact b7
  · rw [a2.params]; exact b8

theorem SR.cut {κ κ1 : K} {w w1 : World} {st st1 : St} (h0 : SR P g base κ w st) (h1 : SR P g base κ1 w1 st1) (hle : K.le κ κ1) (hlam : κ1.lam = κ.lam) (hfr : Fr base κ.lam w w1)
    (hln : st1.loops.length = st.loops.length) (hlk : ∀ (k : Nat) (r : LoopS), st.loops[k]? = some r → ∃ r1, st1.loops[k]? = some r1 ∧ SameLoop r r1) (hsz : st.boxes.length ≤ st1.boxes.length)
    {T : Nat → Prop} (τ' : List (Nat × Nat × Nat)) (toks' : List Bool) (low' : Nat) (ι : Nat → Nat) (hT : ∀ (b : Nat) (cs : List PV), b < st.boxes.length → st1.boxes[b]? = some cs → ∀ t ∈ toksOf cs, T t)
    (hτ : ∀ (t : Nat) (x : Nat × Nat × Nat), T t → κ1.τ[t]? = some x → τ'[t]? = some x) (hτ0 : ∀ (i : Nat) (x : Nat × Nat × Nat), κ.τ[i]? = some x → τ'[i]? = some x) (htl : τ'.length = toks'.length)
    (hι : ∀ (i : Nat) (x : Nat × Nat × Nat), toks'[i]? = some true → τ'[i]? = some x → st1.toks[ι i]? = some true ∧ κ1.τ[ι i]? = some x)
    (hinj : ∀ (i j : Nat), toks'[i]? = some true → toks'[j]? = some true → ι i = ι j → i = j) :
    let κ' : K := { C := κ1.C, φ := κ.φ, lam := κ.lam, τ := τ', S := κ1.S, μ := κ.μ }
    K.le κ κ' ∧ SR P g base κ' w1 { boxes := st1.boxes.take st.boxes.length, toks := toks', loops := st1.loops, low := low' } := by
  intro κ'
  have hle' : K.le κ κ' := ⟨hle.C, fun _ _ h => h, fun _ _ h => h, hτ0, hle.S, fun _ _ => rfl⟩
  have hφ : ∀ (i x : Nat), κ.φ[i]? = some x → κ1.φ[i]? = some x := hle.φ
  have hφ' : ∀ (i x : Nat), i < st.boxes.length → κ1.φ[i]? = some x → κ.φ[i]? = some x ∧ κ.μ i = κ1.μ i := fun i x hi hx => by
    have : i < κ.φ.length := by rw [h0.bl]; exact hi
    have h2 : κ.φ[i]? = some κ.φ[i] := by simp [this]
    rw [hφ _ _ h2] at hx; cases hx; exact ⟨h2, (hle.μ i this).symm⟩
  refine ⟨hle', { cC := h1.cC, sh := h1.sh, bl := ?_, bn := h0.bn, bx := ?_, mx := ?_, mz := h0.mz, tl := htl, tk := ?_, td := ?_, ll := ?_, ln := h0.ln, lb := h0.lb, lp := fun k l D r a b => loops_back h0 h1 hlam hfr hln hlk hle' k l D r a b, hb := h1.hb, gv := g.mono _ _ hle'.C h0.gv }⟩
  · show κ.φ.length = (st1.boxes.take st.boxes.length).length
    rw [List.length_take, h0.bl]; omega
  · intro b blk cs hb hp hm
    simp only [List.getElem?_take] at hb
    split at hb
    · rename_i hlt
      have hx := h1.bx b blk cs hb (hφ _ _ hp) (hle.μ' hp hm)
      obtain ⟨rs, hc, h3, h4⟩ := hx.ex
      refine ⟨hx.ge, hx.nc, ⟨rs, hc, h3, fun i c hi => ?_⟩, hx.lf, hx.lw, hx.sb⟩
      obtain ⟨v, hv, hr⟩ := h4 i c hi
      have hlf := hx.lf
      rw [List.all_eq_true] at hlf
      have hmem := List.mem_of_getElem? hi
      refine ⟨v, hv, hr.restrict (κ := κ1) (κ' := κ') (n := b + 1) (T := T) (fun _ _ h => h) (fun _ _ _ h => h) (fun i x hi => hφ' i x (by omega)) hτ (hx.lw c hmem) (fun t ht => hT b cs hlt hb t ?_)⟩
      rw [leaf_tk (hlf c hmem)] at ht
      simp only [toksOf, List.mem_filterMap, List.mem_singleton] at *
      obtain ⟨a, rfl, ha⟩ := ht
      exact ⟨a, hmem, ha⟩
    · cases hb
  · intro b blk cs hb hp hm
    simp only [List.getElem?_take] at hb
    split at hb
    · exact h1.mx b blk cs hb (hφ _ _ hp) (hle.μ' hp hm)
    · cases hb
  · intro i blk e ce a b
    obtain ⟨c, d⟩ := hι i _ a b
    have hx := h1.tk (ι i) blk e ce c d
    exact ⟨hx.ge, fun hm => hx.nb (by
      obtain ⟨j, hj⟩ := List.getElem?_of_mem hm
      exact List.mem_of_getElem? (hφ _ _ hj)), hx.nc, hx.ex⟩
  · intro i j bi ei ci bj ej cj a b c d hij
    obtain ⟨e1, e2⟩ := hι i _ a c
    obtain ⟨f1, f2⟩ := hι j _ b d
    exact h1.td _ _ _ _ _ _ _ _ e1 f1 e2 f2 (fun he => hij (hinj i j a b he))
  · show κ.lam.length = st1.loops.length
    rw [hln]; exact h0.ll

theorem toks_lt {κ : K} {n : Nat} (hn : κ.τ.length = n) {cs : List PV} (h4 : ∀ (i : Nat) (p : PV), cs[i]? = some p → ∃ u, R g κ u p) (t : Nat) (ht0 : t ∈ toksOf cs) : t < n := by
  simp only [toksOf, List.mem_filterMap] at ht0
  obtain ⟨p, hpm, hpt⟩ := ht0
  obtain ⟨i, hi⟩ := List.getElem?_of_mem hpm
  obtain ⟨u, hru⟩ := h4 i p hi
  rw [← hn]
  cases hru with
  | bys blk off n c tk l hn hc hb htok =>
    cases tk with
    | own j => simp [tokOf] at hpt; subst hpt; obtain ⟨e, ce, h5, _⟩ := htok; exact (List.getElem?_eq_some_iff.1 h5).1
    | no => simp [tokOf] at hpt
    | ex => simp [tokOf] at hpt
  | sl0 a esz tk htk =>
    cases tk with
    | own j => exact absurd rfl (htk j)
    | no => simp [tokOf] at hpt
    | ex => simp [tokOf] at hpt
  | sl blk off n c esz tk xs vs hn hc he hl hv hr hd hlf htok =>
    cases tk with
    | own j => simp [tokOf] at hpt; subst hpt; obtain ⟨e, ce, h5, _⟩ := htok; exact (List.getElem?_eq_some_iff.1 h5).1
    | no => simp [tokOf] at hpt
    | ex => simp [tokOf] at hpt
  | _ => simp [tokOf] at hpt

theorem KV.toks : ∀ {es : List MapEntry} {cs : List PV}, KV es cs → toksOf cs = []
  | [], cs, h => by simp only [KV] at h; subst h; rfl
  | e :: es, cs, h => by
    obtain ⟨s, b, r, -, -, rfl, h4⟩ := h
    have := KV.toks h4
    simp only [toksOf] at this ⊢
    simp only [List.filterMap_cons, tokOf]
    exact this
theorem SR.box_toks {κ : K} {w : World} {st : St} (h : SR P g base κ w st) {b blk : Nat} {cs : List PV} (h1 : st.boxes[b]? = some cs) (h2 : κ.φ[b]? = some blk) {t : Nat} (ht : t ∈ toksOf cs) : t < st.toks.length := by
  cases hm : κ.μ b with
  | false =>
    obtain ⟨rs, _, _, h4⟩ := (h.bx b _ cs h1 h2 hm).ex
    exact toks_lt h.tl (fun i p hi => by obtain ⟨u, _, hru⟩ := h4 i p hi; exact ⟨u, hru⟩) t ht
  | true =>
    obtain ⟨es, clock, _, h4⟩ := (h.mx b _ cs h1 h2 hm).ex
    rw [h4.toks] at ht; cases ht

theorem SR.freeze {κ : K} {w : World} {st : St} (h : SR P g base κ w st) {blk : Nat} {rs : Array Value} {el : TypeId} {fz : Nat × Nat} (hw : w.heap[blk]? = some (.cells rs el fz))
    (hn : ∀ i, κ.C blk i = none) (hp : blk ∉ κ.φ) (ht : ∀ (i b e ce : Nat), st.toks[i]? = some true → κ.τ[i]? = some (b, e, ce) → b ≠ blk) :
    K.le κ (κ.addC blk fun i => rs[i]?) ∧ SR P g base (κ.addC blk fun i => rs[i]?) w st := by
  obtain ⟨κ', hκ⟩ : ∃ κ', κ' = κ.addC blk fun i => rs[i]? := ⟨_, rfl⟩
  rw [← hκ]
  have hold : ∀ b i, b ≠ blk → κ'.C b i = κ.C b i := fun b i hb => by simp [hκ, K.addC, hb]
  have hφ : κ'.φ = κ.φ := by rw [hκ]; rfl
  have hτ : κ'.τ = κ.τ := by rw [hκ]; rfl
  have hlm : κ'.lam = κ.lam := by rw [hκ]; rfl
  have hS : κ'.S = κ.S := by rw [hκ]; rfl
  have hμ : κ'.μ = κ.μ := by rw [hκ]; rfl
  have hle : K.le κ κ' := ⟨fun b i v hc => by
      have : b ≠ blk := by rintro rfl; rw [hn] at hc; cases hc
      rw [hold _ _ this]; exact hc, fun _ _ x => by rw [hφ]; exact x, fun _ _ x => by rw [hlm]; exact x, fun _ _ x => by rw [hτ]; exact x, fun _ _ x => by rw [hS]; exact x, fun _ _ => by rw [hμ]⟩
  refine ⟨hle, ?_⟩
  refine { cC := ?_, sh := fun b t hb => h.sh b t (by rw [← hS]; exact hb), bl := by rw [hφ]; exact h.bl, bn := by rw [hφ]; exact h.bn, bx := ?_, mx := fun b blk' cs h1 h2 hm => h.mx b blk' cs h1 (by rw [← hφ]; exact h2) (by rw [← hμ]; exact hm), mz := by rw [hφ, hμ]; exact h.mz, tl := by rw [hτ]; exact h.tl, tk := ?_, td := by rw [hτ]; exact h.td, ll := by rw [hlm]; exact h.ll, ln := by rw [hlm]; exact h.ln, lb := by rw [hlm]; exact h.lb, lp := ?_, hb := h.hb, gv := g.mono _ _ hle.C h.gv }
  · intro b i v hc
    by_cases hb : b = blk
    · subst hb
      simp only [hκ, K.addC, if_pos] at hc
      simp only [World.cell?, hw]
      cases hri : rs[i]? with
      | none => simp [hri, hn] at hc
      | some u => simp [hri] at hc; simp [hc]
    · rw [hold _ _ hb] at hc
      exact h.cC b i v hc
  · intro b blk' cs h1 h2 hm
    rw [hφ] at h2
    rw [hμ] at hm
    have hx := h.bx b blk' cs h1 h2 hm
    have hne : blk' ≠ blk := by rintro rfl; exact hp (List.mem_of_getElem? h2)
    obtain ⟨rs', hc, h3, h4⟩ := hx.ex
    refine ⟨hx.ge, fun hq i => by rw [hold _ _ hne]; exact hx.nc hq i, ⟨rs', hc, h3, fun i c hi => ?_⟩, hx.lf, hx.lw, hx.sb⟩
    obtain ⟨v, hv, hr'⟩ := h4 i c hi
    exact ⟨v, hv, hr'.mono hle⟩
  · intro i blk' e ce h1 h2
    rw [hτ] at h2
    have hx := h.tk i blk' e ce h1 h2
    exact ⟨hx.ge, by rw [hφ]; exact hx.nb, fun j hj => by rw [hold _ _ (ht i blk' e ce h1 h2)]; exact hx.nc j hj, hx.ex⟩
  · intro k l D r h1 h2
    rw [hlm] at h2
    exact (h.lp k l D r h1 h2).mono hle (fun k o ho _ => ho)

theorem frz_sim {κ1 κ2 : K} {w1 : World} {st1 st2 : St} {z : Value} {b off len : Nat} {l : List UInt8} (h1 : SR P g base κ1 w1 st1) (h2 : SR P g base κ2 w1 st2) (hm : κ2.φ.length ≤ b)
    (hφ : ∀ (i x : Nat), κ2.φ[i]? = some x → κ1.φ[i]? = some x) (hC : κ2.C = κ1.C)
    (ht : ∀ (i : Nat) (x : Nat × Nat × Nat), st2.toks[i]? = some true → κ2.τ[i]? = some x → st1.toks[i]? = some true ∧ κ1.τ[i]? = some x)
    (hr : R g κ1 z (.ms b off len)) (hl : src8 st1 (.ms b off len) = some l) :
    ∃ κ', K.le κ2 κ' ∧ κ'.lam = κ2.lam ∧ SR P g base κ' w1 st2 ∧ R g κ' z (.bys .no l) := by
  have hcells := src8_cells h1 hr hl (fun s he => by cases he)
  simp only [src8] at hl
  split at hl
  · rename_i cs hcs
    split at hl
    · rename_i hle
      cases hr with | ms _ _ off' _ c blk hp hc ho hμ =>
      have hbx := h1.bx b blk cs hcs hp hμ
      obtain ⟨rs, ⟨el, lo, hi, hw, hf⟩, hl', hr'⟩ := hbx.ex
      by_cases hcs0 : cs = []
      · subst hcs0
        have hlen : len = 0 := by simp at hle; omega
        have hl0 : l = [] := by
          subst hlen
          simpa [bytesOf] using hl.symm
        subst hl0 hlen
        exact ⟨κ2, K.le.refl κ2, rfl, h2, .bys _ _ _ _ _ [] rfl hc (fun i x hx => by simp at hx) trivial (fun i hi => by cases hi)⟩
      obtain ⟨f1, f2⟩ := h2.freeze hw (fun i => by rw [hC]; exact hbx.nc hcs0 i) (fun hmem => by
          obtain ⟨i, hi'⟩ := List.getElem?_of_mem hmem
          have h3 := hφ i _ hi'
          have hlt := (List.getElem?_eq_some_iff.1 hi').1
          have := (List.getElem?_inj (by rw [h1.bl]; exact (List.getElem?_eq_some_iff.1 hcs).1) h1.bn).1 (hp.trans h3.symm)
          omega)
        (fun i b' e ce a1 a2 => by
          rintro rfl
          obtain ⟨c1, c2⟩ := ht i _ a1 a2
          exact (h1.tk i _ e ce c1 c2).nb (List.mem_of_getElem? hp))
      refine ⟨_, f1, rfl, f2, ?_⟩
      rcases hcells with ⟨hz, _⟩ | ⟨blk2, off2, c2, hz, hb⟩
      · cases hz
      · cases hz
        refine .bys _ _ _ _ _ l rfl hc (fun i x hx => ?_) trivial (fun i hi => by cases hi)
        have h5 := hb i x hx
        simp only [World.cell?, hw] at h5
        simp only [K.addC, if_pos]
        have h6 : rs[off' + i]? = some (.int .u8 x.toNat) := by simpa using h5
        rw [h6]
    · cases hl
  · cases hl

theorem leave_sim {κ κ1 : K} {w w1 : World} {st st1 : St} {z : Value} {v : PV} (h0 : SR P g base κ w st) (h1 : SR P g base κ1 w1 st1) (hle : K.le κ κ1) (hlam : κ1.lam = κ.lam) (hfr : Fr base κ.lam w w1)
    (htk : TK { st with low := st.boxes.length } st1) (hr : R g κ1 z v) :
    ∃ κ', K.le κ κ' ∧ κ'.lam = κ.lam ∧ SR P g base κ' w1 (leave st st1 v).2 ∧ R g κ' z (leave st st1 v).1 := by
  have hφ' : ∀ (i x : Nat), i < st.boxes.length → κ1.φ[i]? = some x → κ.φ[i]? = some x ∧ κ.μ i = κ1.μ i := fun i x hi hx => by
    have : i < κ.φ.length := by rw [h0.bl]; exact hi
    have h2 : κ.φ[i]? = some κ.φ[i] := by simp [this]
    rw [hle.φ _ _ h2] at hx; cases hx; exact ⟨h2, (hle.μ i this).symm⟩
  unfold leave
  split
  · rename_i hb
    split
    · rename_i hlow
      have hacc := keepRes_acc st.toks.length st1.toks v
      generalize hr' : keepRes st.toks.length st1.toks v = r at hacc
      have hlen1 : κ.τ.length ≤ κ1.τ.length := by
        rcases Nat.lt_or_ge κ1.τ.length κ.τ.length with hlt | hge
        · have := hle.τ κ1.τ.length κ.τ[κ1.τ.length] (by simp [hlt])
          simp at this
        · exact hge
      have hlast : ∀ i ∈ r.2, i < κ1.τ.length := fun i hi => by rw [h1.tl]; exact (List.getElem?_eq_some_iff.1 (hacc.live i hi)).1
      have hτn : ∀ (j i : Nat), r.2[j]? = some i → (κ.τ ++ r.2.map fun i => κ1.τ.getD i (0, 0, 0))[st.toks.length + j]? = κ1.τ[i]? := fun j i hj => by
        rw [← h0.tl, List.getElem?_append_right (by omega), show κ.τ.length + j - κ.τ.length = j by omega, List.getElem?_map, hj]
        have hi := hlast i (List.mem_of_getElem? hj)
        simp [List.getD, hi]
      have hτ0 : ∀ (i : Nat) (x : Nat × Nat × Nat), κ.τ[i]? = some x → (κ.τ ++ r.2.map fun i => κ1.τ.getD i (0, 0, 0))[i]? = some x := fun i x hx => by
        rw [List.getElem?_append_left (List.getElem?_eq_some_iff.1 hx).1]; exact hx
      have hτold : ∀ (i : Nat) (x : Nat × Nat × Nat), i < st.toks.length → κ1.τ[i]? = some x → (κ.τ ++ r.2.map fun i => κ1.τ.getD i (0, 0, 0))[i]? = some x := fun i x hi hx => by
        have hlt : i < κ.τ.length := by rw [h0.tl]; exact hi
        have h2 : κ.τ[i]? = some κ.τ[i] := by simp [hlt]
        rw [hle.τ _ _ h2] at hx; cases hx
        exact hτ0 _ _ h2
      have hlt1 : st.toks.length ≤ st1.toks.length := by rw [← h1.tl, ← h0.tl]; exact hlen1
      have hcut := h0.cut h1 hle hlam hfr htk.ln htk.lk htk.sz (T := fun t => t < st.toks.length) (κ.τ ++ r.2.map fun i => κ1.τ.getD i (0, 0, 0))
        (st1.toks.take st.toks.length ++ List.replicate r.2.length true) st.low (fun i => if i < st.toks.length then i else r.2.getD (i - st.toks.length) 0)
        (fun b cs hbl hbc t ht => by
          obtain ⟨cs0, c1, c2⟩ := htk.tk b cs (by omega) hbc
          have ht0 := c2 t ht
          simp only at c1
          have hlp : b < κ.φ.length := by rw [h0.bl]; exact hbl
          have hp : κ.φ[b]? = some κ.φ[b] := by simp [hlp]
          show t < st.toks.length
          exact h0.box_toks c1 hp ht0)
        (fun t x hT hx => hτold t x hT hx) hτ0 (by simp [h0.tl]; omega)
        (fun i x hi hx => by
          by_cases hlt : i < st.toks.length
          · simp only [hlt, if_true]
            rw [List.getElem?_append_left (by rw [List.length_take]; omega), List.getElem?_take, if_pos hlt] at hi
            refine ⟨hi, ?_⟩
            have h2 : i < κ1.τ.length := by rw [h1.tl]; omega
            have h3 : κ1.τ[i]? = some κ1.τ[i] := by simp [h2]
            rw [hτold i _ hlt h3] at hx
            rw [h3]; exact hx
          · simp only [hlt, if_false]
            have hil := (List.getElem?_eq_some_iff.1 hi).1
            simp only [List.length_append, List.length_take, List.length_replicate] at hil
            have hj : r.2[i - st.toks.length]? = some (r.2.getD (i - st.toks.length) 0) := by simp [List.getD, show i - st.toks.length < r.2.length by omega]
            have := hτn _ _ hj
            rw [show st.toks.length + (i - st.toks.length) = i by omega] at this
            exact ⟨hacc.live _ (List.mem_of_getElem? hj), by rw [← this]; exact hx⟩)
        (fun i j hi hj he => by
          have hil := (List.getElem?_eq_some_iff.1 hi).1
          have hjl := (List.getElem?_eq_some_iff.1 hj).1
          simp only [List.length_append, List.length_take, List.length_replicate] at hil hjl
          have key : ∀ i, ¬ i < st.toks.length → i - st.toks.length < r.2.length → st.toks.length ≤ r.2.getD (i - st.toks.length) 0 := fun i _ hl => by
            have hj : r.2[i - st.toks.length]? = some (r.2.getD (i - st.toks.length) 0) := by simp [List.getD, hl]
            exact hacc.own _ (List.mem_of_getElem? hj)
          by_cases a : i < st.toks.length <;> by_cases b : j < st.toks.length
          · simpa [a, b] using he
          · have := key j b (by omega)
            simp only [a, b, if_true, if_false] at he; omega
          · have := key i a (by omega)
            simp only [a, b, if_true, if_false] at he; omega
          · simp only [a, b, if_false] at he
            have hi' : i - st.toks.length < r.2.length := by omega
            have hj' : j - st.toks.length < r.2.length := by omega
            have : r.2[i - st.toks.length]? = r.2[j - st.toks.length]? := by
              simp [List.getD, hi', hj'] at he ⊢; exact he
            have := (List.getElem?_inj hi' hacc.nd).1 this
            omega)
      refine ⟨_, hcut.1, rfl, hcut.2, ?_⟩
      have hk := keepRes_R (κ := κ1) (κ' := { C := κ1.C, φ := κ.φ, lam := κ.lam, τ := κ.τ ++ r.2.map fun i => κ1.τ.getD i (0, 0, 0), S := κ1.S, μ := κ.μ }) (n := st.toks.length) (toks := st1.toks) (fun _ _ _ h => h) (fun i x hi hx => hφ' i x hi hx)
        (by rw [hr']; exact ⟨fun _ _ h => h, hτold, fun j i x hj hx => by show (κ.τ ++ _)[_]? = _; rw [hτn j i hj]; exact hx⟩) hb hr
      rw [hr'] at hk
      exact hk
    · have hcut := h0.cut h1 hle hlam hfr htk.ln htk.lk htk.sz (T := fun _ => True) κ1.τ st1.toks (min st.low st1.low) id (fun _ _ _ _ _ _ => trivial) (fun t x _ hx => hx) hle.τ h1.tl (fun i x a b => ⟨a, b⟩) (fun i j _ _ h => h)
      exact ⟨_, hcut.1, rfl, hcut.2, hr.restrict (κ := κ1) (κ' := { C := κ1.C, φ := κ.φ, lam := κ.lam, τ := κ1.τ, S := κ1.S, μ := κ.μ }) (T := fun _ => True) (fun _ _ h => h) (fun _ _ _ h => h) (fun i x hi hx => hφ' i x hi hx) (fun t x _ hx => hx) hb (fun _ _ => trivial)⟩
  · split
    · rename_i b off len hnb
      split
      · rename_i l hl
        split at hl
        · rename_i hbn
          have hlen1 : κ.τ.length ≤ κ1.τ.length := by
            rcases Nat.lt_or_ge κ1.τ.length κ.τ.length with hlt | hge
            · have := hle.τ κ1.τ.length κ.τ[κ1.τ.length] (by simp [hlt])
              simp at this
            · exact hge
          have hlt1 : st.toks.length ≤ st1.toks.length := by rw [← h1.tl, ← h0.tl]; exact hlen1
          have hτold : ∀ (i : Nat) (x : Nat × Nat × Nat), i < st.toks.length → κ1.τ[i]? = some x → κ.τ[i]? = some x := fun i x hi hx => by
            have hlt : i < κ.τ.length := by rw [h0.tl]; exact hi
            have h2 : κ.τ[i]? = some κ.τ[i] := by simp [hlt]
            rw [hle.τ _ _ h2] at hx; cases hx
            exact h2
          split
          · rename_i hlow
            have hcut := h0.cut h1 hle hlam hfr htk.ln htk.lk htk.sz (T := fun t => t < st.toks.length) κ.τ (st1.toks.take st.toks.length) st.low id
              (fun b cs hbl hbc t ht => by
                obtain ⟨cs0, c1, c2⟩ := htk.tk b cs (by omega) hbc
                have ht0 := c2 t ht
                simp only at c1
                have hlp : b < κ.φ.length := by rw [h0.bl]; exact hbl
                have hp : κ.φ[b]? = some κ.φ[b] := by simp [hlp]
                exact h0.box_toks c1 hp ht0)
              (fun t x hT hx => hτold t x hT hx) (fun _ _ h => h) (by rw [List.length_take, h0.tl]; omega)
              (fun i x hi hx => by
                rw [List.getElem?_take] at hi
                split at hi
                · exact ⟨hi, hle.τ _ _ hx⟩
                · cases hi)
              (fun i j _ _ h => h)
            obtain ⟨κ', q1, q2, q3, q4⟩ := frz_sim h1 hcut.2 (by show κ.φ.length ≤ b; rw [h0.bl]; exact hbn) (fun i x h => hle.φ i x h) rfl
              (fun i x hi hx => by
                rw [List.getElem?_take] at hi
                split at hi
                · exact ⟨hi, hle.τ _ _ hx⟩
                · cases hi) hr hl
            exact ⟨κ', hcut.1.trans q1, q2, q3, q4⟩
          · have hcut := h0.cut h1 hle hlam hfr htk.ln htk.lk htk.sz (T := fun _ => True) κ1.τ st1.toks (min st.low st1.low) id (fun _ _ _ _ _ _ => trivial) (fun t x _ hx => hx) hle.τ h1.tl (fun i x a b => ⟨a, b⟩) (fun i j _ _ h => h)
            obtain ⟨κ', q1, q2, q3, q4⟩ := frz_sim h1 hcut.2 (by show κ.φ.length ≤ b; rw [h0.bl]; exact hbn) (fun i x h => hle.φ i x h) rfl
              (fun i x hi hx => ⟨hi, hx⟩) hr hl
            exact ⟨κ', hcut.1.trans q1, q2, q3, q4⟩
        · cases hl
      · exact ⟨κ1, hle, hlam, h1.low _, hr⟩
    · exact ⟨κ1, hle, hlam, h1.low _, hr⟩

end Go.Ab
/-
  The simulation: what the evaluator answers, the machine comes to.
-/
namespace Go.Ab

variable {P : Program} {g : GMap} {base : Nat} {κ : K} {w : World} {st : St} {A : AP}

def Wide (F : Fence) : Prop := (F.depth = none ∧ F.alive = false) ∧ ∀ f, F.fn f

theorem Wide.room {F : Fence} (h : Wide F) (n : Nat) : F.room n := fun d hd => by rw [h.1.1] at hd; cases hd
theorem Wide.inRound {F : Fence} (h : Wide F) (l : Nat) : Wide (F.inRound l) := h
theorem Wide.deep {F : Fence} (h : Wide F) {n : Nat} : F.depth.isSome = true → 1 ≤ n := fun hd => by rw [h.1.1] at hd; cases hd

def exOf : Ex → Exit
  | .normal => .normal
  | .ret => .ret
  | .exit i => .exit i
  | .goto l => .goto l

def UpGood (P : Program) (g : GMap) (base : Nat) (κ : K) (w : World) (F : Fence) (r : Result Next) (v : PV) (st' : St) : Prop :=
  ∀ (nn : Nat) (o : Oper) (a : Act) (next : Act → World → Prop) (Q : Exit → Act → World → Prop),
    (∀ κ' z w', K.le κ κ' → κ'.lam = κ.lam → SR P g base κ' w' st' → R g κ' z v → Fr base κ.lam w w' → next (a.put o.dst z) w') → o.uponIn F nn P a next Q r

theorem OpGood.up {r : Result Next} {v : PV} {st' : St} (h : OpGood P g base κ w r v st') (F : Fence) : UpGood P g base κ w F r v st' := by
  obtain ⟨z, w', h1, κ', h2, h3, h4, h5, h6⟩ := h
  intro nn o a next Q hn
  rcases h1 with rfl | ⟨rfl, rfl⟩
  · exact hn κ' z w' h2 h3 h4 h5 h6
  · exact hn κ' undef w' h2 h3 h4 h5 h6

def PrimOK (P : Program) (g : GMap) (f' : FuncId) (p : List PV → Option PV) : Prop :=
  ∀ (base : Nat) (κ : K) (w : World) (st : St) (args : Array Value) (ps : List PV) (v : PV), SR P g base κ w st → args.size = ps.length → (∀ (i : Nat) (u : Value) (q : PV), args[i]? = some u → ps[i]? = some q → R g κ u q) →
    p ps = some v → ∀ F, Wide F → UpGood P g base κ w F ((callFunc f' args).run P w) v st

def PrimSOK (P : Program) (g : GMap) (f' : FuncId) (p : List PV → List (List PV) → Option (PV × Upd)) : Prop :=
  ∀ (base : Nat) (κ : K) (w : World) (st : St) (args : Array Value) (ps : List PV) (v : PV) (u : Upd) (st' : St), SR P g base κ w st → args.size = ps.length → (∀ (i : Nat) (u : Value) (q : PV), args[i]? = some u → ps[i]? = some q → R g κ u q) →
    p ps st.boxes = some (v, u) → updS st u = some st' → ∀ F, Wide F → UpGood P g base κ w F ((callFunc f' args).run P w) v st'

structure Linked (P : Program) (g : GMap) (A : AP) : Prop where
  code : ∀ (f' : FuncId) (f : Nat) (fn : ACFn), g f' = some f → A f = some (.code fn) → ∃ pf, P.funcs[f']? = some pf ∧ chkFn P g pf fn = true
  prim : ∀ (f' : FuncId) (f : Nat) (p : List PV → Option PV), g f' = some f → A f = some (.prim p) → PrimOK P g f' p
  primS : ∀ (f' : FuncId) (f : Nat) (p : List PV → List (List PV) → Option (PV × Upd)), g f' = some f → A f = some (.primS p) → PrimSOK P g f' p
  mixed : P.follows .mixedOrders = true

def RoundOK (F : Fence) (κ : K) : Prop := F.round = none ∨ ∃ (k l D : Nat), F.round = some l ∧ κ.lam[k]? = some (l, D)

def DefOK (B : Nat) (w : World) (ds : List Deferred) : Prop :=
  (∀ d ∈ ds, ∃ D, d = { target := .collected D, args := #[] } ∧ B ≤ D ∧ w.heap[D]? = some (.deferred (some []))) ∧ ds.Pairwise (fun d d' => d ≠ d')

theorem SR.loopAt (h : SR P g base κ w st) {l : Nat} (hl : l ∈ κ.lam.map (·.1)) : ∃ rec, w.heap[l]? = some (.loop rec) := by
  obtain ⟨⟨l', D⟩, hm, rfl⟩ := List.mem_map.1 hl
  obtain ⟨k, hk⟩ := List.getElem?_of_mem hm
  have hlt : k < st.loops.length := by rw [← h.ll]; exact (List.getElem?_eq_some_iff.1 hk).1
  obtain ⟨rec, nt, h1, _⟩ := (h.lp k l' D _ (by simp [hlt]; rfl) hk).ex
  exact ⟨rec, h1⟩

theorem DefOK.fr {B : Nat} {w w' : World} {ds : List Deferred} (hsr : SR P g base κ w st) (h : DefOK B w ds) (hf : Fr base κ.lam w w') : DefOK B w' ds :=
  ⟨fun d hd => by
    obtain ⟨D, h1, h2, h3⟩ := h.1 d hd
    refine ⟨D, h1, h2, hf.objs D _ h3 rfl fun hm => ?_⟩
    obtain ⟨rec, hr⟩ := hsr.loopAt hm
    rw [h3] at hr
    exact Obj.noConfusion (Option.some.inj hr), h.2⟩

theorem EnvR.put {nt d : Nat} {a : Act} {e : Env} {v : Value} {p : PV} (h : EnvR g κ nt a.tmps e) (hd : d < nt) (hr : R g κ v p) : EnvR g κ nt (a.put (some d) v).tmps (upd e d p) := by
  refine ⟨by simp [Act.put]; exact h.1, fun t => ?_⟩
  simp only [Act.put, upd]
  by_cases ht : t = d
  · subst ht
    rw [if_pos rfl]
    have : t < a.tmps.size := by have := h.1; omega
    simp [Array.getD, this]; exact hr
  · rw [if_neg ht]
    have h2 := h.2 t
    simp only [Array.getD_eq_getD_getElem?] at *
    rw [Array.getElem?_setIfInBounds_ne (Ne.symm ht)]
    exact h2

theorem EnvR.putO {nt : Nat} {dst : Option Nat} {a : Act} {e : Env} {v : Value} {p : PV} (h : EnvR g κ nt a.tmps e) (hd : (match dst with | some d => decide (d < nt) | none => true) = true) (hr : R g κ v p) :
    EnvR g κ nt (a.put dst v).tmps (updO e dst p) := by
  cases dst with
  | none => exact h
  | some d => exact h.put (by simpa using hd) hr

theorem put_defers (a : Act) (dst : Option Tmp) (v : Value) : (a.put dst v).defers = a.defers := by
  cases dst with
  | none => rfl
  | some d => rfl

theorem wanted_sim {nt : Nat} {ops : Array Oper} {o : Oper} {a : AOper} {act : Act} {e : Env} (h : EnvR g κ nt act.tmps e) (hc : chkGuard ops o.guard a.guard = true) : Region.wanted o (yielded ops act.tmps) = wantedA a.guard e := by
  unfold Region.wanted wantedA
  cases hg : o.guard with
  | none =>
    cases hg' : a.guard with
    | none => rfl
    | some q => rw [hg, hg'] at hc; simp [chkGuard] at hc
  | some q =>
    obtain ⟨j, want⟩ := q
    cases hg' : a.guard with
    | none => rw [hg, hg'] at hc; simp [chkGuard] at hc
    | some q' =>
      obtain ⟨d, want'⟩ := q'
      rw [hg, hg'] at hc
      simp only [chkGuard, Bool.and_eq_true, decide_eq_true_eq, beq_iff_eq] at hc
      obtain ⟨h1, rfl⟩ := hc
      simp only [yielded, h1, Option.bind_some]
      have hr := h.2 d
      by_cases hd : d < act.tmps.size
      · simp only [Array.getD, hd, dif_pos] at hr
        simp only [Array.getElem?_eq_getElem hd]
        have hr' : R g κ act.tmps[d] (e d) := hr
        generalize act.tmps[d] = v at hr'
        generalize e d = p at hr'
        cases hr' <;> simp
      · simp only [Array.getD, hd, dif_neg, not_false_eq_true] at hr
        rw [Array.getElem?_eq_none (by omega)]
        generalize e d = p at hr
        cases hr <;> simp

def SimV (P : Program) (g : GMap) (callV : PV → List PV → St → Option (PV × St)) : Prop :=
  ∀ (F : Fence), Wide F → ∀ (base : Nat) (κ : K) (w : World) (st : St) (fv : Value) (fp : PV) (args : Array Value) (ps : List PV) (v : PV) (st' : St), SR P g base κ w st → R g κ fv fp → args.size = ps.length →
    (∀ (i : Nat) (u : Value) (q : PV), args[i]? = some u → ps[i]? = some q → R g κ u q) → st.low ≤ st.boxes.length → callV fp ps st = some (v, st') →
    ∃ d, (∀ w1, (Deferred.ofValue fv args).run P w1 = .ok d w1) ∧ UpGood P g base κ w F ((invoke d.target d.args).run P w) v st'

theorem opAny_sim {cv : PV → List PV → St → Option (PV × St)} (hcv : SimV P g cv) {F : Fence} (hF : Wide F) {nt : Nat} {act : Act} {e : Env} (hsr : SR P g base κ w st) (hE : EnvR g κ nt act.tmps e) (hlow : st.low ≤ st.boxes.length) {o : Oper} {a : AOp} {v : PV} {st' : St}
    (hc : chkOp P g o.op a = true) (h : evOp cv a e st = some (v, st')) : UpGood P g base κ w F ((execOp act.eval o).run P w) v st' := by
  by_cases hcp : ∃ f' args', a = .callp f' args'
  · obtain ⟨f', args', rfl⟩ := hcp
    simp only [evOp, Option.map_eq_some_iff, Prod.mk.injEq] at h
    obtain ⟨v', hv', rfl, rfl⟩ := h
    obtain ⟨h1, h2, h3, s', h4⟩ := callp_some hv'
    cases ho : o.op <;> rw [ho] at hc <;> simp [chkOp] at hc
    rename_i c
    obtain ⟨callee, args, ats⟩ := c
    cases callee with
    | value f =>
      simp only [Bool.and_eq_true] at hc
      obtain ⟨c1, c2⟩ := chkOpds_R (opdR_of hsr.gv hE) _ _ hc.2
      obtain ⟨d, hd, hup⟩ := hcv F hF w.heap.size κ.bare w ⟨[], [], [], 0⟩ (act.eval f) (f'.ev e) (args.map act.eval) (args'.map fun x => x.ev e) v' s' hsr.bare ((opdR_of hsr.gv hE _ _ hc.1).fn0 h1) (by simpa using c1) (fun i u q a b => (c2 i u q (by simpa using a) b).scal (List.all_eq_true.1 h2 q (List.mem_of_getElem? b))) (Nat.le_refl _) h4
      have : (execOp act.eval o).run P w = (invoke d.target d.args).run P w := by
        simp only [execOp, ho, resolve, Sem.run_bind, hd, Result.andThen_ok]
      rw [this]
      intro nn o a next Q hn
      exact hup nn o a next Q fun κ' z w' k1 k2 k3 k4 k5 => hn κ z w' (K.le.refl κ) rfl (hsr.below k5.below) (k4.scal h3) (fr_below hsr.hb k5.below)
    | builtin b =>
      simp only at hc
      cases b <;> simp [chkBuiltin] at hc
    | invoke r n => simp at hc
  by_cases hcall : isCall a = true
  · obtain ⟨f', args', ha⟩ : ∃ f' args', (a = .call f' args' ∨ a = .callk f' args') := by
      cases a <;> simp [isCall] at hcall
      · exact ⟨_, _, .inl rfl⟩
      · exact ⟨_, _, .inr rfl⟩
      · exact absurd ⟨_, _, rfl⟩ hcp
    have h' : cv (f'.ev e) (args'.map (·.ev e)) st = some (v, st') := by
      rcases ha with rfl | rfl
      · simpa only [evOp] using h
      · simp only [evOp] at h; exact (keepB_some h).1
    have hc' : chkOp P g o.op (.call f' args') = true := by
      rcases ha with rfl | rfl
      · exact hc
      · cases ho : o.op <;> rw [ho] at hc <;> simp [chkOp] at hc ⊢
        rename_i c
        cases hcl : c.callee with
        | value f => rw [hcl] at hc; simpa using hc
        | builtin b => rw [hcl] at hc; cases b <;> simp [chkBuiltin] at hc
        | invoke r n => rw [hcl] at hc; simp at hc
    clear h hc ha
    rename_i _
    have h := h'
    have hc := hc'
    cases ho : o.op <;> rw [ho] at hc <;> simp [chkOp] at hc
    rename_i c
    obtain ⟨callee, args, ats⟩ := c
    cases callee with
    | value f =>
      simp only [Bool.and_eq_true] at hc
      obtain ⟨c1, c2⟩ := chkOpds_R (opdR_of hsr.gv hE) _ _ hc.2
      obtain ⟨d, hd, hup⟩ := hcv F hF base κ w st (act.eval f) (f'.ev e) (args.map act.eval) (args'.map fun x => x.ev e) v st' hsr (opdR_of hsr.gv hE _ _ hc.1) (by simpa using c1) (fun i u q a b => c2 i u q (by simpa using a) b) hlow h
      have : (execOp act.eval o).run P w = (invoke d.target d.args).run P w := by
        simp only [execOp, ho, resolve, Sem.run_bind, hd, Result.andThen_ok]
      rw [this]; exact hup
    | builtin b =>
      simp only at hc
      cases b <;> simp [chkBuiltin] at hc
    | invoke r n => simp at hc
  · exact (op_sim hsr (opdR_of hsr.gv hE) hc (by simpa using hcall) h).up F

theorem chkOp_defer {op : Op} {a : AOp} (h : chkOp P g op a = true) : ∀ c, op ≠ .defer c := by
  rintro c rfl; simp [chkOp] at h

def evIdx (callV : PV → List PV → St → Option (PV × St)) (as : List AOper) : List Nat → Env → St → Option (Env × St)
  | [], e, st => some (e, st)
  | i :: r, e, st => match as[i]? with
    | none => evIdx callV as r e st
    | some o =>
      if wantedA o.guard e then
        match evOp callV o.op e st with
        | some (v, st') => evIdx callV as r (updO e o.dst v) st'
        | none => none
      else evIdx callV as r (updO e o.dst .undef) st

theorem evIdx_drop (callV : PV → List PV → St → Option (PV × St)) (as : List AOper) : ∀ (n k : Nat) (e : Env) (st : St), k + n = as.length → evIdx callV as (List.range' k n) e st = evOps callV (as.drop k) e st := by
  intro n
  induction n with
  | zero =>
    intro k e st h
    rw [List.drop_of_length_le (by omega)]; rfl
  | succ n ih =>
    intro k e st h
    have hk : k < as.length := by omega
    rw [List.drop_eq_getElem_cons hk, List.range'_succ]
    simp only [evIdx, evOps, List.getElem?_eq_getElem hk]
    split
    · cases hev : evOp callV as[k].op e st with
      | none => rfl
      | some q => exact ih (k + 1) _ _ (by omega)
    · exact ih (k + 1) _ _ (by omega)

theorem evIdx_range (callV : PV → List PV → St → Option (PV × St)) (as : List AOper) (e : Env) (st : St) : evIdx callV as (List.range as.length) e st = evOps callV as e st := by
  rw [List.range_eq_range', evIdx_drop callV as as.length 0 e st (by omega)]; rfl

theorem chkOpers_get {nt : Nat} {ops : Array Oper} : ∀ {os : List Oper} {as : List AOper}, chkOpers P g nt ops os as = true → os.length = as.length ∧ ∀ (i : Nat) (o : Oper) (a : AOper), os[i]? = some o → as[i]? = some a → chkOper P g nt ops o a = true := by
  intro os
  induction os with
  | nil => intro as h; cases as with
    | nil => exact ⟨rfl, fun i o a h => by simp at h⟩
    | cons => simp [chkOpers] at h
  | cons o os ih =>
    intro as h
    cases as with
    | nil => simp [chkOpers] at h
    | cons a as =>
      simp only [chkOpers, Bool.and_eq_true] at h
      obtain ⟨h1, h2⟩ := ih h.2
      refine ⟨by simp [h1], fun i o' a' ho ha => ?_⟩
      cases i with
      | zero => simp at ho ha; subst ho ha; exact h.1
      | succ i => simp at ho ha; exact h2 i o' a' ho ha

theorem idx_ops_sim {cv : PV → List PV → St → Option (PV × St)} (hcv : SimV P g cv) (htk : ∀ f args st v st', cv f args st = some (v, st') → st.low ≤ st.boxes.length → TK st st') {F : Fence} (hF : Wide F) {nt nn B : Nat} {ops : Array Oper} {as : List AOper} (hc : chkOpers P g nt ops ops.toList as = true) :
    ∀ (L : List Nat) (κ : K) (w : World) (st : St) (a : Act) (e e' : Env) (st' : St) (Q : Exit → Act → World → Prop), SR P g base κ w st → EnvR g κ nt a.tmps e → st.low ≤ st.boxes.length → evIdx cv as L e st = some (e', st') →
      (∀ κ' a' w', K.le κ κ' → κ'.lam = κ.lam → SR P g base κ' w' st' → EnvR g κ' nt a'.tmps e' → a'.defers = a.defers → Fr base κ.lam w w' → Q .normal a' w') → wpOpsIn F nn P ops Q L a w := by
  obtain ⟨hlen, hget⟩ := chkOpers_get hc
  intro L
  induction L with
  | nil =>
    intro κ w st a e e' st' Q hsr hE hlow h hQ
    simp [evIdx] at h
    obtain ⟨rfl, rfl⟩ := h
    exact hQ κ a w (K.le.refl κ) rfl hsr hE rfl (Fr.refl _ _)
  | cons i L ih =>
    intro κ w st a e e' st' Q hsr hE hlow h hQ
    simp only [wpOpsIn]
    simp only [evIdx] at h
    cases ho : ops[i]? with
    | none =>
      have ha : as[i]? = none := by
        rw [List.getElem?_eq_none_iff, ← hlen]
        simpa using ho
      rw [ha] at h
      exact ih κ w st a e e' st' Q hsr hE hlow h hQ
    | some o =>
      have hil : i < as.length := by rw [← hlen]; simpa using (Array.getElem?_eq_some_iff.1 ho).1
      have hai : as[i]? = some as[i] := by simp [hil]
      rw [hai] at h
      simp only at h
      have hco := hget i o as[i] (by simpa using ho) hai
      simp only [chkOper, Bool.and_eq_true, decide_eq_true_eq] at hco
      obtain ⟨⟨⟨hdst, hdlt⟩, hgd⟩, hop⟩ := hco
      simp only [wanted_sim hE hgd]
      split
      · rename_i hw
        rw [if_pos hw] at h
        split at h
        · rename_i v st1 hev
          refine ⟨fun f _ => hF.2 f, ?_⟩
          rw [Oper.semAt_eq _ _ _ (chkOp_defer hop)]
          have hup := opAny_sim hcv hF hsr hE hlow hop hev
          refine hup nn o a _ Q (fun κ1 z w1 h1 h2 h3 h4 h5 => ?_)
          rw [hdst]
          refine ih κ1 w1 st1 _ _ e' st' Q h3 ((hE.mono h1).putO hdlt h4) (evOp_TK htk hev hlow).lw h (fun κ2 a2 w2 b1 b2 b3 b4 b5 b6 => ?_)
          exact hQ κ2 a2 w2 (h1.trans b1) (b2.trans h2) b3 b4 (b5.trans (put_defers _ _ _)) (h5.trans (by rw [h2] at b6; exact b6))
        · cases h
      · rename_i hw
        rw [if_neg hw] at h
        refine ⟨fun f _ => hF.2 f, ?_⟩
        rw [hdst]
        refine ih κ w st _ _ e' st' Q hsr (hE.putO hdlt .undef) hlow h (fun κ2 a2 w2 b1 b2 b3 b4 b5 b6 => ?_)
        exact hQ κ2 a2 w2 b1 b2 b3 b4 (b5.trans (put_defers _ _ _)) b6

end Go.Ab
/-
  Regions that draw their order: the lexical order stands for all.
-/
namespace Go.Ab

variable {P : Program} {g : GMap} {base : Nat} {κ : K} {w : World} {st : St}

theorem updO_ne {e : Env} {d : Option Nat} {v : PV} {t : Nat} (h : ∀ x, d = some x → t ≠ x) : updO e d v t = e t := by
  cases d with
  | none => rfl
  | some x => simp [updO, upd, h x rfl]

theorem updO_comm {e : Env} {d d' : Option Nat} {v v' : PV} (h : ∀ x, d = some x → d' ≠ some x) : updO (updO e d v) d' v' = updO (updO e d' v') d v := by
  cases d with
  | none => rfl
  | some x => cases d' with
    | none => rfl
    | some y =>
      have hne : x ≠ y := fun hxy => h x rfl (by rw [hxy])
      funext t
      simp only [updO, upd]
      by_cases h1 : t = y <;> by_cases h2 : t = x <;> simp_all

theorem ev_congr {e e' : Env} {x : Opd} (h : ∀ t ∈ x.tmps, e t = e' t) : x.ev e = x.ev e' := by
  cases x with
  | tmp t => exact h t (by simp [Opd.tmps])
  | const v => rfl
  | fn f => rfl

theorem ev_map_congr {e e' : Env} {xs : List Opd} (h : ∀ t ∈ tmpsOf xs, e t = e' t) : xs.map (·.ev e) = xs.map (·.ev e') := by
  apply List.map_congr_left
  intro x hx
  exact ev_congr fun t ht => h t (List.mem_flatMap.2 ⟨x, hx, ht⟩)

theorem evOp_congr {cv : PV → List PV → St → Option (PV × St)} {op : AOp} {e e' : Env} {st : St} (h : ∀ t ∈ op.tmps, e t = e' t) : evOp cv op e st = evOp cv op e' st := by
  cases op <;> simp only [AOp.tmps] at h
  case pick c a b =>
    have h1 := ev_congr (x := c) fun t ht => h t (by simp [tmpsOf, ht])
    have h2 := ev_congr (x := a) fun t ht => h t (by simp [tmpsOf, ht])
    have h3 := ev_congr (x := b) fun t ht => h t (by simp [tmpsOf, ht])
    simp only [evOp, h1, h2, h3]
  case build z ps =>
    have : (ps.map fun q => (q.1, q.2.1, q.2.2.ev e)) = (ps.map fun q => (q.1, q.2.1, q.2.2.ev e')) := List.map_congr_left fun q hq => by
      rw [ev_congr fun t ht => h t (List.mem_flatMap.2 ⟨q.2.2, List.mem_map.2 ⟨q, hq, rfl⟩, ht⟩)]
    simp only [evOp, this]
  case lit8 n ps =>
    have : (ps.map fun q => (q.1, q.2.ev e)) = (ps.map fun q => (q.1, q.2.ev e')) := List.map_congr_left fun q hq => by
      rw [ev_congr fun t ht => h t (List.mem_flatMap.2 ⟨q.2, List.mem_map.2 ⟨q, hq, rfl⟩, ht⟩)]
    simp only [evOp, this]
  case lit8c n ps =>
    have : (ps.map fun q => (q.1, q.2.ev e)) = (ps.map fun q => (q.1, q.2.ev e')) := List.map_congr_left fun q hq => by
      rw [ev_congr fun t ht => h t (List.mem_flatMap.2 ⟨q.2, List.mem_map.2 ⟨q, hq, rfl⟩, ht⟩)]
    simp only [evOp, this]
  case callp f xs =>
    have h1 := ev_congr (x := f) fun t ht => h t (by simp [tmpsOf, ht])
    have h2 := ev_map_congr (xs := xs) fun t ht => h t (by
      simp only [tmpsOf, List.flatMap_cons, List.mem_append] at *; exact .inr ht)
    simp only [evOp, h1, h2]
  case callk f xs =>
    have h1 := ev_congr (x := f) fun t ht => h t (by simp [tmpsOf, ht])
    have h2 := ev_map_congr (xs := xs) fun t ht => h t (by
      simp only [tmpsOf, List.flatMap_cons, List.mem_append] at *; exact .inr ht)
    simp only [evOp, h1, h2]
  case litc z zz n ps =>
    have : (ps.map fun q => (q.1, q.2.ev e)) = (ps.map fun q => (q.1, q.2.ev e')) := List.map_congr_left fun q hq => by
      rw [ev_congr fun t ht => h t (List.mem_flatMap.2 ⟨q.2, List.mem_map.2 ⟨q, hq, rfl⟩, ht⟩)]
    simp only [evOp, this]
  case mkmap => rfl
  case mget a b =>
    have h1 := ev_congr (x := a) fun t ht => h t (by simp [tmpsOf, ht])
    have h2 := ev_congr (x := b) fun t ht => h t (by simp [tmpsOf, ht])
    simp only [evOp, h1, h2]
  case mput a b c =>
    have h1 := ev_congr (x := a) fun t ht => h t (by simp [tmpsOf, ht])
    have h2 := ev_congr (x := b) fun t ht => h t (by simp [tmpsOf, ht])
    have h3 := ev_congr (x := c) fun t ht => h t (by simp [tmpsOf, ht])
    simp only [evOp, h1, h2, h3]
  case lit z zz n ps =>
    have : (ps.map fun q => (q.1, q.2.ev e)) = (ps.map fun q => (q.1, q.2.ev e')) := List.map_congr_left fun q hq => by
      rw [ev_congr fun t ht => h t (List.mem_flatMap.2 ⟨q.2, List.mem_map.2 ⟨q, hq, rfl⟩, ht⟩)]
    simp only [evOp, this]
  case mkfn f cs => simp only [evOp, ev_map_congr h]
  case mnmx b xs => simp only [evOp, ev_map_congr h]
  case slc esz x lo hi mx =>
    have h1 := ev_congr (x := x) fun t ht => h t (by simp [tmpsOf, ht])
    have h2 : lo.map (·.ev e) = lo.map (·.ev e') := by
      cases lo with
      | none => rfl
      | some y => simp only [Option.map_some]; rw [ev_congr fun t ht => h t (by simp [tmpsOf, ht])]
    have h3 : hi.map (·.ev e) = hi.map (·.ev e') := by
      cases hi with
      | none => rfl
      | some y => simp only [Option.map_some]; rw [ev_congr fun t ht => h t (by simp [tmpsOf, ht])]
    have h4 : mx.map (·.ev e) = mx.map (·.ev e') := by
      cases mx with
      | none => rfl
      | some y => simp only [Option.map_some]; rw [ev_congr fun t ht => h t (by simp [tmpsOf, ht])]
    simp only [evOp, h1, h2, h3, h4]
  case slcA len esz x lo hi mx =>
    have h1 := ev_congr (x := x) fun t ht => h t (by simp [tmpsOf, ht])
    have h2 : lo.map (·.ev e) = lo.map (·.ev e') := by
      cases lo with
      | none => rfl
      | some y => simp only [Option.map_some]; rw [ev_congr fun t ht => h t (by simp [tmpsOf, ht])]
    have h3 : hi.map (·.ev e) = hi.map (·.ev e') := by
      cases hi with
      | none => rfl
      | some y => simp only [Option.map_some]; rw [ev_congr fun t ht => h t (by simp [tmpsOf, ht])]
    have h4 : mx.map (·.ev e) = mx.map (·.ev e') := by
      cases mx with
      | none => rfl
      | some y => simp only [Option.map_some]; rw [ev_congr fun t ht => h t (by simp [tmpsOf, ht])]
    simp only [evOp, h1, h2, h3, h4]
  case slcT a x => simp only [evOp, ev_congr (x := a) fun t ht => h t (by simp [tmpsOf, ht]), ev_congr (x := x) fun t ht => h t (by simp [tmpsOf, ht])]
  case copy a x => simp only [evOp, ev_congr (x := a) fun t ht => h t (by simp [tmpsOf, ht]), ev_congr (x := x) fun t ht => h t (by simp [tmpsOf, ht])]
  case call f xs =>
    have h1 := ev_congr (x := f) fun t ht => h t (by simp [tmpsOf, ht])
    have h2 := ev_map_congr (xs := xs) fun t ht => h t (by
      simp only [tmpsOf, List.flatMap_cons, List.mem_append] at *; exact .inr ht)
    simp only [evOp, h1, h2]
  case store sz a x => simp only [evOp, ev_congr (x := a) fun t ht => h t (by simp [tmpsOf, ht]), ev_congr (x := x) fun t ht => h t (by simp [tmpsOf, ht])]
  case storek sz a x => simp only [evOp, ev_congr (x := a) fun t ht => h t (by simp [tmpsOf, ht]), ev_congr (x := x) fun t ht => h t (by simp [tmpsOf, ht])]
  case bin op ek a x => simp only [evOp, ev_congr (x := a) fun t ht => h t (by simp [tmpsOf, ht]), ev_congr (x := x) fun t ht => h t (by simp [tmpsOf, ht])]
  case mk8 mu a x => simp only [evOp, ev_congr (x := a) fun t ht => h t (by simp [tmpsOf, ht]), ev_congr (x := x) fun t ht => h t (by simp [tmpsOf, ht])]
  case mkms z a x => simp only [evOp, ev_congr (x := a) fun t ht => h t (by simp [tmpsOf, ht]), ev_congr (x := x) fun t ht => h t (by simp [tmpsOf, ht])]
  case iaddr z a x => simp only [evOp, ev_congr (x := a) fun t ht => h t (by simp [tmpsOf, ht]), ev_congr (x := x) fun t ht => h t (by simp [tmpsOf, ht])]
  case iaddrA l z a x => simp only [evOp, ev_congr (x := a) fun t ht => h t (by simp [tmpsOf, ht]), ev_congr (x := x) fun t ht => h t (by simp [tmpsOf, ht])]
  case idx l b z a x => simp only [evOp, ev_congr (x := a) fun t ht => h t (by simp [tmpsOf, ht]), ev_congr (x := x) fun t ht => h t (by simp [tmpsOf, ht])]
  case idxS a x => simp only [evOp, ev_congr (x := a) fun t ht => h t (by simp [tmpsOf, ht]), ev_congr (x := x) fun t ht => h t (by simp [tmpsOf, ht])]
  case app u z a x => simp only [evOp, ev_congr (x := a) fun t ht => h t (by simp [tmpsOf, ht]), ev_congr (x := x) fun t ht => h t (by simp [tmpsOf, ht])]
  case alloc => rfl
  all_goals simp only [evOp, ev_congr h]

theorem evOp_pure {cv : PV → List PV → St → Option (PV × St)} {op : AOp} (h : op.cls = .pure) (e : Env) : ∃ o : Option PV, ∀ st, evOp cv op e st = o.map fun v => (v, st) := by
  cases op <;> simp [AOp.cls] at h
  case mov x => exact ⟨some (x.ev e), fun st => rfl⟩
  case pick c a b =>
    simp only [evOp]
    cases c.ev e <;> first | exact ⟨none, fun st => rfl⟩ | exact ⟨some _, fun st => rfl⟩
  case build z ps => exact ⟨_, fun st => rfl⟩
  case nilck x => exact ⟨_, fun st => rfl⟩
  case bin => exact ⟨_, fun st => rfl⟩
  case un => exact ⟨_, fun st => rfl⟩
  case cInt => exact ⟨_, fun st => rfl⟩
  case cB2S mu x =>
    refine ⟨(b2s false ⟨[], [], [], 0⟩ (x.ev e)).map .str, fun st => ?_⟩
    simp only [evOp]
    have : b2s mu st (x.ev e) = b2s false ⟨[], [], [], 0⟩ (x.ev e) := by
      cases mu
      · cases x.ev e <;> rfl
      · simp at h
    rw [this]
  case cStr x =>
    simp only [evOp]
    cases x.ev e <;> first | exact ⟨none, fun st => rfl⟩ | exact ⟨some _, fun st => rfl⟩
  case mkfn f cs =>
    simp only [evOp]
    split
    · exact ⟨some _, fun st => rfl⟩
    · exact ⟨none, fun st => rfl⟩
  case slc => exact ⟨_, fun st => rfl⟩
  case slcA => exact ⟨_, fun st => rfl⟩
  case slcT => exact ⟨_, fun st => rfl⟩
  case faddr => exact ⟨_, fun st => rfl⟩
  case fld => exact ⟨_, fun st => rfl⟩
  case iaddr => exact ⟨_, fun st => rfl⟩
  case iaddrA => exact ⟨_, fun st => rfl⟩
  case idx => exact ⟨_, fun st => rfl⟩
  case idxS => exact ⟨_, fun st => rfl⟩
  case ext => exact ⟨_, fun st => rfl⟩
  case len => exact ⟨_, fun st => rfl⟩
  case mnmx => exact ⟨_, fun st => rfl⟩
  case loadc => exact ⟨_, fun st => rfl⟩
  case boxc => exact ⟨_, fun st => rfl⟩
  case lit8c => exact ⟨_, fun st => rfl⟩
  case litc => exact ⟨_, fun st => rfl⟩
  case callp => exact ⟨_, fun st => rfl⟩

theorem evOp_read {cv : PV → List PV → St → Option (PV × St)} {op : AOp} (h : op.cls = .read) {e : Env} {st st' : St} {v : PV} (hv : evOp cv op e st = some (v, st')) : st' = st := by
  cases op <;> simp [AOp.cls] at h
  case load =>
    simp only [evOp, Option.map_eq_some_iff] at hv
    obtain ⟨_, _, hv⟩ := hv; cases hv; rfl
  case mget =>
    simp only [evOp, Option.map_eq_some_iff] at hv
    obtain ⟨_, _, hv⟩ := hv; cases hv; rfl
  case cB2S =>
    simp only [evOp, Option.map_eq_some_iff] at hv
    obtain ⟨_, _, hv⟩ := hv; cases hv; rfl

theorem evOp_look {cv : PV → List PV → St → Option (PV × St)} {op : AOp} (h : op.cls = .read) {e : Env} {st st' : St} {v : PV} (hb : st'.boxes = st.boxes) (hv : evOp cv op e st = some (v, st)) : evOp cv op e st' = some (v, st') := by
  cases op <;> simp [AOp.cls] at h
  case load ag sz a =>
    simp only [evOp, Option.map_eq_some_iff] at hv ⊢
    obtain ⟨v', hv', he⟩ := hv; cases he
    refine ⟨v, ?_, rfl⟩
    rw [← hv']
    unfold loadPV
    rw [hb]
  case mget x k =>
    simp only [evOp, Option.map_eq_some_iff] at hv ⊢
    obtain ⟨v', hv', he⟩ := hv; cases he
    refine ⟨v, ?_, rfl⟩
    rw [← hv']
    unfold mgetPV
    rw [hb]
  case cB2S mu x =>
    have this : b2s mu st' (x.ev e) = b2s mu st (x.ev e) := by
      unfold b2s src8
      rw [hb]
    simp only [evOp] at hv ⊢
    rw [this]
    cases hx : b2s mu st (x.ev e) with
    | none => simp [hx] at hv
    | some y => simp [hx] at hv ⊢; exact hv
theorem evOp_tok {cv : PV → List PV → St → Option (PV × St)} {op : AOp} (h : op.cls = .tok) {e : Env} {st st' : St} {v : PV} (hv : evOp cv op e st = some (v, st')) : st'.boxes = st.boxes := by
  cases op <;> simp [AOp.cls] at h
  case lit8 =>
    simp only [evOp] at hv
    split at hv
    · cases hv; rfl
    · cases hv
  case lit =>
    simp only [evOp] at hv
    split at hv
    · cases hv; rfl
    · cases hv
  case callk => simp only [evOp] at hv; exact (keepB_some hv).2
  case storek => simp only [evOp] at hv; exact (keepB_some hv).2
  case cB2S mu x => cases mu <;> simp at h

theorem evOp_grow {cv : PV → List PV → St → Option (PV × St)} {op : AOp} (h : op.cls = .grow) {e : Env} {st st' : St} {v : PV} (hv : evOp cv op e st = some (v, st')) : ∃ z, st'.boxes = st.boxes ++ [z] := by
  cases op <;> simp [AOp.cls] at h
  case alloc =>
    simp only [evOp, Option.some.injEq] at hv
    cases hv; exact ⟨_, rfl⟩
  case box =>
    simp only [evOp] at hv
    split at hv
    · simp only [Option.some.injEq] at hv
      cases hv; exact ⟨_, rfl⟩
    · cases hv
  case cB2S mu x => cases mu <;> simp at h
theorem evOp_lookG {cv : PV → List PV → St → Option (PV × St)} {op : AOp} (h : op.cls = .read) {e : Env} {st st' : St} {z : List PV} {v : PV} (hb : st'.boxes = st.boxes ++ [z]) (hv : evOp cv op e st = some (v, st)) : evOp cv op e st' = some (v, st') := by
  have hg : ∀ {b : Nat} {cs : List PV}, st.boxes[b]? = some cs → st'.boxes[b]? = some cs := fun {b cs} hx => by
    rw [hb, List.getElem?_append_left (List.getElem?_eq_some_iff.1 hx).1]; exact hx
  cases op <;> simp [AOp.cls] at h
  case load ag sz a =>
    simp only [evOp, Option.map_eq_some_iff] at hv ⊢
    obtain ⟨v', hv', he⟩ := hv; cases he
    refine ⟨v, ?_, rfl⟩
    unfold loadPV at hv' ⊢
    split at hv'
    · exact hv'
    · rename_i b off hx
      cases hc : st.boxes[b]? with
      | none => simp [hc] at hv'
      | some cs => simp only [hc] at hv'; simp only [hg hc]; exact hv'
    · cases hv'
  case mget x k =>
    simp only [evOp, Option.map_eq_some_iff] at hv ⊢
    obtain ⟨v', hv', he⟩ := hv; cases he
    refine ⟨v, ?_, rfl⟩
    unfold mgetPV at hv' ⊢
    split at hv'
    · rename_i b k' hx hk
      cases hc : st.boxes[b]? with
      | none => simp [hc] at hv'
      | some cs => simp only [hc] at hv'; simp only [hg hc]; exact hv'
    · cases hv'
  case cB2S mu x =>
    simp only [evOp, Option.map_eq_some_iff] at hv ⊢
    obtain ⟨v', hv', he⟩ := hv; cases he
    refine ⟨v, ?_, rfl⟩
    obtain ⟨l, hl, rfl⟩ := hv'
    refine ⟨l, ?_, rfl⟩
    subst h
    unfold b2s at hl ⊢
    split at hl
    · exact hl
    · exact hl
    · rename_i b off n hx
      simp only [if_true, src8] at hl ⊢
      cases hc : st.boxes[b]? with
      | none => simp [hc] at hl
      | some cs => simp only [hc] at hl; simp only [hg hc]; exact hl
    · cases hl

def stepA (cv : PV → List PV → St → Option (PV × St)) (o : AOper) (e : Env) (st : St) : Option (PV × St) :=
  if wantedA o.guard e then evOp cv o.op e st else some (.undef, st)

theorem evIdx_step {cv : PV → List PV → St → Option (PV × St)} {as : List AOper} {i : Nat} {o : AOper} (hi : as[i]? = some o) (L : List Nat) (e : Env) (st : St) :
    evIdx cv as (i :: L) e st = (match stepA cv o e st with | some (v, st') => evIdx cv as L (updO e o.dst v) st' | none => none) := by
  simp only [evIdx, hi, stepA]
  split <;> rfl

theorem wantedA_congr {g : Option (Nat × Bool)} {e e' : Env} (h : ∀ d b, g = some (d, b) → e d = e' d) : wantedA g e = wantedA g e' := by
  cases g with
  | none => rfl
  | some q => obtain ⟨d, b⟩ := q; simp only [wantedA, h d b rfl]

theorem stepA_congr {cv : PV → List PV → St → Option (PV × St)} {o : AOper} {e e' : Env} {st : St} (h : ∀ t ∈ o.looks, e t = e' t) : stepA cv o e st = stepA cv o e' st := by
  have h1 : wantedA o.guard e = wantedA o.guard e' := wantedA_congr fun d b hg => h d (by simp [AOper.looks, hg])
  have h2 : evOp cv o.op e st = evOp cv o.op e' st := evOp_congr fun t ht => h t (by simp [AOper.looks, ht])
  simp only [stepA, h1, h2]

theorem swap {cv : PV → List PV → St → Option (PV × St)} {as : List AOper} {i j : Nat} {a b : AOper} (hi : as[i]? = some a) (hj : as[j]? = some b) (hf : free a b = true) {L : List Nat} {e : Env} {st : St} {r : Env × St}
    (h : evIdx cv as (i :: j :: L) e st = some r) : evIdx cv as (j :: i :: L) e st = some r := by
  simp only [free, Bool.and_eq_true] at hf
  obtain ⟨⟨hcls, hd1⟩, hd2⟩ := hf
  have ha : ∀ x, a.dst = some x → x ∉ b.looks ∧ b.dst ≠ some x := fun x hx => by
    rw [hx] at hd1
    simp only [Bool.and_eq_true, Bool.not_eq_true', List.contains_eq_mem, decide_eq_false_iff_not, beq_eq_false_iff_ne] at hd1
    exact hd1
  have hb : ∀ x, b.dst = some x → x ∉ a.looks := fun x hx => by
    rw [hx] at hd2
    simpa using hd2
  rw [evIdx_step hi] at h
  cases hsa : stepA cv a e st with
  | none => simp [hsa] at h
  | some q =>
    obtain ⟨va, st1⟩ := q
    simp only [hsa] at h
    rw [evIdx_step hj] at h
    have hcb : ∀ s, stepA cv b (updO e a.dst va) s = stepA cv b e s := fun s => stepA_congr fun t ht => updO_ne fun x hx => by
      rintro rfl; exact (ha _ hx).1 ht
    rw [hcb] at h
    cases hsb : stepA cv b e st1 with
    | none => simp [hsb] at h
    | some q =>
      obtain ⟨vb, st2⟩ := q
      simp only [hsb] at h
      have hca : ∀ s, stepA cv a (updO e b.dst vb) s = stepA cv a e s := fun s => stepA_congr fun t ht => updO_ne fun x hx => by
        rintro rfl; exact hb _ hx ht
      have key : ∃ sm, stepA cv b e st = some (vb, sm) ∧ stepA cv a e sm = some (va, st2) := by
        -- an operation that is passed over or pure
        have quiet : ∀ (o : AOper), (o.op.cls = .pure ∨ wantedA o.guard e = false) → ∃ z : Option PV, ∀ s, stepA cv o e s = z.map fun v => (v, s) := fun o ho => by
          simp only [stepA]
          by_cases hw : wantedA o.guard e = true
          · simp only [hw, if_true]
            rcases ho with ho | ho
            · exact evOp_pure ho e
            · rw [hw] at ho; cases ho
          · simp only [hw]; exact ⟨some .undef, fun s => rfl⟩
        by_cases hqa : a.op.cls = .pure ∨ wantedA a.guard e = false
        · obtain ⟨z, hz⟩ := quiet a hqa
          rw [hz] at hsa
          cases z with
          | none => simp at hsa
          | some v =>
            simp at hsa
            obtain ⟨rfl, rfl⟩ := hsa
            exact ⟨st2, hsb, by rw [hz]; rfl⟩
        · by_cases hqb : b.op.cls = .pure ∨ wantedA b.guard e = false
          · obtain ⟨z, hz⟩ := quiet b hqb
            rw [hz] at hsb
            cases z with
            | none => simp at hsb
            | some v =>
              simp at hsb
              obtain ⟨rfl, rfl⟩ := hsb
              exact ⟨st, by rw [hz]; rfl, hsa⟩
          · -- both read
            have hwa : wantedA a.guard e = true := by
              cases hx : wantedA a.guard e with
              | true => rfl
              | false => exact absurd (.inr hx) hqa
            have hwb : wantedA b.guard e = true := by
              cases hx : wantedA b.guard e with
              | true => rfl
              | false => exact absurd (.inr hx) hqb
            simp only [stepA, hwa, hwb, if_true] at hsa hsb ⊢
            have hab : (a.op.cls = .read ∧ b.op.cls = .read) ∨ (a.op.cls = .read ∧ b.op.cls = .tok) ∨ (a.op.cls = .tok ∧ b.op.cls = .read) ∨ (a.op.cls = .read ∧ b.op.cls = .grow) := by
              revert hcls
              cases hca : a.op.cls with
              | pure => exact absurd (.inl hca) hqa
              | _ => cases hcb : b.op.cls with
                | pure => exact absurd (.inl hcb) hqb
                | _ => simp [clsOk]
            rcases hab with ⟨hra, hrb⟩ | ⟨hra, hrb⟩ | ⟨hra, hrb⟩ | ⟨hra, hrb⟩
            · have e1 : st1 = st := evOp_read hra hsa
              subst e1
              have e2 : st2 = st1 := evOp_read hrb hsb
              subst e2
              exact ⟨st2, hsb, hsa⟩
            · have e1 : st1 = st := evOp_read hra hsa
              subst e1
              exact ⟨st2, hsb, evOp_look hra (evOp_tok hrb hsb) hsa⟩
            · have e2 : st2 = st1 := evOp_read hrb hsb
              subst e2
              exact ⟨st, evOp_look hrb (evOp_tok hra hsa).symm hsb, hsa⟩
            · have e1 : st1 = st := evOp_read hra hsa
              subst e1
              obtain ⟨z, hz⟩ := evOp_grow hrb hsb
              exact ⟨st2, hsb, evOp_lookG hra hz hsa⟩
      obtain ⟨sm, k1, k2⟩ := key
      rw [evIdx_step hj, k1]
      simp only
      rw [evIdx_step hi, hca, k2]
      simp only
      rw [updO_comm (fun x hx => by
        intro hax
        exact (ha x hax).2 hx)]
      exact h

theorem bubble {cv : PV → List PV → St → Option (PV × St)} {as : List AOper} {i : Nat} {a : AOper} (hi : as[i]? = some a) : ∀ (L1 L2 : List Nat) (e : Env) (st : St) (r : Env × St), (∀ j ∈ L1, ∃ b, as[j]? = some b ∧ free b a = true) →
    evIdx cv as (L1 ++ i :: L2) e st = some r → evIdx cv as (i :: (L1 ++ L2)) e st = some r := by
  intro L1
  induction L1 with
  | nil => intro L2 e st r _ h; exact h
  | cons j L1 ih =>
    intro L2 e st r hL h
    obtain ⟨b, hj, hf⟩ := hL j (by simp)
    simp only [List.cons_append] at *
    refine swap hj hi hf ?_
    rw [evIdx_step hj] at h ⊢
    cases hs : stepA cv b e st with
    | none => simp [hs] at h
    | some q =>
      simp only [hs] at h ⊢
      exact ih L2 _ _ r (fun k hk => hL k (by simp [hk])) h

def rem (n : Nat) (listed : Array Bool) : List Nat := (List.range n).filter fun i => !listed.getD i true

theorem rem_split {n i : Nat} {listed : Array Bool} (hi : i < n) (hl : listed.getD i true = false) :
    ∃ L1 L2, rem n listed = L1 ++ i :: L2 ∧ rem n (listed.setIfInBounds i true) = L1 ++ L2 ∧ ∀ j ∈ L1, j < i ∧ listed.getD j true = false := by
  have hsz : i < listed.size := by
    rcases Nat.lt_or_ge i listed.size with h | h
    · exact h
    · simp [Array.getD, show ¬ i < listed.size by omega] at hl
  have hr : List.range n = List.range' 0 i ++ i :: List.range' (i + 1) (n - i - 1) := by
    rw [List.range_eq_range', show n = i + ((n - i - 1) + 1) by omega, ← List.range'_append_1]
    simp only [Nat.zero_add, List.range'_succ]
    congr 3; omega
  have hset : ∀ j, j ≠ i → (listed.setIfInBounds i true).getD j true = listed.getD j true := fun j hj => by
    simp only [Array.getD_eq_getD_getElem?]
    rw [Array.getElem?_setIfInBounds_ne (Ne.symm hj)]
  have hself : (listed.setIfInBounds i true).getD i true = true := by simp [Array.getD]
  refine ⟨(List.range' 0 i).filter fun j => !listed.getD j true, (List.range' (i + 1) (n - i - 1)).filter fun j => !listed.getD j true, ?_, ?_, ?_⟩
  · simp only [rem, hr, List.filter_append, List.filter_cons, hl, Bool.not_false, if_true]
  · simp only [rem, hr, List.filter_append, List.filter_cons, hself, Bool.not_true, Bool.false_eq_true, if_false]
    congr 1
    · apply List.filter_congr
      intro j hj
      rw [List.mem_range'_1] at hj
      rw [hset j (by omega)]
    · apply List.filter_congr
      intro j hj
      rw [List.mem_range'_1] at hj
      rw [hset j (by omega)]
  · intro j hj
    rw [List.mem_filter, List.mem_range'_1] at hj
    exact ⟨by omega, by simpa using hj.2⟩

theorem maskO_ok {S : Nat → Prop} {acc : List Nat} : ∀ (es : List Edge) (s : Nat), (∀ i, s.testBit i = true → S i) → (∀ e ∈ es, Region.binds .any e = true → S e.on ∧ ∀ i, (acc.getD e.on 0).testBit i = true → S i) →
    ∀ i, (es.foldl (fun s e => if Region.binds .any e then s ||| 2 ^ e.on ||| acc.getD e.on 0 else s) s).testBit i = true → S i := by
  intro es
  induction es with
  | nil => intro s hs _ i hi; exact hs i hi
  | cons e es ih =>
    intro s hs he i hi
    simp only [List.foldl_cons] at hi
    refine ih _ (fun k hk => ?_) (fun e' h' hb => he e' (by simp [h']) hb) i hi
    by_cases hb : Region.binds .any e = true
    · rw [if_pos hb] at hk
      obtain ⟨h1, h2⟩ := he e (by simp) hb
      simp only [Nat.testBit_or, Bool.or_eq_true] at hk
      rcases hk with (hk | hk) | hk
      · exact hs k hk
      · rw [Nat.testBit_two_pow] at hk
        simp at hk; subst hk; exact h1
      · exact h2 k hk
    · rw [if_neg hb] at hk
      exact hs k hk

theorem masks_ok {S : Nat → Prop} {full : List Oper} (hcl : ∀ (j : Nat) (o : Oper), full[j]? = some o → S j → ∀ e ∈ o.after.toList, Region.binds .any e = true → S e.on) :
    ∀ (os pre : List Oper) (acc : List Nat), full = pre ++ os → acc.length = pre.length →
      (∀ (j m : Nat) (o : Oper), acc[j]? = some m → full[j]? = some o → (∀ e ∈ o.after.toList, Region.binds .any e = true → S e.on) → ∀ i, m.testBit i = true → S i) →
      ∀ (j m : Nat) (o : Oper), (masks os acc)[j]? = some m → full[j]? = some o → (∀ e ∈ o.after.toList, Region.binds .any e = true → S e.on) → ∀ i, m.testBit i = true → S i := by
  intro os
  induction os with
  | nil => intro pre acc _ _ h j m o hm ho hp i hi; exact h j m o hm ho hp i hi
  | cons o os ih =>
    intro pre acc hf hl h
    simp only [masks]
    refine ih (pre ++ [o]) _ (by simp [hf]) (by simp [hl]) ?_
    intro j m o' hm ho' hp i hi
    by_cases hj : j < acc.length
    · rw [List.getElem?_append_left hj] at hm
      exact h j m o' hm ho' hp i hi
    · have hj' : j = acc.length := by
        have := (List.getElem?_eq_some_iff.1 hm).1
        simp at this; omega
      subst hj'
      simp only [List.getElem?_concat_length, Option.some.injEq] at hm
      subst hm
      have ho2 : o' = o := by
        rw [hf, hl, List.getElem?_append_right (Nat.le_refl _)] at ho'
        simp at ho'; exact ho'.symm
      subst ho2
      refine maskO_ok (S := S) (acc := acc) o'.after.toList 0 (fun k hk => by simp at hk) (fun e he hb => ⟨hp e he hb, fun k hk => ?_⟩) i hi
      cases hae : acc[e.on]? with
      | none => rw [List.getD_eq_getElem?_getD, hae] at hk; simp at hk
      | some m' =>
        rw [List.getD_eq_getElem?_getD, hae] at hk
        simp only [Option.getD_some] at hk
        have hlt := (List.getElem?_eq_some_iff.1 hae).1
        have hfe : full[e.on]? = some (pre[e.on]'(by omega)) := by
          rw [hf, List.getElem?_append_left (by omega)]; simp [show e.on < pre.length by omega]
        exact h e.on m' _ hae hfe (hcl e.on _ hfe (hp e he hb)) k hk

theorem draw_sim {cv : PV → List PV → St → Option (PV × St)} (hcv : SimV P g cv) (htk : ∀ f args st v st', cv f args st = some (v, st') → st.low ≤ st.boxes.length → TK st st') {F : Fence} (hF : Wide F) {nt nn : Nat} {ops : Array Oper} {as : List AOper}
    (hc : chkOpers P g nt ops ops.toList as = true) (hord : ordOK ops.toList as = true) (hlex : lexOK ops.toList = true) :
    ∀ (fuel : Nat) (listed : Array Bool) (κ : K) (w : World) (st : St) (a : Act) (e e' : Env) (st' : St) (Q : Exit → Act → World → Prop), listed.size = ops.size → (∀ (j : Nat) (o : Oper), ops[j]? = some o → listed.getD j true = true → ∀ ed ∈ o.after.toList, Region.binds .any ed = true → listed.getD ed.on true = true) → (rem as.length listed).length ≤ fuel → SR P g base κ w st → EnvR g κ nt a.tmps e → st.low ≤ st.boxes.length →
      evIdx cv as (rem as.length listed) e st = some (e', st') →
      (∀ κ' a' w', K.le κ κ' → κ'.lam = κ.lam → SR P g base κ' w' st' → EnvR g κ' nt a'.tmps e' → a'.defers = a.defers → Fr base κ.lam w w' → Q .normal a' w') → wpAnyIn F nn P .any ops Q fuel listed a w := by
  obtain ⟨hlen, hget⟩ := chkOpers_get hc
  have hls : ops.size = as.length := by simpa using hlen
  -- nothing is ready just if nothing is left
  have hready : ∀ (listed : Array Bool), listed.size = ops.size → Region.ready .any ops listed = [] → rem as.length listed = [] := by
    intro listed hsz h
    by_cases hne : rem as.length listed = []
    · exact hne
    · exfalso
      obtain ⟨i, L, hL⟩ := List.exists_cons_of_ne_nil hne
      have hmem : i ∈ rem as.length listed := by rw [hL]; simp
      simp only [rem, List.mem_filter, List.mem_range, Bool.not_eq_true'] at hmem
      obtain ⟨hi, hli⟩ := hmem
      have hio : i < ops.size := by omega
      have hnot : ∀ j, j < i → listed.getD j true = true := fun j hj => by
        cases hlj : listed.getD j true with
        | true => rfl
        | false =>
          exfalso
          have hmj : j ∈ rem as.length listed := List.mem_filter.2 ⟨List.mem_range.2 (by omega), by rw [hlj]; rfl⟩
          rw [hL] at hmj
          simp only [List.mem_cons] at hmj
          have hsorted : (rem as.length listed).Pairwise (· < ·) := List.Pairwise.filter _ (List.pairwise_lt_range)
          rw [hL, List.pairwise_cons] at hsorted
          rcases hmj with rfl | hmj
          · omega
          · have := hsorted.1 j hmj; omega
      have : i ∈ Region.ready .any ops listed := by
        simp only [Region.ready, List.mem_filter, List.mem_range, Bool.and_eq_true, Bool.not_eq_true']
        refine ⟨hio, hli, ?_⟩
        simp only [Array.getElem?_eq_getElem hio, Option.map_some, Option.getD_some]
        rw [Array.all_eq_true_iff_forall_mem]
        intro ed hed
        simp only [lexOK, List.all_eq_true, List.mem_range, Array.length_toList] at hlex
        have := hlex i hio
        simp only [Array.getElem?_toList, Array.getElem?_eq_getElem hio, List.all_eq_true, Array.mem_toList_iff, Bool.or_eq_true, Bool.not_eq_true', decide_eq_true_eq] at this
        rcases this ed hed with hb | hb
        · simp [hb]
        · have h1 := hnot ed.on hb
          have h2 : ed.on < listed.size := by omega
          simp only [Array.getD, h2, dif_pos] at h1 ⊢
          simp only [Bool.or_eq_true]; right; exact h1
      rw [h] at this; simp at this
  intro fuel
  induction fuel with
  | zero =>
    intro listed κ w st a e e' st' Q hsz hcl hfl hsr hE hlow h hQ
    have hnil : rem as.length listed = [] := List.length_eq_zero_iff.1 (by omega)
    rw [hnil] at h
    simp [evIdx] at h
    obtain ⟨rfl, rfl⟩ := h
    refine ⟨?_, hQ κ a w (K.le.refl κ) rfl hsr hE rfl (Fr.refl _ _)⟩
    by_cases hr : Region.ready .any ops listed = []
    · exact hr
    · exfalso
      obtain ⟨i, L, hL⟩ := List.exists_cons_of_ne_nil hr
      have hm : i ∈ Region.ready .any ops listed := by rw [hL]; simp
      simp only [Region.ready, List.mem_filter, List.mem_range, Bool.and_eq_true, Bool.not_eq_true'] at hm
      have : i ∈ rem as.length listed := List.mem_filter.2 ⟨List.mem_range.2 (by omega), by rw [hm.2.1]; rfl⟩
      rw [hnil] at this; simp at this
  | succ fuel ih =>
    intro listed κ w st a e e' st' Q hsz hcl hfl hsr hE hlow h hQ
    refine ⟨fun hr => ?_, fun i hi => ?_⟩
    · rw [hready listed hsz hr] at h
      simp [evIdx] at h
      obtain ⟨rfl, rfl⟩ := h
      exact hQ κ a w (K.le.refl κ) rfl hsr hE rfl (Fr.refl _ _)
    · simp only [Region.ready, List.mem_filter, List.mem_range, Bool.and_eq_true, Bool.not_eq_true'] at hi
      obtain ⟨hio, hli, hdeps⟩ := hi
      have hil : i < as.length := by omega
      have hai : as[i]? = some as[i] := by simp [hil]
      have hoi : ops[i]? = some ops[i] := by simp [hio]
      rw [hoi] at hdeps
      simp only [Option.map_some, Option.getD_some, Array.all_eq_true_iff_forall_mem] at hdeps
      obtain ⟨L1, L2, hs1, hs2, hs3⟩ := rem_split hil hli
      rw [hs1] at h hfl
      have hpre : ∀ ed ∈ ops[i].after.toList, Region.binds .any ed = true → listed.getD ed.on true = true := fun ed hed hbd => by
        have := hdeps ed (by simpa using hed)
        simp only [hbd, Bool.not_true, Bool.false_or] at this
        by_cases h2 : ed.on < listed.size
        · simp only [Array.getD, h2, dif_pos] at this ⊢; exact this
        · simp [Array.getD, h2]
      have hmask := masks_ok (S := fun j => listed.getD j true = true) (full := ops.toList) (fun j o ho hj ed hed hbd => hcl j o (by simpa using ho) hj ed hed hbd) ops.toList [] [] (by simp) rfl (fun j m o hm => by simp at hm)
      have hcl2 : ∀ (j : Nat) (o : Oper), ops[j]? = some o → (listed.setIfInBounds i true).getD j true = true → ∀ ed ∈ o.after.toList, Region.binds .any ed = true → (listed.setIfInBounds i true).getD ed.on true = true := by
        intro j o ho hj ed hed hbd
        have hset : ∀ k, listed.getD k true = true → (listed.setIfInBounds i true).getD k true = true := fun k hk => by
          simp only [Array.getD_eq_getD_getElem?] at *
          by_cases hki : i = k
          · subst hki
            by_cases hks : i < listed.size
            · simp [hks]
            · simp [hks]
          · rw [Array.getElem?_setIfInBounds_ne hki]; exact hk
        by_cases hji : j = i
        · subst hji
          rw [hoi] at ho; cases ho
          exact hset _ (hpre ed hed hbd)
        · have hj' : listed.getD j true = true := by
            simp only [Array.getD_eq_getD_getElem?] at *
            rw [Array.getElem?_setIfInBounds_ne (Ne.symm hji)] at hj; exact hj
          exact hset _ (hcl j o ho hj' ed hed hbd)
      have hb := bubble hai L1 L2 e st _ (fun j hj => by
        obtain ⟨hji, hlj⟩ := hs3 j hj
        have hjl : j < as.length := by omega
        refine ⟨as[j], by simp [hjl], ?_⟩
        simp only [ordOK, List.all_eq_true, List.mem_range] at hord
        have := hord i hil
        simp only [hai, List.all_eq_true, List.mem_range] at this
        have := this j hji
        simp only [List.getElem?_eq_getElem hjl, Bool.or_eq_true] at this
        rcases this with hbit | hfree
        · exfalso
          cases hmi : (masks ops.toList [])[i]? with
          | none => rw [List.getD_eq_getElem?_getD, hmi] at hbit; simp at hbit
          | some m =>
            rw [List.getD_eq_getElem?_getD, hmi] at hbit
            simp only [Option.getD_some] at hbit
            have := hmask i m ops[i] hmi (by simp) hpre j hbit
            rw [hlj] at this
            cases this
        · exact hfree) h
      rw [← hs2, evIdx_step hai] at hb
      have hlen2 : (rem as.length (listed.setIfInBounds i true)).length ≤ fuel := by
        rw [hs2]; simp at hfl ⊢; omega
      have hco := hget i ops[i] as[i] (by simp) hai
      simp only [chkOper, Bool.and_eq_true, decide_eq_true_eq] at hco
      obtain ⟨⟨⟨hdst, hdlt⟩, hgd⟩, hop⟩ := hco
      simp only [wpOpIn, hoi]
      simp only [wanted_sim hE hgd]
      split
      · rename_i hw
        simp only [stepA, hw, if_true] at hb
        split at hb
        · rename_i v st1 hev
          refine ⟨fun f _ => hF.2 f, ?_⟩
          rw [Oper.semAt_eq _ _ _ (chkOp_defer hop)]
          refine opAny_sim hcv hF hsr hE hlow hop hev nn ops[i] a _ Q (fun κ1 z w1 h1 h2 h3 h4 h5 => ?_)
          rw [hdst]
          refine ih _ κ1 w1 st1 _ _ e' st' Q (by simpa using hsz) hcl2 hlen2 h3 ((hE.mono h1).putO hdlt h4) (evOp_TK htk hev hlow).lw hb (fun κ2 a2 w2 b1 b2 b3 b4 b5 b6 => ?_)
          exact hQ κ2 a2 w2 (h1.trans b1) (b2.trans h2) b3 b4 (b5.trans (put_defers _ _ _)) (h5.trans (by rw [h2] at b6; exact b6))
        · cases hb
      · rename_i hw
        simp only [stepA, hw] at hb
        refine ⟨fun f _ => hF.2 f, ?_⟩
        rw [hdst]
        refine ih _ κ w st _ _ e' st' Q (by simpa using hsz) hcl2 hlen2 hsr (hE.putO hdlt .undef) hlow hb (fun κ2 a2 w2 b1 b2 b3 b4 b5 b6 => ?_)
        exact hQ κ2 a2 w2 b1 b2 b3 b4 (b5.trans (put_defers _ _ _)) b6

end Go.Ab
/-
  The records of loops over functions; results; marks.
-/
namespace Go.Ab

variable {P : Program} {g : GMap} {base : Nat} {κ : K} {w : World} {st : St}

theorem Cells.keep {w w' : World} {blk : Nat} {rs : Array Value} (h : Cells w blk rs) (hh : ∀ (k : Nat) (o : Obj), w.heap[k]? = some o → isCells o = true → w'.heap[k]? = some o) : Cells w' blk rs := by
  obtain ⟨el, lo, hi, h1, h2⟩ := h
  exact ⟨el, lo, hi, hh _ _ h1 rfl, h2⟩

theorem cell_keep {w w' : World} {b i : Nat} {v : Value} (h : w.cell? ⟨b, i, none⟩ = some v) (hh : ∀ (k : Nat) (o : Obj), w.heap[k]? = some o → isCells o = true → w'.heap[k]? = some o) : w'.cell? ⟨b, i, none⟩ = some v := by
  simp only [World.cell?] at *
  cases hb : w.heap[b]? with
  | none => simp [hb] at h
  | some x =>
    cases x <;> simp [hb] at h
    rw [hh _ _ hb rfl]; simpa using h

theorem SR.objs {κ κ' : K} {w w' : World} {st st' : St} (h : SR P g base κ w st) (hh : ∀ (k : Nat) (o : Obj), w.heap[k]? = some o → isCells o = true → w'.heap[k]? = some o) (hs : w.heap.size ≤ w'.heap.size)
    (hC : κ'.C = κ.C) (hφ : κ'.φ = κ.φ) (hτ : κ'.τ = κ.τ) (hS : κ'.S = κ.S) (hμ : κ'.μ = κ.μ) (hb : st'.boxes = st.boxes) (ht : st'.toks = st.toks) (hle : ∀ v p, (∃ n, p.inB n = true) → R g κ v p → R g κ' v p)
    (ll : κ'.lam.length = st'.loops.length) (ln : (κ'.lam.map (·.1)).Nodup) (lb : ∀ (l D : Nat), (l, D) ∈ κ'.lam → base ≤ l) (lp : ∀ (k l D : Nat) (r : LoopS), st'.loops[k]? = some r → κ'.lam[k]? = some (l, D) → LoopOK P g κ' w' l D r) : SR P g base κ' w' st' where
  cC b i v hc := by rw [hC] at hc; exact cell_keep (h.cC b i v hc) hh
  sh b t hb := by
    rw [hS] at hb
    obtain ⟨n, hn⟩ := h.sh b t hb
    refine ⟨n, ?_⟩
    simp only [World.shape?] at hn ⊢
    cases ho : w.heap[b]? with
    | none => simp [ho] at hn
    | some o =>
      rw [ho] at hn
      cases o with
      | cells c el fz => rw [hh _ _ ho rfl]; exact hn
      | _ => simp at hn
  bl := by rw [hφ, hb]; exact h.bl
  bn := by rw [hφ]; exact h.bn
  mx b blk cs h1 h2 hm := by
    rw [hb] at h1; rw [hφ] at h2; rw [hμ] at hm
    have hx := h.mx b blk cs h1 h2 hm
    obtain ⟨es, clock, h3, h4⟩ := hx.ex
    exact ⟨hx.ge, es, clock, hh _ _ h3 rfl, h4⟩
  mz := by rw [hφ, hμ]; exact h.mz
  bx b blk cs h1 h2 hm := by
    rw [hb] at h1; rw [hφ] at h2; rw [hμ] at hm
    have hx := h.bx b blk cs h1 h2 hm
    obtain ⟨rs, hc, h3, h4⟩ := hx.ex
    refine ⟨hx.ge, by rw [hC]; exact hx.nc, ⟨rs, hc.keep hh, h3, fun i c hi => ?_⟩, hx.lf, hx.lw, fun hm => by
      have h5 := hx.sb hm
      simp only [World.shape?] at h5 ⊢
      cases ho : w.heap[blk]? with
      | none => simp [ho] at h5
      | some o =>
        rw [ho] at h5
        cases o with
        | cells c el fz => rw [hh _ _ ho rfl]; exact h5
        | _ => simp at h5⟩
    obtain ⟨v, hv, hr⟩ := h4 i c hi
    exact ⟨v, hv, hle v c ⟨b + 1, hx.lw c (List.mem_of_getElem? hi)⟩ hr⟩
  tl := by rw [hτ, ht]; exact h.tl
  tk i blk e ce h1 h2 := by
    rw [ht] at h1; rw [hτ] at h2
    have hx := h.tk i blk e ce h1 h2
    obtain ⟨rs, hc, h3⟩ := hx.ex
    exact ⟨hx.ge, by rw [hφ]; exact hx.nb, by rw [hC]; exact hx.nc, ⟨rs, hc.keep hh, h3⟩⟩
  td := by rw [hτ, ht]; exact h.td
  ll := ll
  ln := ln
  lb := lb
  lp := lp
  hb := Nat.le_trans h.hb hs
  gv := g.mono _ _ (by rw [hC]; exact fun _ _ _ h => h) h.gv

theorem SR.pushObj (h : SR P g base κ w st) {w' : World} {o : Obj} (hw : w'.heap = w.heap.push o) : SR P g base κ w' st :=
  h.objs (κ' := κ) (st' := st) (fun k x hx _ => by rw [hw]; exact push_old hx) (by rw [hw]; simp) rfl rfl rfl rfl rfl rfl rfl (fun _ _ _ h => h) h.ll h.ln h.lb (fun k l D r h1 h2 => (h.lp k l D r h1 h2).mono (K.le.refl _) fun k x hx _ => by rw [hw]; exact push_old hx)

theorem SR.addLoop (h : SR P g base κ w st) {w' : World} {rec : Loop} {r : LoopS} {nt : Nat} (hw : w'.heap = w.heap.push (.loop rec)) (h1 : rec.state = stOf r.status) (h2 : rec.pending = pendOf r.pend) (h3 : rec.params.toList = r.params)
    (h4 : EnvR g κ nt rec.tmps r.env) (h5 : chkCode P g nt rec.assign r.assign = true) (h6 : chkCode P g nt rec.body r.body = true) (h7 : ∀ p ∈ r.params, p < nt) (h8 : w.heap[rec.defers]? = some (.deferred (some []))) :
    K.le κ { κ with lam := κ.lam ++ [(w.heap.size, rec.defers)] } ∧ SR P g base { κ with lam := κ.lam ++ [(w.heap.size, rec.defers)] } w' { st with loops := st.loops ++ [r] } := by
  have hle : K.le κ { κ with lam := κ.lam ++ [(w.heap.size, rec.defers)] } := ⟨fun _ _ _ h => h, fun _ _ h => h, fun i x hx => by
    have := (List.getElem?_eq_some_iff.1 hx).1
    simp [List.getElem?_append_left this, hx], fun _ _ h => h, fun _ _ h => h, fun _ _ => rfl⟩
  refine ⟨hle, h.objs (fun k x hx _ => by rw [hw]; exact push_old hx) (by rw [hw]; simp) rfl rfl rfl rfl rfl rfl rfl (fun v p _ hr => hr.mono hle) (by simp [h.ll]) ?_ (fun l D hm => ?_) ?_⟩
  · simp only [List.map_append, List.map_cons, List.map_nil, List.nodup_append]
    refine ⟨h.ln, by simp, fun a ha b hb => ?_⟩
    simp at hb; subst hb
    obtain ⟨rec', hr'⟩ := h.loopAt ha
    have := (Array.getElem?_eq_some_iff.1 hr').1
    omega
  · simp only [List.mem_append, List.mem_singleton, Prod.mk.injEq] at hm
    rcases hm with hm | ⟨rfl, _⟩
    · exact h.lb l D hm
    · exact h.hb
  · intro k l D r' a b
    by_cases hk : k < st.loops.length
    · simp only [List.getElem?_append_left hk] at a
      simp only [List.getElem?_append_left (by rw [h.ll]; exact hk)] at b
      exact (h.lp k l D r' a b).mono hle fun k x hx _ => by rw [hw]; exact push_old hx
    · have hk' : k = st.loops.length := by
        have := (List.getElem?_eq_some_iff.1 a).1
        simp at this; omega
      subst hk'
      simp only [List.getElem?_concat_length, Option.some.injEq] at a
      rw [← h.ll, List.getElem?_concat_length, Option.some.injEq] at b
      simp only [Prod.mk.injEq] at b
      obtain ⟨rfl, rfl⟩ := b
      subst a
      exact ⟨rec, nt, by rw [hw]; simp, h1, h2, h3, h4.mono hle, h5, h6, h7, rfl, by rw [hw]; exact push_old h8⟩

theorem putObj_same {w : World} {l : Nat} {o o' : Obj} (h : w.heap[l]? = some o) : (w.putObj l o').heap[l]? = some o' := World.putObj_heap_same (Array.getElem?_eq_some_iff.1 h).1

theorem SR.setLoop (h : SR P g base κ w st) {k l D : Nat} {r r' : LoopS} {rec rec' : Loop} (hk : st.loops[k]? = some r) (hl : κ.lam[k]? = some (l, D)) (hrec : w.heap[l]? = some (.loop rec)) (hlike : LoopLike rec rec') (hsame : SameLoop r r')
    (h1 : rec'.state = stOf r'.status) (h2 : rec'.pending = pendOf r'.pend) : SR P g base κ (w.putObj l (.loop rec')) { st with loops := st.loops.set k r' } := by
  refine h.objs (κ' := κ) (fun j x hx hc => ?_) (by simp) rfl rfl rfl rfl rfl rfl rfl (fun _ _ _ h => h) (by simp [h.ll]) h.ln h.lb ?_
  · rw [World.putObj_heap_other]
    · exact hx
    · rintro rfl; rw [hrec] at hx; cases hx; simp [isCells] at hc
  · intro k' l' D' q a b
    have hdef : ∀ (x : Nat), w.heap[x]? = some (Obj.deferred (some [])) → (w.putObj l (.loop rec')).heap[x]? = some (Obj.deferred (some [])) := fun x hx => by
      rw [World.putObj_heap_other]
      · exact hx
      · rintro rfl; rw [hrec] at hx; cases hx
    by_cases hkk : k = k'
    · subst hkk
      rw [hl] at b; cases b
      have hlt := (List.getElem?_eq_some_iff.1 hk).1
      simp [hlt] at a; subst a
      obtain ⟨rec0, nt, c1, c2, c3, c4, c5, c6, c7, c8, c9, c10⟩ := (h.lp k l D r hk hl).ex
      rw [hrec] at c1; cases c1
      exact ⟨rec', nt, putObj_same hrec, h1, h2, by rw [hlike.params, hsame.params]; exact c4, by rw [hlike.tmps, hsame.env]; exact c5, by rw [hlike.assign, hsame.assign]; exact c6, by rw [hlike.body, hsame.body]; exact c7, by rw [hsame.params]; exact c8,
        by rw [hlike.defers]; exact c9, hdef _ c10⟩
    · simp only [List.getElem?_set_ne hkk] at a
      obtain ⟨rec0, nt, c1, c2, c3, c4, c5, c6, c7, c8, c9, c10⟩ := (h.lp k' l' D' q a b).ex
      have hne : l' ≠ l := by
        rintro rfl
        have e1 : (κ.lam.map (·.1))[k]? = some l' := by simp [hl]
        have e2 : (κ.lam.map (·.1))[k']? = some l' := by simp [b]
        exact hkk ((List.getElem?_inj (by simp; exact (List.getElem?_eq_some_iff.1 hl).1) h.ln).1 (e1.trans e2.symm))
      exact ⟨rec0, nt, by rw [World.putObj_heap_other hne]; exact c1, c2, c3, c4, c5, c6, c7, c8, c9, hdef _ c10⟩

theorem Fr.setLoop {lam : List (Nat × Nat)} {l : Nat} {rec rec' : Loop} (hb : base ≤ l) (hm : l ∈ lam.map (·.1)) (hrec : w.heap[l]? = some (.loop rec)) (hlike : LoopLike rec rec') : Fr base lam w (w.putObj l (.loop rec')) :=
  ⟨⟨rfl, rfl, rfl, by simp, fun k hk => World.putObj_heap_other (by omega)⟩, fun k o ho hc hk => by
    rw [World.putObj_heap_other]
    · exact ho
    · rintro rfl; exact hk hm, fun k r hk hr => by
    by_cases hkl : k = l
    · subst hkl
      rw [hrec] at hr; cases hr
      exact ⟨rec', putObj_same hrec, hlike⟩
    · exact ⟨r, by rw [World.putObj_heap_other hkl]; exact hr, .refl r⟩⟩

def resF (tmps : Array Value) : ResultVar → Sem Value
  | .tmp t => pure (tmps.getD t undef)
  | .cell a t => do loadVar t (← asAddr (tmps.getD a undef))

theorem results_eq (fn : Func) (tmps : Array Value) : results fn tmps = (do
  let vs ← fn.results.mapM (resF tmps)
  pure (if h : vs.size = 1 then vs[0] else .tuple vs)) := rfl

theorem rv_sim {κ : K} {w : World} {st : St} (h : SR P g base κ w st) {nt : Nat} {tmps : Array Value} {e : Env} (hE : EnvR g κ nt tmps e) {rv : ResultVar} {r : RV} {v : PV} (hc : chkRV P rv r = true) (hr : rv1 e st r = some v) :
    ∃ z, (resF tmps rv).run P w = .ok z w ∧ R g κ z v := by
  cases rv with
  | tmp t =>
    cases r with
    | cell => simp [chkRV] at hc
    | tmp t' =>
      simp only [chkRV, decide_eq_true_eq] at hc
      subst hc
      simp only [rv1, Option.some.injEq] at hr
      subst hr
      exact ⟨_, rfl, hE.2 t⟩
  | cell a ty =>
    cases r with
    | tmp => simp [chkRV] at hc
    | cell t' ag sz =>
      simp only [chkRV, Bool.and_eq_true, decide_eq_true_eq, Bool.or_eq_true, Bool.not_eq_true'] at hc
      obtain ⟨⟨rfl, h1⟩, h2⟩ := hc
      simp only [rv1] at hr
      have hR := hE.2 a
      simp only [resF]
      generalize tmps.getD a undef = u at hR
      generalize e a = p at hR hr
      obtain ⟨z, a1, a2⟩ := load_sim h h1 (fun ha => by rcases h2 with h2 | h2 <;> simp_all) hR hr
      refine ⟨z, ?_, a2⟩
      have hp : ∃ ad, u = .pointer (some ad) := by
        unfold loadPV at hr
        split at hr
        · cases hR; exact ⟨_, rfl⟩
        · cases hR; exact ⟨_, rfl⟩
        · cases hr
      obtain ⟨ad, rfl⟩ := hp
      simp only [Sem.run_bind, asAddr, Sem.run_pure, Result.andThen_ok]
      simpa [Instr.loadAt, Instr.sureAddr] using a1

theorem results_sim {κ : K} {w : World} {st : St} (h : SR P g base κ w st) {nt : Nat} {tmps : Array Value} {e : Env} (hE : EnvR g κ nt tmps e) {fn : Func} {rs : List RV} {v : PV} (hc : chkRVs P fn.results.toList rs = true) (hr : resOf e st rs = some v) :
    ∃ z, (results fn tmps).run P w = .ok z w ∧ R g κ z v := by
  have key : ∀ (rvs : List ResultVar) (rs : List RV) (vs : List PV), chkRVs P rvs rs = true → rvAll e st rs = some vs →
      ∃ zs : List Value, (rvs.mapM (resF tmps)).run P w = .ok zs w ∧ zs.length = vs.length ∧
        ∀ (i : Nat) (z : Value) (p : PV), zs[i]? = some z → vs[i]? = some p → R g κ z p := by
    intro rvs
    induction rvs with
    | nil =>
      intro rs vs h1 h2
      cases rs with
      | cons => simp [chkRVs] at h1
      | nil => simp [rvAll] at h2; subst h2; exact ⟨[], rfl, rfl, fun i z p a => by simp at a⟩
    | cons rv rvs ih =>
      intro rs vs h1 h2
      cases rs with
      | nil => simp [chkRVs] at h1
      | cons r rs =>
        simp only [chkRVs, Bool.and_eq_true] at h1
        simp only [rvAll] at h2
        split at h2
        · rename_i v0 vs0 e1 e2
          cases h2
          obtain ⟨z, a1, a2⟩ := rv_sim h hE h1.1 e1
          obtain ⟨zs, b1, b2, b3⟩ := ih rs vs0 h1.2 e2
          refine ⟨z :: zs, ?_, by simp [b2], fun i u p c d => ?_⟩
          · simp only [List.mapM_cons, Sem.run_bind, a1, Result.andThen_ok, b1, Sem.run_pure]
          · cases i with
            | zero => simp at c d; subst c d; exact a2
            | succ i => simp at c d; exact b3 i u p c d
        · cases h2
  unfold resOf at hr
  split at hr
  · rename_i vs hvs
    split at hr
    · rename_i hnt
      cases hr
      obtain ⟨zs, a1, a2, a3⟩ := key fn.results.toList rs vs hc hvs
      refine ⟨if h : zs.toArray.size = 1 then zs.toArray[0] else .tuple zs.toArray, ?_, ?_⟩
      · rw [results_eq, Array.mapM_eq_mapM_toList]
        simp only [Sem.run_bind, Sem.run_map, a1, Result.andThen_ok, Sem.run_pure]
      · have htup : ¬ zs.length = 1 → R g κ (if h : zs.toArray.size = 1 then zs.toArray[0] else .tuple zs.toArray) (.tup vs) := fun hl => by
          rw [dif_neg (by simpa using hl)]
          exact .tup _ _ (by simpa using a2) hnt (fun i z p c d => a3 i z p (by simpa using c) d)
        match vs, zs, a2, a3, htup with
        | [v0], [z0], _, a3, _ =>
          exact (show R g κ z0 v0 from a3 0 _ v0 rfl rfl)
        | [], [], _, _, htup => exact htup (by simp)
        | _ :: _ :: _, _ :: _ :: _, _, _, htup => exact htup (by simp)
    · cases hr
  · cases hr

theorem leaves_sim {κ : K} {w0 : World} {st : St} {nt : Nat} {tmps : Array Value} {e : Env} {fn : Func} {rs : List RV} {v : PV} {F : Fence} {nn : Nat} {Rr : Ending → World → Prop} (hE : EnvR g κ nt tmps e) (hc : chkRVs P fn.results.toList rs = true) (hr : resOf e st rs = some v)
    (hB : ∀ (l D : Nat), (l, D) ∈ κ.lam → D < w0.heap.size) (hbase : base ≤ w0.heap.size)
    (hk : ∀ w2 z, SR P g base κ w2 st → Fr base κ.lam w0 w2 → R g κ z v → Rr (.returned z) w2) :
    ∀ (ds : List Deferred) (w : World), SR P g base κ w st → Fr base κ.lam w0 w → DefOK w0.heap.size w ds → LeavesInM F nn P fn tmps Rr ds .returning w := by
  intro ds
  induction ds with
  | nil =>
    intro w hsr hfr hd
    obtain ⟨z, a1, a2⟩ := results_sim hsr hE hc hr
    exact ⟨z, a1, hk w z hsr hfr a2⟩
  | cons d ds ih =>
    intro w hsr hfr hd
    obtain ⟨D, rfl, hBD, hobj⟩ := hd.1 d (by simp)
    have hpw := hd.2
    rw [List.pairwise_cons] at hpw
    refine ⟨by simp, .inl ⟨D, _, rfl, run_takeDeferred hobj, ?_⟩⟩
    have hother : ∀ (k : Nat) (o : Obj), w.heap[k]? = some o → k ≠ D → (w.putObj D (.deferred none)).heap[k]? = some o := fun k o ho hne => by rw [World.putObj_heap_other hne]; exact ho
    have hsr' : SR P g base κ (w.putObj D (.deferred none)) st := hsr.objs (κ' := κ) (st' := st) (fun k o ho hcl => hother k o ho (by rintro rfl; rw [hobj] at ho; cases ho; simp [isCells] at hcl)) (by simp) rfl rfl rfl rfl rfl rfl rfl (fun _ _ _ h => h) hsr.ll hsr.ln hsr.lb (fun k l D' r a b => by
      obtain ⟨rec, nt', c1, c2, c3, c4, c5, c6, c7, c8, c9, c10⟩ := (hsr.lp k l D' r a b).ex
      have := hB l D' (List.mem_of_getElem? b)
      exact ⟨rec, nt', hother l _ c1 (by rintro rfl; rw [hobj] at c1; cases c1), c2, c3, c4, c5, c6, c7, c8, c9, hother D' _ c10 (by omega)⟩)
    refine ih _ hsr' ?_ ⟨fun d' hd' => ?_, hpw.2⟩
    · have hs := hfr.below.size
      refine ⟨⟨hfr.below.os, hfr.below.tape, hfr.below.output, by simpa using hs, fun k hk' => ?_⟩, fun k o ho hcl hkl => ?_, fun k r hkl hkr => ?_⟩
      · rw [World.putObj_heap_other (by omega)]; exact hfr.below.block k hk'
      · have := (Array.getElem?_eq_some_iff.1 ho).1
        exact hother k o (hfr.objs k o ho hcl hkl) (by omega)
      · have := (Array.getElem?_eq_some_iff.1 hkr).1
        obtain ⟨r', x1, x2⟩ := hfr.loops k r hkl hkr
        exact ⟨r', hother k _ x1 (by omega), x2⟩
    · obtain ⟨D', rfl, y1, y2⟩ := hd.1 d' (by simp [hd'])
      exact ⟨D', rfl, y1, hother D' _ y2 (by rintro rfl; exact hpw.1 _ hd' rfl)⟩

end Go.Ab
/-
  The simulation by induction on the fuel.
-/
namespace Go.Ab

variable {P : Program} {g : GMap} {A : AP}

def Cont (P : Program) (g : GMap) (F : Fence) (nt base B : Nat) (κ : K) (w : World) (x : Ex) (e' : Env) (st' : St) (Q : Exit → Act → World → Prop) : Prop :=
  ∀ κ' a' w', K.le κ κ' → κ'.lam = κ.lam → SR P g base κ' w' st' → EnvR g κ' nt a'.tmps e' → DefOK B w' a'.defers → (F.round.isSome = true → a'.defers = []) → Fr base κ.lam w w' → Q (exOf x) a' w'

theorem Cont.step {F : Fence} {nt base B : Nat} {κ κ1 : K} {w w1 : World} {x : Ex} {e' : Env} {st' : St} {Q : Exit → Act → World → Prop} (h : Cont P g F nt base B κ w x e' st' Q) (hle : K.le κ κ1) (hlam : κ1.lam = κ.lam) (hfr : Fr base κ.lam w w1) :
    Cont P g F nt base B κ1 w1 x e' st' Q := fun κ' a' w' h1 h2 h3 h4 h5 h6 h7 => h κ' a' w' (hle.trans h1) (h2.trans hlam) h3 h4 h5 h6 (hfr.trans (by rw [hlam] at h7; exact h7))

def SimC (P : Program) (g : GMap) (A : AP) (n : Nat) : Prop :=
  ∀ (F : Fence), Wide F → ∀ (nt : Nat) (c : Code) (ac : ACode), chkCode P g nt c ac = true → ∀ (base : Nat) (κ : K) (w : World) (st : St) (a : Act) (e : Env) (B : Nat) (x : Ex) (e' : Env) (st' : St) (nn : Nat) (Q : Exit → Act → World → Prop),
    SR P g base κ w st → EnvR g κ nt a.tmps e → DefOK B w a.defers → (F.round.isSome = true → a.defers = []) → RoundOK F κ → B ≤ w.heap.size → st.low ≤ st.boxes.length → evC A n ac e st = some (x, e', st') →
    Cont P g F nt base B κ w x e' st' Q → c.wpIn F nn P Q a w

def ScopeRun (F : Fence) (nn : Nat) (P : Program) (body : Code) (Q : Exit → Act → World → Prop) (cur : Code) (a : Act) (w : World) : Prop :=
  ∀ (b : Frame) (k : List Item) (cs : List Frame), b.roundOf = F.round → F.fn b.fn → F.room (cs.length + 1 + nn) →
    ∃ e a' w', Q e a' w' ∧ ArrivesIn (Machine.fenced P F) P (lone (b.atR a (.code cur :: .inScope body :: k)) cs w) b k cs e a' w'

def SimS (P : Program) (g : GMap) (A : AP) (n : Nat) : Prop :=
  ∀ (F : Fence), Wide F → ∀ (nt : Nat) (body cur : Code) (ab acur : ACode), chkCode P g nt body ab = true → chkCode P g nt cur acur = true → ∀ (base : Nat) (κ : K) (w : World) (st : St) (a : Act) (e : Env) (B : Nat) (x : Ex) (e' : Env) (st' : St) (nn : Nat) (Q : Exit → Act → World → Prop),
    SR P g base κ w st → EnvR g κ nt a.tmps e → DefOK B w a.defers → (F.round.isSome = true → a.defers = []) → RoundOK F κ → B ≤ w.heap.size → st.low ≤ st.boxes.length → evC A n (.scopeAt ab acur) e st = some (x, e', st') →
    Cont P g F nt base B κ w x e' st' Q → ScopeRun F nn P body Q cur a w

def SimF (P : Program) (g : GMap) (A : AP) (n : Nat) : Prop :=
  ∀ (F : Fence), Wide F → ∀ (f' : FuncId) (f : Nat) (fn : ACFn) (caps : List PV), g f' = some f → A f = some (.code fn) → ∀ (base : Nat) (κ : K) (w : World) (st : St) (args : Array Value) (ps : List PV) (v : PV) (st' : St) (nn : Nat) (Rr : Ending → World → Prop),
    SR P g base κ w st → args.size = (ps ++ caps).length → (∀ (i : Nat) (u : Value) (q : PV), args[i]? = some u → (ps ++ caps)[i]? = some q → R g κ u q) → st.low ≤ st.boxes.length → evV A n (.fn f caps) ps st = some (v, st') →
    (∀ κ' z w', K.le κ κ' → κ'.lam = κ.lam → SR P g base κ' w' st' → R g κ' z v → Fr base κ.lam w w' → Rr (.returned z) w') → CallsIn F nn P f' args w Rr

theorem findLabel_sim {nt : Nat} : ∀ (body : Code) (ab : ACode) (l : Nat), chkCode P g nt body ab = true →
    (∀ ar, findLabelA ab l = some ar → ∃ r, findLabel body l = some r ∧ chkCode P g nt r ar = true) ∧ (findLabelA ab l = none → findLabel body l = none) := by
  intro body
  induction body with
  | seq a b iha ihb =>
    intro ab l h
    cases ab <;> simp [chkCode] at h
    rename_i a' b'
    obtain ⟨h1, h2⟩ := iha a' l h.1
    obtain ⟨h3, h4⟩ := ihb b' l h.2
    simp only [findLabelA, findLabel]
    cases hf : findLabelA a' l with
    | some r =>
      obtain ⟨q, q1, q2⟩ := h1 r hf
      rw [q1]
      exact ⟨fun ar har => by simp at har; subst har; exact ⟨_, rfl, by simp [chkCode, q2, h.2]⟩, fun hn => by simp at hn⟩
    | none =>
      rw [h2 hf]
      exact ⟨fun ar har => h3 ar har, fun hn => h4 hn⟩
  | label l' =>
    intro ab l h
    cases ab <;> simp [chkCode] at h
    subst h
    simp only [findLabelA, findLabel]
    split
    · exact ⟨fun ar har => by simp at har; subst har; exact ⟨_, rfl, rfl⟩, fun hn => by simp at hn⟩
    · exact ⟨fun ar har => by simp at har, fun _ => rfl⟩
  | _ =>
    intro ab l h
    cases ab <;> simp [chkCode] at h <;> exact ⟨fun ar har => by simp [findLabelA] at har, fun _ => by simp [findLabel]⟩

theorem stepR_scope {b : Frame} {a : Act} {k : List Item} {cs : List Frame} {w : World} {c : Code} : step P (lone (b.atR a (.code (.scope c) :: k)) cs w) = .next (lone (b.atR a (.code c :: .inScope c :: k)) cs w) :=
  step_lone_go (by simp [stepG, stepG.exec, Frame.atR])
theorem stepR_inScope {b : Frame} {a : Act} {k : List Item} {cs : List Frame} {w : World} {c : Code} : step P (lone (b.atR a (.inScope c :: k)) cs w) = .next (lone (b.atR a k) cs w) :=
  step_lone_go (by simp [stepG, stepG.exec, Frame.atR])

theorem wpIn_scope {F : Fence} {nn : Nat} {c : Code} {Q : Exit → Act → World → Prop} {a : Act} {w : World} (h : ScopeRun F nn P c Q c a w) : (Code.scope c).wpIn F nn P Q a w := by
  intro b k cs hro hb hr
  obtain ⟨e, a', w', hq, harr⟩ := h b k cs hro hb hr
  exact ⟨e, a', w', hq, .of_steps (.one (fenced_calm hb hr rfl) stepR_scope) harr⟩

theorem scopeRun_step {F : Fence} {nn : Nat} {body cur : Code} {Q : Exit → Act → World → Prop} {a : Act} {w : World}
    (h : cur.wpIn F nn P (fun e a w => match e with | .goto l => (match findLabel body l with | some rest => ScopeRun F nn P body Q rest a w | none => Q (.goto l) a w) | e => Q e a w) a w) : ScopeRun F nn P body Q cur a w := by
  intro b k cs hro hb hr
  obtain ⟨e, a₁, w₁, hq, harr⟩ := h b (.inScope body :: k) cs hro hb hr
  cases e with
  | normal => exact ⟨.normal, a₁, w₁, hq, StepsIn.trans harr (.one (fenced_calm hb hr rfl) stepR_inScope)⟩
  | exit id =>
    have hx : exitTo id (.inScope body :: k) = exitTo id k := by simp [exitTo]
    exact ⟨.exit id, a₁, w₁, hq, fun k' hk => harr.1 k' (by rw [hx]; exact hk), fun hr' hk => harr.2 hr' (by rw [hx]; exact hk)⟩
  | goto l =>
    cases hf : findLabel body l with
    | some rest =>
      simp only [hf] at hq
      obtain ⟨e₂, a₂, w₂, hq₂, harr₂⟩ := hq b k cs hro hb hr
      exact ⟨e₂, a₂, w₂, hq₂, .of_steps (harr.1 _ (by simp [gotoIn, hf])) harr₂⟩
    | none =>
      simp only [hf] at hq
      have hx : gotoIn l (.inScope body :: k) = gotoIn l k := by simp [gotoIn, hf]
      exact ⟨.goto l, a₁, w₁, hq, fun k' hk => harr.1 k' (by rw [hx]; exact hk), fun hr' hk => harr.2 hr' (by rw [hx]; exact hk)⟩
  | ret => exact ⟨_, a₁, w₁, hq, harr⟩
  | panic ch => exact ⟨_, a₁, w₁, hq, harr⟩
  | outgrown => exact ⟨_, a₁, w₁, hq, harr⟩

theorem simF_of (hL : Linked P g A) (n : Nat) (hC : SimC P g A n) : SimF P g A (n + 1) := by
  intro F hF f' f fn caps hg hA base κ w st args ps v st' nn Rr hsr hsz hargs hlow hev hk
  obtain ⟨pf, hpf, hchk⟩ := hL.code f' f fn hg hA
  simp only [chkFn, Bool.and_eq_true, decide_eq_true_eq] at hchk
  obtain ⟨⟨⟨h1, h2⟩, h3⟩, h4⟩ := hchk
  cases hb : pf.body with
  | none => simp [hb] at h3
  | some c =>
    simp only [hb] at h3
    simp only [evV, hA] at hev
    -- the body's run
    have main : ∃ x e1 st1 rv, evC A n fn.body (env0 (ps ++ caps)) { st with low := st.boxes.length } = some (x, e1, st1) ∧ (x = .normal ∨ x = .ret) ∧ resOf e1 st1 fn.results = some rv ∧ leave st st1 rv = (v, st') := by
      split at hev
      · rename_i e1 st1 he
        simp only [Option.map_eq_some_iff] at hev
        obtain ⟨rv, hrv, hlv⟩ := hev
        exact ⟨_, e1, st1, rv, he, .inl rfl, hrv, hlv⟩
      · rename_i e1 st1 he
        simp only [Option.map_eq_some_iff] at hev
        obtain ⟨rv, hrv, hlv⟩ := hev
        exact ⟨_, e1, st1, rv, he, .inr rfl, hrv, hlv⟩
      · cases hev
    obtain ⟨x, e1, st1, rv, he, hx, hrv, hlv⟩ := main
    have hplain : CallsIn F.plain nn P f' args w Rr := by
      refine callsIn_of_wp_marks hpf hb (hF.2 f') ?_ rfl
      have hTK := (ev_TK A n).1 _ _ _ _ _ _ he (Nat.le_refl _)
      refine hC F.plain ⟨hF.1, hF.2⟩ fn.nt c fn.body h3 base κ w { st with low := st.boxes.length } _ (env0 (ps ++ caps)) w.heap.size x e1 st1 nn _ (hsr.low _) ?_ ⟨by simp, List.Pairwise.nil⟩ (fun h => rfl) (.inl rfl) (Nat.le_refl _) (Nat.le_refl _) he ?_
      · refine ⟨by simp; omega, fun t => ?_⟩
        simp only [env0, Array.getD_eq_getD_getElem?, Array.getElem?_append, List.getD_eq_getElem?_getD]
        by_cases ht : t < args.size
        · rw [if_pos ht]
          have hq : (ps ++ caps)[t]? = some (ps ++ caps)[t] := by simp []
          rw [hq, Array.getElem?_eq_getElem ht]
          exact hargs t _ _ (Array.getElem?_eq_getElem ht) hq
        · rw [if_neg ht, List.getElem?_eq_none (by omega)]
          rw [Array.getElem?_replicate]
          split <;> exact .undef
      · intro κ1 a1 w1 k1 k2 k3 k4 k5 k6 k7
        have hleave : LeavesInM F.plain nn P pf a1.tmps Rr a1.defers .returning w1 := by
          refine leaves_sim (κ := κ1) (w0 := w) k4 h2 hrv (fun l D hm => ?_) hsr.hb (fun w2 z s1 s2 s3 => ?_) a1.defers w1 k3 (by rw [k2]; exact k7) k5
          · rw [k2] at hm
            obtain ⟨k, hkk⟩ := List.getElem?_of_mem hm
            have hlt : k < st.loops.length := by rw [← hsr.ll]; exact (List.getElem?_eq_some_iff.1 hkk).1
            obtain ⟨rec, nt, _, _, _, _, _, _, _, _, _, c10⟩ := (hsr.lp k l D _ (by simp [hlt]; rfl) hkk).ex
            exact (Array.getElem?_eq_some_iff.1 c10).1
          · rw [k2] at s2
            obtain ⟨κ', q1, q2, q3, q4⟩ := leave_sim (z := z) (v := rv) hsr s1 k1 k2 s2 hTK s3
            rw [hlv] at q3 q4
            exact hk κ' z w2 q1 q2 q3 q4 s2
        rcases hx with rfl | rfl
        · exact hleave
        · exact hleave
    exact hplain

def SimY (P : Program) (g : GMap) (A : AP) (n : Nat) : Prop :=
  ∀ (F : Fence), Wide F → ∀ (base : Nat) (κ : K) (w : World) (st : St) (k l D : Nat) (args : Array Value) (ps : List PV) (v : PV) (st' : St), SR P g base κ w st → κ.lam[k]? = some (l, D) → args.size = ps.length →
    (∀ (i : Nat) (u : Value) (q : PV), args[i]? = some u → ps[i]? = some q → R g κ u q) → st.low ≤ st.boxes.length → evV A n (.yld k) ps st = some (v, st') → UpGood P g base κ w F ((Instr.yield l args).run P w) v st'

theorem zip_fold {nt : Nat} {κ : K} : ∀ (ps : List Nat) (vs : List Value) (qs : List PV) (tmps : Array Value) (e : Env), vs.length = qs.length → (∀ (i : Nat) (u : Value) (q : PV), vs[i]? = some u → qs[i]? = some q → R g κ u q) → (∀ p ∈ ps, p < nt) → EnvR g κ nt tmps e →
    EnvR g κ nt ((ps.zip vs).foldl (fun tmps (q : Nat × Value) => tmps.setIfInBounds q.1 q.2) tmps) (updAll e ps qs) := by
  intro ps
  induction ps with
  | nil => intro vs qs tmps e _ _ _ h; simpa [updAll] using h
  | cons p ps ih =>
    intro vs qs tmps e hl hr hp h
    cases vs with
    | nil =>
      cases qs with
      | nil => simpa [updAll] using h
      | cons => simp at hl
    | cons v vs =>
      cases qs with
      | nil => simp at hl
      | cons q qs =>
        simp only [List.zip_cons_cons, List.foldl_cons, updAll]
        refine ih vs qs _ _ (by simpa using hl) (fun i u q a b => hr (i + 1) u q (by simpa using a) (by simpa using b)) (fun x hx => hp x (by simp [hx])) ?_
        exact EnvR.put (a := { tmps := tmps, defers := [] }) h (hp p (by simp)) (hr 0 v q rfl rfl)

theorem simY_of (n : Nat) (hC : SimC P g A n) : SimY P g A (n + 1) := by
  intro F hF base κ w st k l D args ps v st' hsr hl hsz hargs hlow hev
  have hbl : base ≤ l := hsr.lb l D (List.mem_of_getElem? hl)
  simp only [evV] at hev
  split at hev
  · rename_i r hr
    split at hev
    · rename_i hcond
      obtain ⟨hst, hlen⟩ := hcond
      split at hev
      · rename_i e1 s1 hasg
        split at hev
        · rename_i r1 hr1
          split at hev
          · rename_i hst1
            split at hev
            · rename_i x e2 s2 hbody
              split at hev
              · rename_i r2 hr2
                cases hev
                obtain ⟨rec, nt, c1, c2, c3, c4, c5, c6, c7, c8, c9, c10⟩ := (hsr.lp k l D r hr hl).ex
                have hparams : args.size = rec.params.size := by rw [hsz, hlen, ← c4]; simp
                have hTK1 := (ev_TK A n).1 _ _ _ _ _ _ hasg hlow
                intro nn o a next Q hnext
                rw [run_yield c1 hparams]
                refine ⟨hF.deep, ?_⟩
                refine roundIn_of_wpIn (hF.2 _) ?_
                have hE0 : EnvR g κ nt ((rec.params.zip args).foldl (fun tmps (q : Nat × Value) => tmps.setIfInBounds q.1 q.2) rec.tmps) (updAll r.env r.params ps) := by
                  have := zip_fold (g := g) (κ := κ) r.params args.toList ps rec.tmps r.env (by simpa using hsz) (fun i u q a b => hargs i u q (by simpa using a) b) c8 c5
                  rw [← c4] at this ⊢
                  rw [← Array.foldl_toList]
                  simpa using this
                refine hC (F.inRound l) (hF.inRound l) nt rec.assign r.assign c6 base κ w st { tmps := _, defers := [] } _ 0 .normal e1 s1 (nn - 1) _ hsr hE0 ⟨by simp, List.Pairwise.nil⟩ (fun _ => rfl) (.inr ⟨k, l, D, rfl, hl⟩) (Nat.zero_le _) hlow hasg ?_
                intro κ1 a1 w1 k1 k2 k3 k4 k5 k6 k7
                -- the record is busy
                have hl1 : κ1.lam[k]? = some (l, D) := by rw [k2]; exact hl
                obtain ⟨rec1, nt1, d1, d2, d3, d4, d5, d6, d7, d8, d9, d10⟩ := (k3.lp k l D r1 hr1 hl1).ex
                have hready : rec1.state = .ready := by rw [d2, hst1]; rfl
                refine ⟨_, run_beginRound d1 hready, ?_⟩
                have hlm : l ∈ κ1.lam.map (·.1) := List.mem_map.2 ⟨(l, D), List.mem_of_getElem? hl1, rfl⟩
                obtain ⟨rec', x1, x2⟩ := k7.loops l rec (by rw [k2] at hlm; exact hlm) c1
                rw [d1] at x1; cases x1
                obtain ⟨r1', y1, y2⟩ := hTK1.lk k r hr
                rw [hr1] at y1; cases y1
                have hsr1 := k3.setLoop (rec' := { rec1 with state := .busy }) (r' := { r1 with status := 1 }) hr1 hl1 d1 ⟨rfl, rfl, rfl, rfl, rfl⟩ ⟨rfl, rfl, rfl, rfl⟩ rfl d3
                have hfr1 : Fr base κ1.lam w1 (w1.putObj l (.loop { rec1 with state := .busy })) := Fr.setLoop hbl hlm d1 ⟨rfl, rfl, rfl, rfl, rfl⟩
                have hchk : chkCode P g nt rec.body r.body = true := c7
                have ha1d : a1.defers = [] := k6 rfl
                refine hC (F.inRound l) (hF.inRound l) nt rec.body r.body hchk base κ1 _ _ a1 e1 0 x e2 s2 (nn - 1) _ hsr1 k4 (by rw [ha1d]; exact ⟨by simp, List.Pairwise.nil⟩) (fun _ => ha1d) (.inr ⟨k, l, D, rfl, hl1⟩) (Nat.zero_le _) hTK1.lw hbody ?_
                intro κ2 a2 w2 m1 m2 m3 m4 m5 m6 m7
                have hl2 : κ2.lam[k]? = some (l, D) := by rw [m2]; exact hl1
                obtain ⟨rec2, nt2, f1, f2, f3, f4, f5, f6, f7, f8, f9, f10⟩ := (m3.lp k l D r2 hr2 hl2).ex
                have hlm2 : l ∈ κ2.lam.map (·.1) := List.mem_map.2 ⟨(l, D), List.mem_of_getElem? hl2, rfl⟩
                have fin : ∀ (jump : Option Code), jump = pendOf x → ∃ v w', (Instr.endRound l jump).run P w2 = .ok v w' ∧ (match (Ending.returned v : Ending) with | .returned v => next (a.put o.dst v) w' | _ => True) := by
                  rintro jump rfl
                  refine ⟨_, _, run_endRound _ f1, ?_⟩
                  have hnorm : (pendOf x).isNone = decide (x = .normal) := by cases x <;> rfl
                  have hsr2 := m3.setLoop (rec' := { rec2 with state := if (pendOf x).isNone then .ready else .done, pending := pendOf x }) (r' := { r2 with status := if x = .normal then 0 else 2, pend := x }) hr2 hl2 f1 ⟨rfl, rfl, rfl, rfl, rfl⟩ ⟨rfl, rfl, rfl, rfl⟩ (by cases x <;> rfl) rfl
                  have hfr2 : Fr base κ2.lam w2 (w2.putObj l (.loop { rec2 with state := if (pendOf x).isNone then .ready else .done, pending := pendOf x })) := Fr.setLoop hbl hlm2 f1 ⟨rfl, rfl, rfl, rfl, rfl⟩
                  refine hnext κ2 _ _ (k1.trans m1) (m2.trans k2) hsr2 (by rw [hnorm]; exact .bool _) ?_
                  rw [m2, k2] at hfr2
                  rw [k2] at m7 hfr1
                  exact (k7.trans hfr1).trans (m7.trans hfr2)
                cases x with
                | normal => exact fin none rfl
                | ret => exact fin (some .ret) rfl
                | exit i => exact fin (some (.exit i)) rfl
                | goto t => exact fin (some (.goto t)) rfl
              · cases hev
            · cases hev
          · cases hev
        · cases hev
      · cases hev
    · cases hev
  · cases hev

end Go.Ab
/-
  The simulation: all constructs.
-/
namespace Go.Ab

variable {P : Program} {g : GMap} {A : AP}

def LoopRun (F : Fence) (nn : Nat) (P : Program) (body : Code) (Q : Exit → Act → World → Prop) (a : Act) (w : World) : Prop :=
  ∀ (b : Frame) (k : List Item) (cs : List Frame), b.roundOf = F.round → F.fn b.fn → F.room (cs.length + 1 + nn) →
    ∃ e a' w', Q e a' w' ∧ ArrivesIn (Machine.fenced P F) P (lone (b.atR a (.code body :: .inLoop body :: k)) cs w) b k cs e a' w'

theorem loopRun_step {F : Fence} {nn : Nat} {c : Code} {Q : Exit → Act → World → Prop} {a : Act} {w : World} (h : c.wpIn F nn P (Exit.then (LoopRun F nn P c Q) Q) a w) : LoopRun F nn P c Q a w := by
  intro b k cs hro hb hr
  obtain ⟨e, a₁, w₁, hq, harr⟩ := h b (.inLoop c :: k) cs hro hb hr
  cases e with
  | normal =>
    obtain ⟨e₂, a₂, w₂, hq₂, harr₂⟩ := hq b k cs hro hb hr
    exact ⟨e₂, a₂, w₂, hq₂, .of_steps (StepsIn.trans harr (.one (fenced_calm hb hr rfl) stepR_inLoop)) harr₂⟩
  | exit id => exact ⟨_, a₁, w₁, hq, .pass (x := .inLoop c) rfl (fun _ _ => .inl (by simp)) harr⟩
  | goto l => exact ⟨_, a₁, w₁, hq, .pass (x := .inLoop c) rfl (fun _ _ => .inl (by simp)) harr⟩
  | ret => exact ⟨_, a₁, w₁, hq, .pass (x := .inLoop c) rfl (fun _ _ => .inl (by simp)) harr⟩
  | panic ch => exact ⟨_, a₁, w₁, hq, .pass (x := .inLoop c) rfl (fun _ _ => .inl (by simp)) harr⟩
  | outgrown => exact ⟨_, a₁, w₁, hq, .pass (x := .inLoop c) rfl (fun _ _ => .inl (by simp)) harr⟩

theorem wpIn_loopRun {F : Fence} {nn : Nat} {c : Code} {Q : Exit → Act → World → Prop} {a : Act} {w : World} (h : LoopRun F nn P c Q a w) : (Code.loop c).wpIn F nn P Q a w := by
  intro b k cs hro hb hr
  obtain ⟨e, a', w', hq, harr⟩ := h b k cs hro hb hr
  exact ⟨e, a', w', hq, .of_steps (.one (fenced_calm hb hr rfl) stepR_loop) harr⟩

def SimL (P : Program) (g : GMap) (A : AP) (n : Nat) : Prop :=
  ∀ (F : Fence), Wide F → ∀ (nt : Nat) (body : Code) (ab : ACode), chkCode P g nt body ab = true → ∀ (base : Nat) (κ : K) (w : World) (st : St) (a : Act) (e : Env) (B : Nat) (x : Ex) (e' : Env) (st' : St) (nn : Nat) (Q : Exit → Act → World → Prop),
    SR P g base κ w st → EnvR g κ nt a.tmps e → DefOK B w a.defers → (F.round.isSome = true → a.defers = []) → RoundOK F κ → B ≤ w.heap.size → st.low ≤ st.boxes.length → evC A n (.loop ab) e st = some (x, e', st') →
    Cont P g F nt base B κ w x e' st' Q → LoopRun F nn P body Q a w

theorem RoundOK.lam {F : Fence} {κ κ' : K} (h : RoundOK F κ) (hl : κ'.lam = κ.lam) : RoundOK F κ' := by
  unfold RoundOK; rw [hl]; exact h

theorem simS_of (n : Nat) (hC : SimC P g A n) (hS : SimS P g A n) : SimS P g A (n + 1) := by
  intro F hF nt body cur ab acur hb hc base κ w st a e B x e' st' nn Q hsr hE hd hrd hro hB hlow hev hQ
  simp only [evC] at hev
  refine scopeRun_step ?_
  cases hcur : evC A n acur e st with
  | none => rw [hcur] at hev; simp at hev
  | some q =>
    obtain ⟨x1, e1, st1⟩ := q
    rw [hcur] at hev
    refine hC F hF nt cur acur hc base κ w st a e B x1 e1 st1 nn _ hsr hE hd hrd hro hB hlow hcur ?_
    intro κ1 a1 w1 k1 k2 k3 k4 k5 k6 k7
    have hQ1 := Cont.step hQ k1 k2 k7
    have hTK := (ev_TK A n).1 _ _ _ _ _ _ hcur hlow
    have same : x1 = x → e1 = e' → st1 = st' → Q (exOf x1) a1 w1 := by
      rintro rfl rfl rfl
      exact hQ κ1 a1 w1 k1 k2 k3 k4 k5 k6 k7
    cases x1 with
    | normal => simp at hev; obtain ⟨rfl, rfl, rfl⟩ := hev; exact same rfl rfl rfl
    | ret => simp at hev; obtain ⟨rfl, rfl, rfl⟩ := hev; exact same rfl rfl rfl
    | exit i => simp at hev; obtain ⟨rfl, rfl, rfl⟩ := hev; exact same rfl rfl rfl
    | goto l =>
      obtain ⟨f1, f2⟩ := findLabel_sim (P := P) (g := g) (nt := nt) body ab l hb
      simp only [exOf]
      cases hf : findLabelA ab l with
      | none =>
        rw [f2 hf]
        simp [hf] at hev; obtain ⟨rfl, rfl, rfl⟩ := hev
        exact same rfl rfl rfl
      | some ar =>
        obtain ⟨r, r1, r2⟩ := f1 ar hf
        rw [r1]
        simp [hf] at hev
        have hs1 := k7.below.size
        exact hS F hF nt body r ab ar hb r2 base κ1 w1 st1 a1 e1 B x e' st' nn Q k3 k4 k5 k6 (hro.lam k2) (by omega) hTK.lw hev hQ1

theorem simL_of (n : Nat) (hC : SimC P g A n) (hL : SimL P g A n) : SimL P g A (n + 1) := by
  intro F hF nt body ab hb base κ w st a e B x e' st' nn Q hsr hE hd hrd hro hB hlow hev hQ
  simp only [evC] at hev
  refine loopRun_step ?_
  cases hcur : evC A n ab e st with
  | none => rw [hcur] at hev; simp at hev
  | some q =>
    obtain ⟨x1, e1, st1⟩ := q
    rw [hcur] at hev
    refine hC F hF nt body ab hb base κ w st a e B x1 e1 st1 nn _ hsr hE hd hrd hro hB hlow hcur ?_
    intro κ1 a1 w1 k1 k2 k3 k4 k5 k6 k7
    have hQ1 := Cont.step hQ k1 k2 k7
    have hTK := (ev_TK A n).1 _ _ _ _ _ _ hcur hlow
    have hs1 := k7.below.size
    cases x1 with
    | normal =>
      simp at hev
      exact hL F hF nt body ab hb base κ1 w1 st1 a1 e1 B x e' st' nn Q k3 k4 k5 k6 (hro.lam k2) (by omega) hTK.lw hev hQ1
    | ret => simp at hev; obtain ⟨rfl, rfl, rfl⟩ := hev; exact hQ κ1 a1 w1 k1 k2 k3 k4 k5 k6 k7
    | exit i => simp at hev; obtain ⟨rfl, rfl, rfl⟩ := hev; exact hQ κ1 a1 w1 k1 k2 k3 k4 k5 k6 k7
    | goto l => simp at hev; obtain ⟨rfl, rfl, rfl⟩ := hev; exact hQ κ1 a1 w1 k1 k2 k3 k4 k5 k6 k7

theorem run_callFunc_code {f1 : FuncId} {pf : Func} {fn : ACFn} {w1 : World} {args : Array Value} (hpf : P.funcs[f1]? = some pf) (hchk : chkFn P g pf fn = true) : (callFunc f1 args).run P w1 = .ok (.enter f1 args) w1 := by
  simp only [chkFn, Bool.and_eq_true, decide_eq_true_eq] at hchk
  have hb : pf.body.isNone = false := by
    cases hb : pf.body with
    | none => simp [hb] at hchk
    | some c => rfl
  have hn : (pf.name == "runtime.NumGoroutine") = false := by simpa using hchk.2
  unfold callFunc
  simp only [Sem.run_bind, Go.program, Sem.run, Result.andThen, hpf, hn, hb]
  rfl

theorem simV_of (hL : Linked P g A) (n : Nat) (hC : SimC P g A n) : SimV P g (evV A (n + 1)) := by
  intro F hF base κ w st fv fp args ps v st' hsr hfv hsz hargs hlow hev
  cases hfv with
  | fn f' f cv cap h hl hk hr =>
    refine ⟨{ target := .fn (.func f') cv, args := #[] ++ args }, fun w1 => rfl, ?_⟩
    have hsz2 : (args ++ cv).size = (ps ++ cap).length := by simp [hsz, hl]
    have hargs2 : ∀ (i : Nat) (u : Value) (q : PV), (args ++ cv)[i]? = some u → (ps ++ cap)[i]? = some q → R g κ u q := by
      intro i u q a b
      rw [Array.getElem?_append] at a
      by_cases hi : i < args.size
      · rw [if_pos hi] at a
        rw [List.getElem?_append_left (by omega)] at b
        exact hargs i u q a b
      · rw [if_neg hi] at a
        rw [List.getElem?_append_right (by omega), ← hsz] at b
        exact hr _ u q a b
    have hinv : (invoke (Target.fn (.func f') cv) (#[] ++ args)) = callFunc f' (args ++ cv) := by simp [invoke]
    simp only [hinv]
    cases hA : A f with
    | none => simp [evV, hA] at hev
    | some af =>
      cases af with
      | prim p =>
        simp only [evV, hA, Option.map_eq_some_iff] at hev
        obtain ⟨v1, hv1, hv2⟩ := hev
        cases hv2
        exact hL.prim f' f p h hA base κ w st (args ++ cv) (ps ++ cap) v hsr hsz2 hargs2 hv1 F hF
      | primS p =>
        simp only [evV, hA] at hev
        split at hev
        · rename_i v1 u1 hv1
          simp only [Option.map_eq_some_iff, Prod.mk.injEq] at hev
          obtain ⟨st2, hs2, rfl, rfl⟩ := hev
          exact hL.primS f' f p h hA base κ w st (args ++ cv) (ps ++ cap) _ u1 _ hsr hsz2 hargs2 hv1 hs2 F hF
        · cases hev
      | code fn =>
        obtain ⟨pf, hpf, hchk⟩ := hL.code f' f fn h hA
        have hcf : (callFunc f' (args ++ cv)).run P w = .ok (.enter f' (args ++ cv)) w := by
          exact run_callFunc_code hpf hchk
        rw [hcf]
        intro nn o a next Q hnext
        refine ⟨hF.deep, ?_⟩
        refine simF_of hL n hC F hF f' f fn cap h hA base κ w st (args ++ cv) ps v st' (nn - 1) _ hsr hsz2 hargs2 hlow hev ?_
        intro κ' z w' a1 a2 a3 a4 a5
        exact hnext κ' z w' a1 a2 a3 a4 a5
  | yld k l d h =>
    refine ⟨{ target := .fn (.yield l) #[], args := #[] ++ args }, fun w1 => rfl, ?_⟩
    have hinv : (invoke (Target.fn (.yield l) #[]) (#[] ++ args)) = Instr.yield l args := by simp [invoke]
    simp only [hinv]
    exact simY_of n hC F hF base κ w st k l d args ps v st' hsr h hsz hargs hlow hev
  | _ => simp [evV] at hev

theorem pop_sim {base : Nat} {κ κ3 : K} {w w3 w4 : World} {st st1 : St} {l D : Nat} (h0 : SR P g base κ w st) (h3 : SR P g base κ3 w3 st1) (hle : K.le κ κ3) (hlam : κ3.lam = κ.lam ++ [(l, D)]) (hnew : w.heap.size ≤ l)
    (hln : st1.loops.length = st.loops.length + 1) (hlk : ∀ (k : Nat) (r : LoopS), st.loops[k]? = some r → ∃ r1, st1.loops[k]? = some r1 ∧ SameLoop r r1)
    (hlike : ∀ (k : Nat) (r : Loop), k ∈ κ.lam.map (·.1) → w.heap[k]? = some (.loop r) → ∃ r', w3.heap[k]? = some (.loop r') ∧ LoopLike r r')
    (hsz : w3.heap.size ≤ w4.heap.size) (hoth : ∀ k, k ≠ l → w4.heap[k]? = w3.heap[k]?) (hrec : ∃ rec, w3.heap[l]? = some (.loop rec)) :
    K.le κ { κ3 with lam := κ.lam } ∧ SR P g base { κ3 with lam := κ.lam } w4 { st1 with loops := st1.loops.take st.loops.length } := by
  obtain ⟨rec, hrec⟩ := hrec
  have hle' : K.le κ { κ3 with lam := κ.lam } := ⟨hle.C, hle.φ, fun _ _ h => h, hle.τ, hle.S, hle.μ⟩
  refine ⟨hle', h3.objs (fun k o ho hc => ?_) hsz rfl rfl rfl rfl rfl rfl rfl (fun v p ⟨n, hn⟩ hr => ?_) ?_ h0.ln h0.lb ?_⟩
  · rw [hoth k (by rintro rfl; rw [hrec] at ho; cases ho; simp [isCells] at hc)]; exact ho
  · exact R.restrict (κ := κ3) (κ' := { κ3 with lam := κ.lam }) (n := n) (T := fun _ => True) (fun _ _ h => h) (fun _ _ _ h => h) (fun _ _ _ h => ⟨h, rfl⟩) (fun _ _ _ h => h) hr hn (fun _ _ => trivial)
  · simp [h0.ll, hln]
  · intro k l' D' r1 a b
    have hk : k < st.loops.length := by
      have := (List.getElem?_eq_some_iff.1 b).1
      rw [← h0.ll]; exact this
    rw [List.getElem?_take, if_pos hk] at a
    have hr0 : st.loops[k]? = some st.loops[k] := by simp [hk]
    obtain ⟨r1', a1, a2⟩ := hlk k _ hr0
    rw [a] at a1; cases a1
    obtain ⟨rec0, nt0, b1, b2, b3, b4, b5, b6, b7, b8, b9, b10⟩ := (h0.lp k l' D' _ hr0 b).ex
    have b' : κ3.lam[k]? = some (l', D') := by
      rw [hlam, List.getElem?_append_left (by rw [h0.ll]; exact hk)]; exact b
    obtain ⟨rec1, nt1, c1, c2, c3, c4, c5, c6, c7, c8, c9, c10⟩ := (h3.lp k l' D' r1 a b').ex
    obtain ⟨rec', d1, d2⟩ := hlike l' rec0 (List.mem_map.2 ⟨(l', D'), List.mem_of_getElem? b, rfl⟩) b1
    rw [c1] at d1; cases d1
    have hl' : l' ≠ l := by
      rintro rfl
      have := (Array.getElem?_eq_some_iff.1 b1).1
      omega
    refine ⟨rec1, nt0, by rw [hoth _ hl']; exact c1, c2, c3, c4, ?_, ?_, ?_, ?_, c9, ?_⟩
    · rw [d2.tmps, a2.env]; exact b5.mono hle'
    · rw [d2.assign, a2.assign]; exact b6
    · rw [d2.body, a2.body]; exact b7
    · rw [a2.params]; exact b8
    · rw [hoth _ (by rintro rfl; rw [hrec] at c10; cases c10)]; exact c10

theorem rangeFunc_sim (hL : Linked P g A) (n : Nat) (hF0 : SimF P g A n) {F : Fence} (hF : Wide F) {nt : Nat} {f : Operand} {ps : Array Tmp} {asg body : Code} {f' : Opd} {ps' : List Nat} {asg' body' : ACode}
    (c1 : chkOpd g f f' = true) (c2 : ps.toList = ps') (c3 : ∀ p ∈ ps', p < nt) (c4 : chkCode P g nt asg asg' = true) (c5 : chkCode P g nt body body' = true) {base : Nat} {κ : K} {w : World} {st : St} {a : Act} {e : Env} {B : Nat} {x : Ex} {e' : Env} {st' : St} {nn : Nat}
    {Q : Exit → Act → World → Prop} (hsr : SR P g base κ w st) (hE : EnvR g κ nt a.tmps e) (hd : DefOK B w a.defers) (hrd : F.round.isSome = true → a.defers = []) (hro : RoundOK F κ) (hB : B ≤ w.heap.size) (hlow : st.low ≤ st.boxes.length)
    (hev : evC A (n + 1) (.rangeFunc f' ps' asg' body') e st = some (x, e', st')) (hQ : Cont P g F nt base B κ w x e' st' Q) : (Code.rangeFunc f ps asg body).wpIn F nn P Q a w := by
  simp only [evC] at hev
  have hfv := opdR_of hsr.gv hE f f' c1
  cases hf : f'.ev e with
  | fn fid caps =>
    rw [hf] at hev hfv
    simp only at hev
    cases hA : A fid with
    | none => simp [hA] at hev
    | some af =>
      cases af with
      | prim p => simp [hA] at hev
      | primS p => simp [hA] at hev
      | code fn =>
        simp only [hA] at hev
        generalize hgen : a.eval f = fv at hfv
        cases hfv with
        | fn f1 _ cv _ hg hcl hck hcr =>
          -- the record, wherever the statement stands
          have core : ∀ (fnid : FuncId) (l D : Nat) (mark : List Deferred) (w1 : World), (Instr.enterLoop fnid a.tmps ps asg body F.round).run P w = .ok (l, mark) w1 → w.heap.size ≤ l → Fr base κ.lam w w1 →
              K.le κ { κ with lam := κ.lam ++ [(l, D)] } → SR P g base { κ with lam := κ.lam ++ [(l, D)] } w1 { st with loops := st.loops ++ [{ env := e, params := ps', assign := asg', body := body', status := 0, pend := .normal }] } →
              (∀ (k : Nat) (o : Obj), w.heap[k]? = some o → w1.heap[k]? = some o) →
              (∀ (w4 : World), (∀ (k : Nat) (o : Obj), w1.heap[k]? = some o → isCells o = false → k ∉ κ.lam.map (·.1) → k ≠ l → w4.heap[k]? = some o) → DefOK B w a.defers → DefOK B w4 (mark ++ a.defers)) → (F.round.isSome = true → mark ++ a.defers = []) →
              ∃ (l : Nat) (mark : List Deferred) (w₁ : World) (d : Deferred) (w₁' : World) (f2 : FuncId) (args : Array Value) (w₂ : World),
                (Instr.enterLoop fnid a.tmps ps asg body F.round).run P w = .ok (l, mark) w₁ ∧ (resolve a.eval (rangeCall f l) 0).run P w₁ = .ok d w₁' ∧ (∀ f', Target.leads P w₁' d.target d.args = some f' → F.fn f') ∧
                (invoke d.target d.args).run P w₁' = .ok (.enter f2 args) w₂ ∧ (F.depth.isSome = true → 1 ≤ nn) ∧ CallsIn F (nn - 1) P f2 args w₂ (rangePost F nn P l Q { a with defers := mark ++ a.defers }) := by
            intro fnid l D mark w1 hent hnew hfr1 hle1 hsr1 hold hmark hmark2
            obtain ⟨pf, hpf, hchk⟩ := hL.code f1 fid fn hg hA
            have hcf : ∀ args : Array Value, (callFunc f1 args).run P w1 = .ok (.enter f1 args) w1 := by
              intro args
              exact run_callFunc_code hpf hchk
            split at hev
            · rename_i v1 st1 hcall
              split at hev
              · rename_i r hr
                split at hev
                · cases hev
                · rename_i hst
                  simp only [Option.some.injEq, Prod.mk.injEq] at hev
                  obtain ⟨rfl, rfl, rfl⟩ := hev
                  refine ⟨l, mark, w1, { target := .fn (.func f1) cv, args := #[] ++ #[.func (.yield l) #[] #[]] }, w1, f1, #[.func (.yield l) #[] #[]] ++ cv, w1, hent, ?_, fun f' _ => hF.2 f', ?_, hF.deep, ?_⟩
                  · have hm : (#[Operand.const (.func (.yield l) #[] #[])] : Array Operand).map a.eval = #[.func (.yield l) #[] #[]] := by simp [Act.eval]
                    simp only [resolve, hgen, hm, Deferred.ofValue]
                    rfl
                  · have : (invoke (Target.fn (.func f1) cv) (#[] ++ #[.func (.yield l) #[] #[]])) = callFunc f1 (#[.func (.yield l) #[] #[]] ++ cv) := by simp [invoke]
                    simp only [this]
                    exact hcf _
                  · have hlamk : ({ κ with lam := κ.lam ++ [(l, D)] } : K).lam[st.loops.length]? = some (l, D) := by
                      rw [← hsr.ll]; simp
                    have hTK := (ev_TK A n).2 _ _ _ _ _ hcall hlow
                    refine hF0 F hF f1 fid fn caps hg hA base _ w1 _ _ [.yld st.loops.length] v1 st1 (nn - 1) _ hsr1 (by simp [hcl]; omega) ?_ hlow hcall ?_
                    · intro i u q p1 p2
                      cases i with
                      | zero =>
                        rw [Array.getElem?_append_left (by simp)] at p1
                        simp at p1 p2; subst p1 p2
                        exact .yld _ l D hlamk
                      | succ i =>
                        rw [Array.getElem?_append_right (by simp)] at p1
                        simp at p1 p2
                        exact (hcr i u q p1 p2).mono hle1
                    · intro κ3 z w3 k1 k2 k3 k4 k5
                      obtain ⟨rec, nt3, d1, d2, d3, d4, d5, d6, d7, d8, d9, d10⟩ := (k3.lp st.loops.length l D r hr (by rw [k2]; exact hlamk)).ex
                      have hnb : rec.state ≠ .busy := by
                        rw [d2]
                        match hs : r.status with
                        | 0 => simp [stOf]
                        | 1 => exact absurd hs hst
                        | k + 2 => simp [stOf]
                      refine ⟨_, _, run_endLoop d1 hnb, ?_⟩
                      have hlnew : l ∉ κ.lam.map (·.1) := fun hm => by
                        obtain ⟨rec', hr'⟩ := hsr.loopAt hm
                        have := (Array.getElem?_eq_some_iff.1 hr').1
                        omega
                      have hle3 : K.le κ κ3 := hle1.trans k1
                      have hmem : ∀ k, k ∈ κ.lam.map (·.1) → k ∈ (κ.lam ++ [(l, D)]).map (·.1) := fun k hk => by
                        rw [List.map_append, List.mem_append]; exact .inl hk
                      have hoth : ∀ k, k ≠ l → (w3.putObj l (.loop { rec with state := .exhausted })).heap[k]? = w3.heap[k]? := fun k hk => World.putObj_heap_other hk
                      have hobj4 : ∀ (k : Nat) (o : Obj), w1.heap[k]? = some o → isCells o = false → k ∉ κ.lam.map (·.1) → k ≠ l → (w3.putObj l (.loop { rec with state := .exhausted })).heap[k]? = some o := fun k o p1 p2 p3 p4 => by
                        rw [hoth k p4]
                        exact k5.objs k o p1 p2 (by
                          rw [List.map_append, List.mem_append]
                          rintro (h | h)
                          · exact p3 h
                          · simp at h; exact p4 h)
                      obtain ⟨hle4, hsr4⟩ := pop_sim (w4 := w3.putObj l (.loop { rec with state := .exhausted })) hsr k3 hle3 k2 hnew (by rw [hTK.ln]; simp)
                        (fun k r0 h0 => by
                          have hk := (List.getElem?_eq_some_iff.1 h0).1
                          exact hTK.lk k r0 (by simp only; rw [List.getElem?_append_left hk]; exact h0))
                        (fun k r0 h0 h1 => k5.loops k r0 (hmem k h0) (hold k _ h1))
                        (by simp) hoth ⟨rec, d1⟩
                      have hfr4 : Fr base κ.lam w (w3.putObj l (.loop { rec with state := .exhausted })) := by
                        have hbl : base ≤ l := Nat.le_trans hsr.hb hnew
                        refine ⟨⟨?_, ?_, ?_, ?_, fun k hk => ?_⟩, fun k o p1 p2 p3 => ?_, fun k r0 p1 p2 => ?_⟩
                        · exact k5.below.os.trans hfr1.below.os
                        · exact k5.below.tape.trans hfr1.below.tape
                        · exact k5.below.output.trans hfr1.below.output
                        · simpa using Nat.le_trans hfr1.below.size k5.below.size
                        · rw [hoth k (by omega), k5.below.block k hk, hfr1.below.block k hk]
                        · have := (Array.getElem?_eq_some_iff.1 p1).1
                          exact hobj4 k o (hold k o p1) p2 p3 (by omega)
                        · have := (Array.getElem?_eq_some_iff.1 p2).1
                          obtain ⟨r', q1, q2⟩ := k5.loops k r0 (hmem k p1) (hold k _ p2)
                          exact ⟨r', by rw [hoth k (by omega)]; exact q1, q2⟩
                      have hfin := hQ _ { a with defers := mark ++ a.defers } _ hle4 rfl hsr4 (hE.mono hle4) (hmark _ hobj4 hd) hmark2 hfr4
                      generalize hw4 : w3.putObj l (.loop { rec with state := .exhausted }) = w4 at hfin
                      show (match rec.pending with | none => Q .normal { a with defers := mark ++ a.defers } w4 | some c => c.wpIn F nn P Q { a with defers := mark ++ a.defers } w4)
                      rw [d3]
                      cases hp : r.pend with
                      | normal => rw [hp] at hfin; exact hfin
                      | ret => rw [hp] at hfin; exact wpIn_ret hfin
                      | exit i => rw [hp] at hfin; exact wpIn_exit hfin
                      | goto t => rw [hp] at hfin; exact wpIn_goto hfin
              · cases hev
            · cases hev
          refine wpIn_rangeFunc fun fnid _ => ?_
          rcases hro with hnone | ⟨k0, l0, D0, hsome, hk0⟩
          · -- outermost
            rw [hnone] at core ⊢
            have hw : (w.alloc (.deferred (some []))).heap = w.heap.push (.deferred (some [])) := rfl
            have hsrD := hsr.pushObj (w' := w.alloc (.deferred (some []))) hw
            obtain ⟨q1, q2⟩ := hsrD.addLoop (w' := (w.alloc (.deferred (some []))).alloc (.loop { state := .ready, pending := none, fn := fnid, tmps := a.tmps, params := ps, assign := asg, body := body, defers := w.heap.size }))
              (rec := { state := .ready, pending := none, fn := fnid, tmps := a.tmps, params := ps, assign := asg, body := body, defers := w.heap.size })
              (r := { env := e, params := ps', assign := asg', body := body', status := 0, pend := .normal }) (nt := nt) rfl rfl rfl c2 hE c4 c5 c3 (by rw [hw]; simp)
            have hsz : (w.alloc (.deferred (some []))).heap.size = w.heap.size + 1 := by rw [hw]; simp
            rw [hsz] at q1 q2
            have hfr1 : Fr base κ.lam w (w.alloc (.deferred (some []))) := Fr.push hsr.hb hw rfl rfl rfl
            have hfr2 : Fr base κ.lam (w.alloc (.deferred (some []))) ((w.alloc (.deferred (some []))).alloc (.loop { state := .ready, pending := none, fn := fnid, tmps := a.tmps, params := ps, assign := asg, body := body, defers := w.heap.size })) :=
              Fr.push (by rw [hsz]; have := hsr.hb; omega) rfl rfl rfl rfl
            have hold : ∀ (k : Nat) (o : Obj), w.heap[k]? = some o → ((w.alloc (.deferred (some []))).alloc (.loop { state := .ready, pending := none, fn := fnid, tmps := a.tmps, params := ps, assign := asg, body := body, defers := w.heap.size })).heap[k]? = some o :=
              fun k o ho => push_old (push_old ho)
            refine core fnid (w.heap.size + 1) w.heap.size _ _ (run_enterLoop_outer fnid a.tmps ps asg body) (by omega) (hfr1.trans hfr2) q1 q2 hold ?_ (by simp)
            intro w4 hw4 hd0
            have hnotlam : ∀ D, w.heap[D]? = some (.deferred (some [])) → D ∉ κ.lam.map (·.1) := fun D hD hm => by
              obtain ⟨rec', hr'⟩ := hsr.loopAt hm
              rw [hD] at hr'; cases hr'
            refine ⟨fun d hd' => ?_, ?_⟩
            · simp only [List.singleton_append, List.mem_cons] at hd'
              rcases hd' with rfl | hd'
              · refine ⟨_, rfl, hB, hw4 _ _ ?_ rfl (fun hm => ?_) (by omega)⟩
                · exact push_old (by rw [hw]; simp)
                · obtain ⟨rec', hr'⟩ := hsr.loopAt hm
                  have := (Array.getElem?_eq_some_iff.1 hr').1
                  omega
              · obtain ⟨D, e1, e2, e3⟩ := hd0.1 d hd'
                have := (Array.getElem?_eq_some_iff.1 e3).1
                exact ⟨D, e1, e2, hw4 D _ (hold D _ e3) rfl (hnotlam D e3) (by omega)⟩
            · simp only [List.singleton_append, List.pairwise_cons]
              refine ⟨fun d hd' => ?_, hd0.2⟩
              obtain ⟨D, e1, e2, e3⟩ := hd0.1 d hd'
              have := (Array.getElem?_eq_some_iff.1 e3).1
              rintro rfl
              simp at e1
              omega
          · -- within a round
            rw [hsome] at core ⊢
            obtain ⟨r0, hr0⟩ : ∃ r0, st.loops[k0]? = some r0 := by
              have : k0 < st.loops.length := by rw [← hsr.ll]; exact (List.getElem?_eq_some_iff.1 hk0).1
              exact ⟨_, by simp [this]; rfl⟩
            obtain ⟨rec0, nt0, b1, b2, b3, b4, b5, b6, b7, b8, b9, b10⟩ := (hsr.lp k0 l0 D0 r0 hr0 hk0).ex
            obtain ⟨q1, q2⟩ := hsr.addLoop (w' := w.alloc (.loop { state := .ready, pending := none, fn := fnid, tmps := a.tmps, params := ps, assign := asg, body := body, defers := rec0.defers }))
              (rec := { state := .ready, pending := none, fn := fnid, tmps := a.tmps, params := ps, assign := asg, body := body, defers := rec0.defers })
              (r := { env := e, params := ps', assign := asg', body := body', status := 0, pend := .normal }) (nt := nt) rfl rfl rfl c2 hE c4 c5 c3 (by rw [b9]; exact b10)
            have hfr1 : Fr base κ.lam w (w.alloc (.loop { state := .ready, pending := none, fn := fnid, tmps := a.tmps, params := ps, assign := asg, body := body, defers := rec0.defers })) := Fr.push hsr.hb rfl rfl rfl rfl
            have hdnil : a.defers = [] := hrd (by rw [hsome]; rfl)
            refine core fnid w.heap.size rec0.defers _ _ (run_enterLoop_inner b1 fnid a.tmps ps asg body) (Nat.le_refl _) hfr1 q1 q2 (fun k o ho => push_old ho) ?_ (fun _ => by rw [hdnil]; rfl)
            intro w4 hw4 hd0
            rw [hdnil]
            exact ⟨by simp, List.Pairwise.nil⟩
  | _ => rw [hf] at hev; simp at hev

theorem simC_of (hL : Linked P g A) (n : Nat) (hC : SimC P g A n) (hS : SimS P g A n) (hF0 : SimF P g A n) (hV : SimV P g (evV A n)) (hLo : SimL P g A (n + 1)) : SimC P g A (n + 1) := by
  intro F hF nt c ac hc base κ w st a e B x e' st' nn Q hsr hE hd hrd hro hB hlow hev hQ
  have now : ∀ x1, x = x1 → e' = e → st' = st → Q (exOf x1) a w := by
    rintro x1 rfl rfl rfl
    exact hQ κ a w (K.le.refl κ) rfl hsr hE hd hrd (Fr.refl _ _)
  have ops : ∀ (κ1 : K) (w1 : World) (a1 : Act), K.le κ κ1 → κ1.lam = κ.lam → SR P g base κ1 w1 st' → EnvR g κ1 nt a1.tmps e' → a1.defers = a.defers → Fr base κ.lam w w1 → x = .normal → Q .normal a1 w1 := by
    rintro κ1 w1 a1 h1 h2 h3 h4 h5 h6 rfl
    exact hQ κ1 a1 w1 h1 h2 h3 h4 (by rw [h5]; exact hd.fr hsr h6) (fun h => by rw [h5]; exact hrd h) h6
  cases c with
  | skip =>
    cases ac <;> simp [chkCode] at hc
    simp [evC] at hev; obtain ⟨rfl, rfl, rfl⟩ := hev
    exact wpIn_skip (now .normal rfl rfl rfl)
  | label l =>
    cases ac <;> simp [chkCode] at hc
    simp [evC] at hev; obtain ⟨rfl, rfl, rfl⟩ := hev
    exact wpIn_label (now .normal rfl rfl rfl)
  | ret =>
    cases ac <;> simp [chkCode] at hc
    simp [evC] at hev; obtain ⟨rfl, rfl, rfl⟩ := hev
    exact wpIn_ret (now .ret rfl rfl rfl)
  | exit i =>
    cases ac <;> simp [chkCode] at hc
    subst hc
    simp [evC] at hev; obtain ⟨rfl, rfl, rfl⟩ := hev
    exact wpIn_exit (now (.exit i) rfl rfl rfl)
  | goto l =>
    cases ac <;> simp [chkCode] at hc
    subst hc
    simp [evC] at hev; obtain ⟨rfl, rfl, rfl⟩ := hev
    exact wpIn_goto (now (.goto l) rfl rfl rfl)
  | region id os dr =>
    cases ac <;> simp [chkCode] at hc
    rename_i as
    obtain ⟨hc1, hc2⟩ := hc
    simp only [evC] at hev
    cases hops : evOps (evV A n) as e st with
    | none => rw [hops] at hev; simp at hev
    | some q =>
      obtain ⟨e1, st1⟩ := q
      rw [hops] at hev
      simp at hev; obtain ⟨rfl, rfl, rfl⟩ := hev
      have htk : ∀ f args st v st', evV A n f args st = some (v, st') → st.low ≤ st.boxes.length → TK st st' := fun f args st v st' h h2 => (ev_TK A n).2 f args st v st' h h2
      have hlen := (chkOpers_get hc1).1
      cases dr with
      | false =>
        refine wpIn_region ?_
        rw [show os.size = as.length by simpa using hlen]
        refine idx_ops_sim (B := 0) hV htk hF hc1 _ κ w st a e e1 st1 Q hsr hE hlow (by rw [evIdx_range]; exact hops) ?_
        intro κ1 a1 w1 h1 h2 h3 h4 h5 h6
        exact ops κ1 w1 a1 h1 h2 h3 h4 h5 h6 rfl
      | true =>
        simp at hc2
        refine wpIn_region_any hL.mixed ?_
        have hrem : rem as.length (Array.replicate os.size false) = List.range as.length := by
          unfold rem
          rw [List.filter_eq_self]
          intro i hi
          have : i < os.size := by have := List.mem_range.1 hi; have h2 : os.size = as.length := by simpa using hlen
                                   omega
          simp [Array.getD, this]
        have hfr : Fr base κ.lam w { w with drawn := w.drawn + 1 } := Fr.same rfl rfl rfl rfl
        refine draw_sim hV htk hF hc1 hc2.1 hc2.2 os.size _ κ _ st a e e1 st1 Q (by simp) (fun j o ho hj => by
          have hj2 := (Array.getElem?_eq_some_iff.1 ho).1
          simp [Array.getD, hj2] at hj) ?_ (hsr.heap rfl) hE hlow ?_ ?_
        · rw [hrem]; simp at hlen ⊢; omega
        · rw [hrem, evIdx_range]; exact hops
        · intro κ1 a1 w1 h1 h2 h3 h4 h5 h6
          exact ops κ1 w1 a1 h1 h2 h3 h4 h5 (hfr.trans h6) rfl
  | seq c1 c2 =>
    cases ac <;> simp [chkCode] at hc
    rename_i a1 a2
    simp only [evC] at hev
    refine wpIn_seq ?_
    cases h1 : evC A n a1 e st with
    | none => rw [h1] at hev; simp at hev
    | some q =>
      obtain ⟨x1, e1, st1⟩ := q
      rw [h1] at hev
      refine hC F hF nt c1 a1 hc.1 base κ w st a e B x1 e1 st1 nn _ hsr hE hd hrd hro hB hlow h1 ?_
      intro κ1 b1 w1 k1 k2 k3 k4 k5 k6 k7
      have hTK := (ev_TK A n).1 _ _ _ _ _ _ h1 hlow
      have hs1 := k7.below.size
      cases x1 with
      | normal =>
        simp at hev
        exact hC F hF nt c2 a2 hc.2 base κ1 w1 st1 b1 e1 B x e' st' nn Q k3 k4 k5 k6 (hro.lam k2) (by omega) hTK.lw hev (Cont.step hQ k1 k2 k7)
      | ret => simp at hev; obtain ⟨rfl, rfl, rfl⟩ := hev; exact hQ κ1 b1 w1 k1 k2 k3 k4 k5 k6 k7
      | exit i => simp at hev; obtain ⟨rfl, rfl, rfl⟩ := hev; exact hQ κ1 b1 w1 k1 k2 k3 k4 k5 k6 k7
      | goto l => simp at hev; obtain ⟨rfl, rfl, rfl⟩ := hev; exact hQ κ1 b1 w1 k1 k2 k3 k4 k5 k6 k7
  | cond c0 c1 c2 =>
    cases ac <;> simp [chkCode] at hc
    rename_i d0 a1 a2
    simp only [evC] at hev
    have hcv := opdR_of hsr.gv hE c0 d0 hc.1.1
    split at hev
    · rename_i hb
      rw [hb] at hcv
      generalize hv : a.eval c0 = v at hcv
      cases hcv
      exact wpIn_cond_true hv (hC F hF nt c1 a1 hc.1.2 base κ w st a e B x e' st' nn Q hsr hE hd hrd hro hB hlow hev hQ)
    · rename_i hb
      rw [hb] at hcv
      generalize hv : a.eval c0 = v at hcv
      cases hcv
      exact wpIn_cond_false hv (hC F hF nt c2 a2 hc.2 base κ w st a e B x e' st' nn Q hsr hE hd hrd hro hB hlow hev hQ)
    · cases hev
  | block id b =>
    cases ac <;> simp [chkCode] at hc
    rename_i id' b'
    obtain ⟨rfl, hcb⟩ := hc
    simp only [evC] at hev
    refine wpIn_block ?_
    cases h1 : evC A n b' e st with
    | none => rw [h1] at hev; simp at hev
    | some q =>
      obtain ⟨x1, e1, st1⟩ := q
      rw [h1] at hev
      refine hC F hF nt b b' hcb base κ w st a e B x1 e1 st1 nn _ hsr hE hd hrd hro hB hlow h1 ?_
      intro κ1 b1 w1 k1 k2 k3 k4 k5 k6 k7
      cases x1 with
      | normal => simp at hev; obtain ⟨rfl, rfl, rfl⟩ := hev; exact hQ κ1 b1 w1 k1 k2 k3 k4 k5 k6 k7
      | ret => simp at hev; obtain ⟨rfl, rfl, rfl⟩ := hev; exact hQ κ1 b1 w1 k1 k2 k3 k4 k5 k6 k7
      | goto l => simp at hev; obtain ⟨rfl, rfl, rfl⟩ := hev; exact hQ κ1 b1 w1 k1 k2 k3 k4 k5 k6 k7
      | exit i =>
        simp only [exOf, Exit.inBlock]
        by_cases hi : i = id
        · rw [if_pos hi]
          simp [hi] at hev; obtain ⟨rfl, rfl, rfl⟩ := hev; exact hQ κ1 b1 w1 k1 k2 k3 k4 k5 k6 k7
        · rw [if_neg hi]
          simp [hi] at hev; obtain ⟨rfl, rfl, rfl⟩ := hev; exact hQ κ1 b1 w1 k1 k2 k3 k4 k5 k6 k7
  | loop b =>
    cases ac <;> simp [chkCode] at hc
    rename_i b'
    exact wpIn_loopRun (hLo F hF nt b b' hc base κ w st a e B x e' st' nn Q hsr hE hd hrd hro hB hlow hev hQ)
  | scope b =>
    cases ac <;> simp [chkCode] at hc
    rename_i b'
    simp only [evC] at hev
    exact wpIn_scope (hS F hF nt b b b' b' hc hc base κ w st a e B x e' st' nn Q hsr hE hd hrd hro hB hlow hev hQ)
  | rangeFunc f ps asg body =>
    cases ac <;> simp [chkCode] at hc
    rename_i f' ps' asg' body'
    obtain ⟨⟨⟨⟨d1, d2⟩, d3⟩, d4⟩, d5⟩ := hc
    exact rangeFunc_sim hL n hF0 hF d1 d2 d3 d4 d5 hsr hE hd hrd hro hB hlow hev hQ
  | _ => cases ac <;> simp [chkCode] at hc

theorem sim_all (hL : Linked P g A) : ∀ n, SimC P g A n ∧ SimS P g A n ∧ SimL P g A n ∧ SimF P g A n ∧ SimV P g (evV A n) := by
  intro n
  induction n with
  | zero =>
    refine ⟨?_, ?_, ?_, ?_, ?_⟩
    · intro F hF nt c ac hc base κ w st a e B x e' st' nn Q _ _ _ _ _ _ _ hev; simp [evC] at hev
    · intro F hF nt body cur ab acur hb hc base κ w st a e B x e' st' nn Q _ _ _ _ _ _ _ hev; simp [evC] at hev
    · intro F hF nt body ab hb base κ w st a e B x e' st' nn Q _ _ _ _ _ _ _ hev; simp [evC] at hev
    · intro F hF f' f fn caps hg hA base κ w st args ps v st' nn Rr _ _ _ _ hev; simp [evV] at hev
    · intro F hF base κ w st fv fp args ps v st' _ _ _ _ _ hev; simp [evV] at hev
  | succ n ih =>
    obtain ⟨hC, hS, hLo, hF0, hV⟩ := ih
    have hLo' := simL_of n hC hLo
    exact ⟨simC_of hL n hC hS hF0 hV hLo', simS_of n hC hS, hLo', simF_of hL n hC, simV_of hL n hC⟩

theorem calls_of_ev (hL : Linked P g A) {n : Nat} {f' : FuncId} {f : Nat} {fn : ACFn} (hg : g f' = some f) (hA : A f = some (.code fn)) {base : Nat} {κ : K} {w : World} {st : St} {args : Array Value} {ps : List PV} {v : PV} {st' : St} {Rr : Ending → World → Prop}
    (hsr : SR P g base κ w st) (hsz : args.size = ps.length) (hargs : ∀ (i : Nat) (u : Value) (q : PV), args[i]? = some u → ps[i]? = some q → R g κ u q) (hlow : st.low ≤ st.boxes.length) (hev : evV A n (.fn f []) ps st = some (v, st'))
    (hk : ∀ κ' z w', K.le κ κ' → κ'.lam = κ.lam → SR P g base κ' w' st' → R g κ' z v → Fr base κ.lam w w' → Rr (.returned z) w') : Calls P f' args w Rr :=
  callsIn_wide.1 ((sim_all hL n).2.2.2.1 Fence.wide ⟨⟨rfl, rfl⟩, fun _ => trivial⟩ f' f fn [] hg hA base κ w st args ps v st' 0 Rr hsr (by simpa using hsz) (by simpa using hargs) hlow hev hk)

end Go.Ab
