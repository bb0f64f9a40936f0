/-
  Stores into boxes; conversions between texts and bytes.
-/
import Derived.Test.YtemnjmphkmokmaaAbOp4
import Derived.Lib.ConvBytes
import Derived.Laws.BytesArg
namespace Go.Ab
set_option linter.unusedVariables false
set_option linter.unusedSimpArgs false

variable {P : Program} {g : GMap} {base : Nat} {κ : K} {w : World} {st : St}

theorem R_oneCell {v : Value} {p : PV} (h : R g κ v p) (hl : leafOk p = true) : oneCell v = true := by
  cases h <;> simp_all [leafOk, oneCell]

theorem R_oneCells {v : Value} {p : PV} (h : R g κ v p) (hl : p.cells.all leafOk = true) : ∀ u ∈ v.cells.toList, oneCell u = true := by
  intro u hu
  obtain ⟨h1, h2⟩ := h.cells
  obtain ⟨i, hi⟩ := List.getElem?_of_mem hu
  have hi' : v.cells[i]? = some u := by simpa using hi
  have hlt : i < p.cells.length := by rw [← h1]; exact (Array.getElem?_eq_some_iff.1 hi').1
  have hq : p.cells[i]? = some p.cells[i] := by simp [hlt]
  rw [List.all_eq_true] at hl
  exact R_oneCell (h2 i u _ hi' hq) (hl _ (List.mem_of_getElem? hq))

theorem store_sim (h : SR P g base κ w st) {t : TypeId} {sz : Nat} {a v : Value} {pa p : PV} {st' : St} (hsz : sizeT P t = some sz) (ha : R g κ a pa) (hx : R g κ v p) (hs : storePV st sz pa p = some st') :
    ∃ w', (Instr.storeAt t a v).run P w = .ok () w' ∧ Good P g base κ w undef w' .undef st' := by
  unfold storePV at hs
  split at hs
  · rename_i b off
    split at hs
    · rename_i cs hcs
      split at hs
      · rename_i hb
        obtain ⟨h1, h2, h3, h4⟩ := hb
        cases ha with | ptr _ _ blk hφ =>
        have hbx := h.bx b blk cs hcs hφ
        obtain ⟨rs, ⟨el, lo, hi, hw, hf⟩, hl, hr⟩ := hbx.ex
        have hcl := hx.cells
        have hvl : v.cells.toList.length = sz := by simpa [h1] using hcl.1
        have hrun := run_storeCells (P := P) off v.cells.toList 0 w rs hw hf (by omega) (R_oneCells hx h4)
        refine ⟨setBlk w blk (setA rs off v.cells.toList) el (lo, hi), ?_, ?_⟩
        · simp only [Instr.storeAt, Instr.sureAddr, storeVar, Sem.run_bind, Sem.run_pure, Result.andThen_ok, run_sizeOf hsz]
          rw [if_neg (by rw [hcl.1, h1]; simp)]
          exact hrun
        · have hsr := h.setBox (rs' := setA rs off v.cells.toList) (cs' := setCells cs off p.cells) (if hasTok p.cells then min st.low b else st.low) hcs hφ hw hf (setA_size _ _ _) (by rw [setCells_length]; exact hl) (fun i c hc => ?_)
            (setCells_all _ _ _ hbx.lf h4) (fun c hc => ?_)
          · cases hs
            exact ⟨κ, K.le.refl κ, rfl, hsr, .undef, Fr.setBlk hw hbx.ge⟩
          · rw [setCells_get _ _ _ _ (by omega)] at hc
            rw [setA_get _ _ _ _ (by omega), hvl, ← h1]
            split at hc
            · rename_i hi'
              rw [if_pos hi']
              have hlt : i - off < v.cells.size := by rw [hcl.1]; exact (List.getElem?_eq_some_iff.1 hc).1
              exact ⟨v.cells[i - off], by simp [hlt], hcl.2 _ _ _ (by simp [hlt]) hc⟩
            · rename_i hi'
              rw [if_neg hi']
              exact hr i c hc
          · obtain ⟨i, hi'⟩ := List.getElem?_of_mem hc
            rw [setCells_get _ _ _ _ (by omega)] at hi'
            split at hi'
            · exact inB_cells h3 c (List.mem_of_getElem? hi')
            · exact hbx.lw c (List.mem_of_getElem? hi')
      · cases hs
    · cases hs
  · cases hs

theorem bytesWorld_heap (w : World) (e : TypeId) (s : ByteArray) : (Lib.bytesWorld w e s).heap = w.heap.push (.cells (Lib.bytesCells w e s) e ((Lib.bytesCells w e s).size, (Lib.bytesCells w e s).size + 1)) := by
  apply Array.ext_getElem?
  intro i
  rcases Nat.lt_trichotomy i w.heap.size with h | h | h
  · rw [Lib.bytesWorld_at_old w e s i h, Array.getElem?_push, if_neg (by omega)]
  · subst h; rw [Lib.bytesWorld_at_new]; simp
  · rw [Array.getElem?_eq_none (by rw [Lib.bytesWorld_size]; omega), Array.getElem?_eq_none (by simp; omega)]

theorem grown_ge (w : World) (n o : Nat) (e : TypeId) : n ≤ grownCap w n o e := by simp [grownCap, Question.cut]

theorem bytesCells_get {w : World} {e : TypeId} {s : ByteArray} {i : Nat} {b : UInt8} (h : s.data.toList[i]? = some b) : (Lib.bytesCells w e s)[i]? = some (.int .u8 b.toNat) := by
  have hlt : i < s.data.size := by have := (List.getElem?_eq_some_iff.1 h).1; simpa using this
  unfold Lib.bytesCells
  rw [Array.getElem?_append_left (by simpa using hlt)]
  simp at h
  simp [h]

theorem bytesCells_size {w : World} {e : TypeId} {s : ByteArray} : (Lib.bytesCells w e s).size = grownCap w s.size 0 e := by
  have := grown_ge w s.size 0 e
  have h2 : s.data.size = s.size := rfl
  simp [Lib.bytesCells]; omega

theorem cS2B_sim (h : SR P g base κ w st) {src dst e : TypeId} {mu : Bool} {v : Value} {s : List UInt8} (hs : (P.underlying src).isSome = true) (hd : sliceElem P dst = some e) (he : isU8 P e = true) (hx : R g κ v (.str s)) :
    ∃ u w', (convert src dst v).run P w = .ok u w' ∧
      Good P g base κ w u w' (if mu then (PV.ms st.boxes.length 0 s.length) else (.bys (freshT st).1 s)) (if mu then { st with boxes := st.boxes ++ [s.map .b8] } else (freshT st).2) := by
  obtain ⟨ds, hs⟩ := Option.isSome_iff_exists.1 hs
  cases hx with | str ba _ hl =>
  have hrun := Lib.run_convert_string_bytes (P := P) w src dst e ba hs (sliceElem_eq hd) (isU8_eq he)
  have hsz : ba.size = s.length := by rw [← hl]; rfl
  refine ⟨_, _, hrun, ?_⟩
  cases mu with
  | false =>
    exact good_bytes (toks := st.toks) h (bytesWorld_heap w e ba) rfl rfl rfl (.inr (Nat.le_refl _)) hsz (grown_ge _ _ _ _) (by rw [bytesCells_size]; exact Nat.le_refl _) (fun i b hi => bytesCells_get (by rw [hl]; exact hi)) rfl (fun _ h => h)
  | true =>
    have hle : s.length ≤ (Lib.bytesCells w e ba).size := by rw [bytesCells_size, ← hsz]; exact grown_ge _ _ _ _
    obtain ⟨h1, h2⟩ := h.addBox (w' := Lib.bytesWorld w e ba) (Lib.bytesCells w e ba) e _ (s.map .b8) (bytesWorld_heap w e ba) (.inr (Nat.le_refl _)) (by simpa using hle) (fun i c hi => by
      simp only [List.getElem?_map, Option.map_eq_some_iff] at hi
      obtain ⟨b, hb, rfl⟩ := hi
      exact ⟨_, bytesCells_get (by rw [hl]; exact hb), .b8 _ _ rfl⟩) (by simp [leafOk]) (by simp [PV.inB])
    refine ⟨_, h1, rfl, h2, ?_, Fr.push h.hb (bytesWorld_heap w e ba) rfl rfl rfl⟩
    rw [hsz]
    refine .ms _ _ _ _ _ _ ?_ (by rw [← hsz]; exact grown_ge _ _ _ _) (.inr rfl)
    show (κ.φ ++ [w.heap.size])[st.boxes.length]? = _
    rw [← h.bl]; simp

theorem bytesOf_get : ∀ {ps : List PV} {l : List UInt8}, bytesOf ps = some l → ps = l.map .b8 := by
  intro ps
  induction ps with
  | nil => intro l h; simp [bytesOf] at h; subst h; rfl
  | cons p ps ih =>
    intro l h
    cases p <;> simp [bytesOf] at h
    obtain ⟨l', h1, rfl⟩ := h
    simp [ih h1]

/-- The bytes of a slice, as they lie in memory. -/
theorem src8_cells (h : SR P g base κ w st) {v : Value} {p : PV} {l : List UInt8} (hx : R g κ v p) (hs : src8 st p = some l) (hne : ∀ s, p ≠ .str s) :
    (v = .slice none 0 0 ∧ l = []) ∨ ∃ blk off c, v = .slice (some ⟨blk, off, none⟩) l.length c ∧ ∀ (i : Nat) (b : UInt8), l[i]? = some b → w.cell? ⟨blk, off + i, none⟩ = some (.int .u8 b.toNat) := by
  unfold src8 at hs
  split at hs
  · cases hx; cases hs; exact .inl ⟨rfl, rfl⟩
  · exact absurd rfl (hne _)
  · cases hx with | bys blk off n c t _ hn hc hb ht =>
    cases hs; subst hn
    exact .inr ⟨blk, off, c, rfl, fun i b hi => h.cC _ _ _ (hb i b hi)⟩
  · rename_i b off n
    split at hs
    · rename_i cs hcs
      split at hs
      · rename_i hle
        cases hx with | ms _ _ off' _ c blk hφ hc ho =>
        have hbx := h.bx b blk cs hcs hφ
        obtain ⟨rs, ⟨el, lo, hi, hw, hf⟩, hl, hr⟩ := hbx.ex
        have hb := bytesOf_get hs
        have hlen : l.length = n := by have := congrArg List.length hb; simp at this; omega
        refine .inr ⟨blk, off', c, by rw [hlen], fun i b hi => ?_⟩
        have hin : i < n := by rw [← hlen]; exact (List.getElem?_eq_some_iff.1 hi).1
        obtain rfl : off' = off := by rcases ho with ho | ho <;> omega
        have hci : cs[off' + i]? = some (.b8 b) := by
          have := congrArg (·[i]?) hb
          simp only [List.getElem?_take, hin, if_true, List.getElem?_drop, List.getElem?_map, hi, Option.map_some] at this
          exact this
        obtain ⟨u, hu, hru⟩ := hr _ _ hci
        simp only [World.cell?, hw]
        cases hru with | b8 _ m hm => subst hm; simpa using hu
      · cases hs
    · cases hs
  · cases hs

theorem strOfNums_eq (l : List UInt8) : (strOfNums (l.map fun b => (b.toNat : Int))).data.toList = l := by
  simp [strOfNums]
  induction l with
  | nil => rfl
  | cons x xs ih => simp [ih]

theorem cB2S_sim (h : SR P g base κ w st) {src dst e : TypeId} {v : Value} {p : PV} {l : List UInt8} (hs : sliceElem P src = some e) (he : isU8 P e = true) (hd : isStrT P dst = true) (hx : R g κ v p) (hsrc : src8 st p = some l) (hne : ∀ s, p ≠ .str s) :
    ∃ u, (convert src dst v).run P w = .ok u w ∧ R g κ u (.str l) := by
  rcases src8_cells h hx hsrc hne with ⟨rfl, rfl⟩ | ⟨blk, off, c, rfl, hc⟩
  · exact ⟨_, run_convert_bytes_nil w src e (sliceElem_eq hs) (isU8_eq he) 0 0 dst (isStrT_eq hd), .str _ _ rfl⟩
  · refine ⟨_, run_convert_bytes_arg w src e (sliceElem_eq hs) (isU8_eq he) blk off l.length c (l.map fun b => (b.toNat : Int)) (by simp) (fun i hi => ?_) dst (isStrT_eq hd), .str _ _ (strOfNums_eq l)⟩
    rw [hc i l[i] (by simp [hi])]
    simp [List.getD, hi]

/-! ### Marks -/
theorem SR.refz (h : SR P g base κ w st) {blk : Nat} {rs : Array Value} {el : TypeId} {fz fz' : Nat × Nat} (hw : w.heap[blk]? = some (.cells rs el fz)) (hf : fz'.1 = fz'.2 ∨ rs.size ≤ fz'.1) : SR P g base κ (setBlk w blk rs el fz') st := by
  have hcell : ∀ b i, (setBlk w blk rs el fz').cell? ⟨b, i, none⟩ = w.cell? ⟨b, i, none⟩ := fun b i => by
    by_cases hb : b = blk
    · subst hb
      have hlt := (Array.getElem?_eq_some_iff.1 hw).1
      have h2 : (setBlk w b rs el fz').heap[b]? = some (.cells rs el fz') := by simp [setBlk, hlt]
      simp only [World.cell?]
      rw [h2, hw]
    · exact cell_setBlk_other hb
  have hcs : ∀ b rs', Cells w b rs' → Cells (setBlk w blk rs el fz') b rs' := fun b rs' hc => by
    by_cases hb : b = blk
    · subst hb
      obtain ⟨el', lo, hi, h1, h2⟩ := hc
      rw [hw] at h1; cases h1
      have hlt := (Array.getElem?_eq_some_iff.1 hw).1
      exact ⟨el, fz'.1, fz'.2, by simp [setBlk, hlt], hf⟩
    · exact hc.congr (setBlk_other hb)
  have hobj : ∀ (k : Nat) (o : Obj), w.heap[k]? = some o → isCells o = false → (setBlk w blk rs el fz').heap[k]? = some o := fun k o ho hc => by
    rw [setBlk_other]
    · exact ho
    · rintro rfl; rw [hw] at ho; cases ho; simp [isCells] at hc
  exact { cC := fun b i v hc => by rw [hcell]; exact h.cC b i v hc, bl := h.bl, bn := h.bn,
          bx := fun b k cs h1 h2 => by
            have hx := h.bx b k cs h1 h2
            obtain ⟨rs', hc, h3, h4⟩ := hx.ex
            exact ⟨hx.ge, hx.nc, ⟨rs', hcs _ _ hc, h3, h4⟩, hx.lf, hx.lw⟩,
          tl := h.tl, tk := fun i k e ce h1 h2 => by
            have hx := h.tk i k e ce h1 h2
            obtain ⟨rs', hc, h3⟩ := hx.ex
            exact ⟨hx.ge, hx.nb, hx.nc, ⟨rs', hcs _ _ hc, h3⟩⟩,
          td := h.td, ll := h.ll, ln := h.ln, lb := h.lb, lp := fun k l D r h1 h2 => (h.lp k l D r h1 h2).mono (K.le.refl _) hobj, hb := by simpa [setBlk] using h.hb, gv := h.gv }

theorem cSame_sim (h : SR P g base κ w st) {src e : TypeId} {v : Value} {i : Nat} {l : List UInt8} (hs : sliceElem P src = some e) (he : isU8 P e = true) (hx : R g κ v (.bys (.own i) l)) (hi : st.toks[i]? = some true) :
    ∃ w', (convert src src v).run P w = .ok v w' ∧ Good P g base κ w v w' (.bys (.own i) l) st := by
  cases hx with | bys blk off n c _ _ hn hc hb ht =>
  have ht' := ht
  obtain ⟨e', ce, h1, h2⟩ := ht
  have hx := h.tk i blk e' ce hi h1
  obtain ⟨rs, ⟨el, lo, hi', hw, hf⟩, hce⟩ := hx.ex
  have hlt := (Array.getElem?_eq_some_iff.1 hw).1
  have hsh : w.shape? blk = some (el, rs.size) := by simp [World.shape?, hw]
  refine ⟨w.freeze ⟨blk, rs.size, none⟩ 1, ?_, ?_⟩
  · simp [convert, run_underlying (sliceElem_eq hs), run_underlying (isU8_eq he), markStringish, shape, freeze, Sem.run, hsh]
  · have hfw : w.freeze ⟨blk, rs.size, none⟩ 1 = setBlk w blk rs el (if lo == hi' then (rs.size, rs.size + 1) else (min lo rs.size, max hi' (rs.size + 1))) := by
      simp only [World.freeze, setBlk]
      rw [if_neg (by decide)]
      congr 1
      apply Array.ext_getElem?
      intro j
      rw [Array.getElem?_modify]
      by_cases hj : blk = j
      · subst hj; rw [if_pos rfl, hw]; simp [hlt]
      · rw [if_neg hj, Array.getElem?_setIfInBounds_ne hj]
    rw [hfw]
    have hok : ∀ fz : Nat × Nat, fz = (if lo == hi' then (rs.size, rs.size + 1) else (min lo rs.size, max hi' (rs.size + 1))) → fz.1 = fz.2 ∨ rs.size ≤ fz.1 := by
      rintro fz rfl
      right
      split
      · exact Nat.le_refl _
      · rename_i hne
        rcases hf with hf | hf
        · simp [hf] at hne
        · show rs.size ≤ min lo rs.size; omega
    refine ⟨κ, K.le.refl κ, rfl, h.refz hw (hok _ rfl), .bys _ _ _ _ _ _ hn hc hb ht', ?_⟩
    refine Fr.of ⟨rfl, rfl, rfl, by simp [setBlk], fun k hk => setBlk_other (by have := hx.ge; omega)⟩ fun k o ho hc => ?_
    rw [setBlk_other]
    · exact ho
    · rintro rfl; rw [hw] at ho; cases ho; simp [isCells] at hc

end Go.Ab
