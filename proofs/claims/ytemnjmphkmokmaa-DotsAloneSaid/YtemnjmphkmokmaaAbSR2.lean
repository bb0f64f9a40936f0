/-
  Stores: into a box; behind the end of a slice that owns its room.
-/
import Derived.Test.YtemnjmphkmokmaaAbSR
namespace Go.Ab
set_option linter.unusedVariables false
set_option linter.unusedSimpArgs false

variable {P : Program} {g : GMap} {base : Nat}

def setBlk (w : World) (blk : Nat) (rs : Array Value) (el : TypeId) (fz : Nat × Nat) : World := { w with heap := w.heap.setIfInBounds blk (.cells rs el fz) }

def oneCell : Value → Bool
  | .agg _ => false
  | .tuple _ => false
  | _ => true

def setA (rs : Array Value) (off : Nat) : List Value → Array Value
  | [] => rs
  | v :: vs => setA (rs.setIfInBounds off v) (off + 1) vs

theorem setA_size (vs : List Value) : ∀ (rs : Array Value) (off : Nat), (setA rs off vs).size = rs.size := by
  induction vs with
  | nil => intro rs off; rfl
  | cons v vs ih => intro rs off; simp [setA, ih]

theorem setA_get (vs : List Value) : ∀ (rs : Array Value) (off j : Nat), off + vs.length ≤ rs.size →
    (setA rs off vs)[j]? = if off ≤ j ∧ j < off + vs.length then vs[j - off]? else rs[j]? := by
  induction vs with
  | nil => intro rs off j h; simp [setA]; intro h1 h2; omega
  | cons v vs ih =>
    intro rs off j h
    simp at h
    rw [setA, ih _ _ _ (by simp; omega)]
    by_cases h1 : off + 1 ≤ j ∧ j < off + 1 + vs.length
    · rw [if_pos h1, if_pos ⟨by omega, by simp; omega⟩]
      obtain ⟨d, rfl⟩ : ∃ d, j = off + 1 + d := ⟨j - (off + 1), by omega⟩
      rw [show off + 1 + d - off = d + 1 by omega, show off + 1 + d - (off + 1) = d by omega]; simp
    · rw [if_neg h1]
      by_cases h2 : j = off
      · subst h2
        rw [if_pos ⟨Nat.le_refl _, by simp⟩]
        simp [show j < rs.size by omega]
      · rw [if_neg (by simp; omega), Array.getElem?_setIfInBounds_ne (by omega)]

theorem setCell_blk {w : World} {blk j : Nat} {rs : Array Value} {el : TypeId} {fz : Nat × Nat} (h : w.heap[blk]? = some (.cells rs el fz)) (v : Value) :
    w.setCell ⟨blk, j, none⟩ v = setBlk w blk (rs.setIfInBounds j v) el fz := by
  have hlt := (Array.getElem?_eq_some_iff.1 h).1
  simp only [World.setCell, setBlk]
  congr 1
  apply Array.ext_getElem?
  intro i
  rw [Array.getElem?_modify]
  by_cases hi : blk = i
  · subst hi; rw [if_pos rfl, h]; simp [hlt]
  · rw [if_neg hi, Array.getElem?_setIfInBounds_ne hi]

theorem setBlk_get {w : World} {blk : Nat} {rs rs' : Array Value} {el : TypeId} {fz : Nat × Nat} (h : w.heap[blk]? = some (.cells rs el fz)) :
    (setBlk w blk rs' el fz).heap[blk]? = some (.cells rs' el fz) := by
  simp [setBlk, (Array.getElem?_eq_some_iff.1 h).1]

theorem setBlk_other {w : World} {blk k : Nat} {rs' : Array Value} {el : TypeId} {fz : Nat × Nat} (h : k ≠ blk) : (setBlk w blk rs' el fz).heap[k]? = w.heap[k]? := by
  simp [setBlk, Array.getElem?_setIfInBounds_ne (Ne.symm h)]

theorem setBlk_setBlk {w : World} {blk : Nat} {rs rs' : Array Value} {el : TypeId} {fz : Nat × Nat} : setBlk (setBlk w blk rs el fz) blk rs' el fz = setBlk w blk rs' el fz := by
  simp [setBlk]

theorem setBlk_self {w : World} {blk : Nat} {rs : Array Value} {el : TypeId} {fz : Nat × Nat} (h : w.heap[blk]? = some (.cells rs el fz)) : setBlk w blk rs el fz = w := by
  have : w.heap.setIfInBounds blk (.cells rs el fz) = w.heap := by
    apply Array.ext_getElem?
    intro i
    by_cases hi : blk = i
    · subst hi
      rw [h]
      simp [(Array.getElem?_eq_some_iff.1 h).1]
    · rw [Array.getElem?_setIfInBounds_ne hi]
  simp [setBlk, this]

theorem add_eq (blk off i : Nat) : (⟨blk, off, none⟩ : Addr).add i = ⟨blk, off + i, none⟩ := by
  unfold Addr.add; split
  · next h => rw [h]; rfl
  · rfl

theorem run_store {w : World} {blk j : Nat} {rs : Array Value} {el : TypeId} {lo hi : Nat} (h : w.heap[blk]? = some (.cells rs el (lo, hi))) (hf : lo = hi ∨ rs.size ≤ lo) (hj : j < rs.size) {v : Value}
    (hv : oneCell v = true) : (store ⟨blk, j, none⟩ v).run P w = .ok () (setBlk w blk (rs.setIfInBounds j v) el (lo, hi)) := by
  have hc : w.cell? ⟨blk, j, none⟩ = some rs[j] := by simp [World.cell?, h, hj]
  have hfz : w.frozen? ⟨blk, j, none⟩ = false := by
    simp only [World.frozen?, h]
    rcases hf with rfl | hf
    · simp <;> omega
    · simp <;> omega
  rw [← setCell_blk h]
  cases v <;> simp_all [store, Sem.run, oneCell]

theorem run_storeCells {blk : Nat} {el : TypeId} {lo hi : Nat} (off : Nat) : ∀ (vs : List Value) (i : Nat) (w : World) (rs : Array Value), w.heap[blk]? = some (.cells rs el (lo, hi)) → (lo = hi ∨ rs.size ≤ lo) →
    off + i + vs.length ≤ rs.size → (∀ v ∈ vs, oneCell v = true) → (storeCells ⟨blk, off, none⟩ vs i).run P w = .ok () (setBlk w blk (setA rs (off + i) vs) el (lo, hi)) := by
  intro vs
  induction vs with
  | nil => intro i w rs h hf hl hv; simp [storeCells, setA, setBlk_self h]
  | cons v vs ih =>
    intro i w rs h hf hl hv
    simp at hl
    simp only [storeCells, add_eq, Sem.run_bind]
    rw [run_store h hf (by omega) (hv v (by simp))]
    simp only [Result.andThen_ok]
    rw [ih (i + 1) _ (rs.setIfInBounds (off + i) v) (setBlk_get h) (by simpa using hf) (by simp; omega) (fun u hu => hv u (by simp [hu]))]
    rw [setBlk_setBlk, setA, Nat.add_assoc]

theorem cell_setBlk_other {w : World} {blk b i : Nat} {rs : Array Value} {el : TypeId} {fz : Nat × Nat} (h : b ≠ blk) : (setBlk w blk rs el fz).cell? ⟨b, i, none⟩ = w.cell? ⟨b, i, none⟩ := by
  simp [World.cell?, setBlk_other h]

theorem Fr.setBlk {lam : List (Nat × Nat)} {w : World} {blk : Nat} {rs rs' : Array Value} {el : TypeId} {fz : Nat × Nat} (h : w.heap[blk]? = some (.cells rs el fz)) (hb : base ≤ blk) : Fr base lam w (setBlk w blk rs' el fz) := by
  refine Fr.of ⟨rfl, rfl, rfl, by simp [Go.Ab.setBlk], fun k hk => setBlk_other (by omega)⟩ fun k o ho hc => ?_
  rw [setBlk_other]
  · exact ho
  · rintro rfl; rw [h] at ho; cases ho; simp [isCells] at hc

/-- A box is written. -/
theorem SR.setBox {κ : K} {w : World} {st : St} (h : SR P g base κ w st) {b blk : Nat} {cs cs' : List PV} {rs rs' : Array Value} {el : TypeId} {lo hi : Nat} (low' : Nat)
    (hb : st.boxes[b]? = some cs) (hp : κ.φ[b]? = some blk) (hw : w.heap[blk]? = some (.cells rs el (lo, hi))) (hf : lo = hi ∨ rs.size ≤ lo) (hsz : rs'.size = rs.size) (hl : cs'.length ≤ rs.size)
    (hr : ∀ (i : Nat) (c : PV), cs'[i]? = some c → ∃ v, rs'[i]? = some v ∧ R g κ v c) (hlf : cs'.all leafOk = true) (hlw : ∀ c ∈ cs', c.inB b = true) :
    SR P g base κ (setBlk w blk rs' el (lo, hi)) { st with boxes := st.boxes.set b cs', low := low' } := by
  have hx := h.bx b blk cs hb hp
  have hobj : ∀ (k : Nat) (o : Obj), w.heap[k]? = some o → isCells o = false → (Go.Ab.setBlk w blk rs' el (lo, hi)).heap[k]? = some o := fun k o ho hc => (Fr.setBlk (base := base) (lam := []) hw hx.ge).objs k o ho hc (by simp)
  refine { cC := ?_, bl := by simp [h.bl], bn := h.bn, bx := ?_, tl := h.tl, tk := ?_, td := h.td, ll := h.ll, ln := h.ln, lb := h.lb, lp := fun k l D r h1 h2 => (h.lp k l D r h1 h2).mono (K.le.refl _) hobj, hb := by simpa [Go.Ab.setBlk] using h.hb, gv := h.gv }
  · intro b' i v hc
    have : b' ≠ blk := by rintro rfl; rw [hx.nc] at hc; cases hc
    rw [cell_setBlk_other this]; exact h.cC b' i v hc
  · intro b' blk' cs'' h1 h2
    by_cases hbb : b = b'
    · subst hbb
      rw [hp] at h2; cases h2
      have hlen : b < st.boxes.length := (List.getElem?_eq_some_iff.1 hb).1
      simp [hlen] at h1
      subst h1
      exact ⟨hx.ge, hx.nc, ⟨rs', ⟨el, lo, hi, setBlk_get hw, by rw [hsz]; exact hf⟩, by rw [hsz]; exact hl, hr⟩, hlf, hlw⟩
    · simp only [List.getElem?_set_ne hbb] at h1
      have hy := h.bx b' blk' cs'' h1 h2
      have hne : blk' ≠ blk := by
        rintro rfl
        exact hbb ((List.getElem?_inj (by rw [h.bl]; exact (List.getElem?_eq_some_iff.1 hb).1) h.bn).1 (hp.trans h2.symm))
      obtain ⟨rs2, hc, h3, h4⟩ := hy.ex
      exact ⟨hy.ge, hy.nc, ⟨rs2, hc.congr (setBlk_other hne), h3, h4⟩, hy.lf, hy.lw⟩
  · intro i blk' e ce h1 h2
    have hy := h.tk i blk' e ce h1 h2
    have hne : blk' ≠ blk := by
      rintro rfl
      exact hy.nb (List.mem_of_getElem? hp)
    obtain ⟨rs2, hc, h3⟩ := hy.ex
    exact ⟨hy.ge, hy.nb, hy.nc, ⟨rs2, hc.congr (setBlk_other hne), h3⟩⟩

/-- What owns its room is lengthened in place. -/
theorem SR.extTok {κ : K} {w : World} {st : St} (h : SR P g base κ w st) {i blk e ce m : Nat} {rs rs' : Array Value} {el : TypeId} {lo hi : Nat}
    (hi' : st.toks[i]? = some true) (hτ : κ.τ[i]? = some (blk, e, ce)) (hw : w.heap[blk]? = some (.cells rs el (lo, hi))) (hf : lo = hi ∨ rs.size ≤ lo) (hsz : rs'.size = rs.size) (hm : e + m ≤ rs.size)
    (hold : ∀ j, j < e → rs'[j]? = rs[j]?) (hce : ce ≤ rs.size) :
    let κ' : K := { (κ.addC blk fun j => if e ≤ j ∧ j < e + m then rs'[j]? else none) with τ := κ.τ ++ [(blk, e + m, ce)] }
    K.le κ κ' ∧ SR P g base κ' (setBlk w blk rs' el (lo, hi)) { st with toks := st.toks.set i false ++ [true] } := by
  intro κ'
  have hx := h.tk i blk e ce hi' hτ
  have hCne : ∀ b j, b ≠ blk → κ'.C b j = κ.C b j := fun b j hb => by simp [κ', K.addC, hb]
  have hCold : ∀ j v, κ.C blk j = some v → j < e := fun j v hc => by
    by_cases hj : j < e
    · exact hj
    · rw [hx.nc j (by omega)] at hc; cases hc
  have hle : K.le κ κ' := ⟨fun b j v hc => by
      by_cases hb : b = blk
      · subst hb
        have hj := hCold j v hc
        simp [κ', K.addC, show ¬ e ≤ j by omega, hc]
      · rw [hCne _ _ hb]; exact hc, fun _ _ h => h, fun _ _ h => h, fun j x hxx => by
    have := (List.getElem?_eq_some_iff.1 hxx).1
    simp [κ', List.getElem?_append_left this, hxx]⟩
  have hobj : ∀ (k : Nat) (o : Obj), w.heap[k]? = some o → isCells o = false → (Go.Ab.setBlk w blk rs' el (lo, hi)).heap[k]? = some o := fun k o ho hc => (Fr.setBlk (base := base) (lam := []) hw hx.ge).objs k o ho hc (by simp)
  refine ⟨hle, { cC := ?_, bl := h.bl, bn := h.bn, bx := ?_, tl := by simp [κ', K.addC, h.tl], tk := ?_, td := ?_, ll := h.ll, ln := h.ln, lb := h.lb, lp := fun k l D r h1 h2 => (h.lp k l D r h1 h2).mono hle hobj, hb := by simpa [Go.Ab.setBlk] using h.hb, gv := g.mono _ _ hle.C h.gv }⟩
  · intro b j v hc
    by_cases hb : b = blk
    · subst hb
      simp only [World.cell?, setBlk_get hw]
      by_cases hj : e ≤ j ∧ j < e + m
      · simp only [κ', K.addC, if_pos, hj, and_self] at hc
        cases hr : rs'[j]? with
        | none =>
          have : rs'.size ≤ j := by simpa using hr
          omega
        | some u => simp [hr] at hc; simp [hc]
      · simp only [κ', K.addC, if_pos, hj, if_false] at hc
        have := h.cC b j v hc
        simp only [World.cell?, hw] at this
        simp at this ⊢
        rw [hold j (hCold j v hc)]; exact this
    · rw [hCne _ _ hb] at hc
      rw [cell_setBlk_other hb]; exact h.cC b j v hc
  · intro b blk' cs h1 h2
    have hy := h.bx b blk' cs h1 h2
    have hne : blk' ≠ blk := by
      rintro rfl
      exact hx.nb (List.mem_of_getElem? h2)
    obtain ⟨rs2, hc, h3, h4⟩ := hy.ex
    exact ⟨hy.ge, fun j => by rw [hCne _ _ hne]; exact hy.nc j, ⟨rs2, hc.congr (setBlk_other hne), h3, fun k c hk => by
      obtain ⟨v, hv, hr⟩ := h4 k c hk
      exact ⟨v, hv, hr.mono hle⟩⟩, hy.lf, hy.lw⟩
  · intro j blk' e' ce' h1 h2
    by_cases hj : j < st.toks.length
    · simp only [List.getElem?_append_left (show j < (st.toks.set i false).length by simpa using hj)] at h1
      simp only [κ', List.getElem?_append_left (by rw [h.tl]; exact hj)] at h2
      have hij : i ≠ j := by rintro rfl; simp [hj] at h1
      rw [List.getElem?_set_ne hij] at h1
      have hy := h.tk j blk' e' ce' h1 h2
      have hne : blk' ≠ blk := fun he => h.td i j blk e ce blk' e' ce' hi' h1 hτ h2 hij he.symm
      obtain ⟨rs2, hc, h3⟩ := hy.ex
      exact ⟨hy.ge, hy.nb, fun k hk => by rw [hCne _ _ hne]; exact hy.nc k hk, ⟨rs2, hc.congr (setBlk_other hne), h3⟩⟩
    · have hj' : j = κ.τ.length := by
        have := (List.getElem?_eq_some_iff.1 h2).1
        simp [κ'] at this; rw [h.tl] at *; omega
      subst hj'
      simp only [κ'] at h2
      rw [List.getElem?_concat_length, Option.some.injEq] at h2
      simp only [Prod.mk.injEq] at h2
      obtain ⟨rfl, rfl, rfl⟩ := h2
      refine ⟨hx.ge, hx.nb, fun k hk => ?_, ⟨rs', ⟨el, lo, hi, setBlk_get hw, by rw [hsz]; exact hf⟩, by rw [hsz]; exact hce⟩⟩
      simp [κ', K.addC, show ¬ k < e + m by omega, hx.nc k (by omega)]
  · intro a c bi ei ci bj ej cj h1 h2 h3 h4 hac
    have key : ∀ (a bi ei ci : Nat), (st.toks.set i false ++ [true])[a]? = some true → (κ.τ ++ [(blk, e + m, ce)])[a]? = some (bi, ei, ci) →
        (a < st.toks.length ∧ st.toks[a]? = some true ∧ κ.τ[a]? = some (bi, ei, ci) ∧ a ≠ i) ∨ (a = st.toks.length ∧ bi = blk) := by
      intro a bi ei ci h1 h2
      by_cases ha : a < st.toks.length
      · left
        rw [List.getElem?_append_left (by simpa using ha)] at h1
        rw [List.getElem?_append_left (by rw [h.tl]; exact ha)] at h2
        have hia : i ≠ a := by rintro rfl; simp [ha] at h1
        rw [List.getElem?_set_ne hia] at h1
        exact ⟨ha, h1, h2, hia.symm⟩
      · right
        have h5 := (List.getElem?_eq_some_iff.1 h2).1
        simp [h.tl] at h5
        have h6 : a = κ.τ.length := by rw [h.tl]; omega
        subst h6
        rw [List.getElem?_concat_length, Option.some.injEq] at h2
        simp only [Prod.mk.injEq] at h2
        exact ⟨h.tl, h2.1.symm⟩
    rcases key a bi ei ci h1 h3 with ⟨a1, a2, a3, a4⟩ | ⟨a1, a2⟩ <;> rcases key c bj ej cj h2 h4 with ⟨b1, b2, b3, b4⟩ | ⟨b1, b2⟩
    · exact h.td a c bi ei ci bj ej cj a2 b2 a3 b3 hac
    · rw [b2]; exact h.td a i bi ei ci blk e ce a2 hi' a3 hτ a4
    · rw [a2]; exact fun he => h.td i c blk e ce bj ej cj hi' b2 hτ b3 (Ne.symm b4) he
    · omega

end Go.Ab
