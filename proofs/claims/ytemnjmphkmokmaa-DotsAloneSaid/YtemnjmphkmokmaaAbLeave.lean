/-
  What a caller keeps of what a callee has made.
-/
import Derived.Test.YtemnjmphkmokmaaAbTok
import Derived.Test.YtemnjmphkmokmaaAbOp7
namespace Go.Ab
set_option linter.unusedVariables false
set_option linter.unusedSimpArgs false

variable {P : Program} {g : GMap} {base : Nat} {κ : K} {w : World} {st : St}

def PV.tk : PV → List Nat
  | .agg cs => toksOf cs
  | .tup vs => vs.flatMap fun v => toksOf v.cells
  | v => toksOf [v]

theorem inBAll_get {n : Nat} {ps : List PV} (h : PV.inB.inBAll n ps = true) {i : Nat} {p : PV} (hp : ps[i]? = some p) : p.inB n = true := by
  induction ps generalizing i with
  | nil => simp at hp
  | cons x xs ih =>
    simp only [PV.inB.inBAll, Bool.and_eq_true] at h
    cases i with
    | zero => simp at hp; rw [← hp]; exact h.1
    | succ i => simp at hp; exact ih h.2 hp

theorem data_toks : ∀ (cs : List PV), dataAll cs = true → toksOf cs = [] := by
  intro cs
  induction cs with
  | nil => intro _; rfl
  | cons x xs ih =>
    intro h
    simp only [dataAll, Bool.and_eq_true] at h
    have h1 : tokOf x = none := by
      cases x <;> simp_all [tokOf, PV.data]
      · rename_i t l; obtain rfl := Tok.isNo_eq h.1; rfl
      · rename_i e t l; obtain rfl := Tok.isNo_eq h.1.1; rfl
    have h2 := ih h.2
    simp only [toksOf, List.filterMap_cons, h1] at *
    exact h2

theorem capOk_tk {p : PV} (h : capOk p = true) : p.tk = [] := by
  cases p <;> simp_all [capOk, PV.tk, toksOf, tokOf, PV.data]
  · rename_i t l; obtain rfl := Tok.isNo_eq h; rfl
  · rename_i e t l; obtain rfl := Tok.isNo_eq h.1; rfl
  · rename_i cs
    have := data_toks cs h
    show ∀ a ∈ cs, tokOf a = none
    simpa [toksOf] using this

theorem leaf_tk {p : PV} (h : leafOk p = true) : p.tk = toksOf [p] := by
  cases p <;> simp_all [leafOk, PV.tk]

/-- A value of which all places are old, read with less known. -/
theorem R.restrict {κ κ' : K} {n : Nat} {T : Nat → Prop} (hC : ∀ b i v, κ.C b i = some v → κ'.C b i = some v) (hφ : ∀ (i x : Nat), i < n → κ.φ[i]? = some x → κ'.φ[i]? = some x)
    (hτ : ∀ (t : Nat) (x : Nat × Nat × Nat), T t → κ.τ[t]? = some x → κ'.τ[t]? = some x) {v : Value} {p : PV} (h : R g κ v p) : p.inB n = true → (∀ t ∈ p.tk, T t) → R g κ' v p := by
  have tok : ∀ {t : Tok} {blk off k c esz : Nat}, TokOK κ t blk off k c esz → (∀ i, t = .own i → T i) → TokOK κ' t blk off k c esz := fun {t _ _ _ _ _} ht hT => by
    cases t with
    | no => trivial
    | ex => exact ht
    | own i => obtain ⟨e, ce, h1, h2⟩ := ht; exact ⟨e, ce, hτ _ _ (hT i rfl) h1, h2⟩
  induction h with
  | undef => exact fun _ _ => .undef
  | bool b => exact fun _ _ => .bool b
  | b8 b n h => exact fun _ _ => .b8 b n h
  | int k n h => exact fun _ _ => .int k n h
  | str s l h => exact fun _ _ => .str s l h
  | nilp => exact fun _ _ => .nilp
  | nils => exact fun _ _ => .nils
  | nilf => exact fun _ _ => .nilf
  | nili => exact fun _ _ => .nili
  | ptr b off blk h => exact fun hb _ => .ptr b off blk (hφ _ _ (by simpa [PV.inB] using hb) h)
  | cp blk off vs cells hl hc hr hd hlf ih => exact fun _ _ => .cp blk off vs cells hl (fun i v h => hC _ _ _ (hc i v h)) (fun i v p h1 h2 => (hr i v p h1 h2).dataMono hC (dataAll_get hd h2)) hd hlf
  | bys blk off n c t l hn hc hb ht => exact fun _ hT => .bys blk off n c t l hn hc (fun i b h => hC _ _ _ (hb i b h)) (tok ht fun i hi => hT i (by simp [PV.tk, toksOf, tokOf, hi]))
  | sl blk off n c esz t xs vs hn hc he hl hv hr hd hlf ht ih =>
    exact fun _ hT => .sl blk off n c esz t xs vs hn hc he hl (fun i v h => hC _ _ _ (hv i v h)) (fun i v p h1 h2 => (hr i v p h1 h2).dataMono hC (dataAll_get (dataAll_flat hd) h2)) hd hlf (tok ht fun i hi => hT i (by simp [PV.tk, toksOf, tokOf, hi]))
  | ms b off off' n c blk h hc ho => exact fun hb _ => .ms b off off' n c blk (hφ _ _ (by simpa [PV.inB] using hb) h) hc ho
  | fn f' f cv cap h hl hk hr ih =>
    intro hb _
    refine .fn f' f cv cap h hl hk (fun i v p h1 h2 => ih i v p h1 h2 (inBAll_get (by simpa [PV.inB] using hb) h2) ?_)
    rw [List.all_eq_true] at hk
    rw [capOk_tk (hk p (List.mem_of_getElem? h2))]
    simp
  | yld k l d h => exact fun hb _ => by simp [PV.inB] at hb
  | agg vs ps hl hlf hr ih =>
    intro hb hT
    refine .agg vs ps hl hlf (fun i v p h1 h2 => ih i v p h1 h2 (inBAll_get (by simpa [PV.inB] using hb) h2) (fun t ht => hT t ?_))
    rw [List.all_eq_true] at hlf
    rw [leaf_tk (hlf p (List.mem_of_getElem? h2))] at ht
    simp only [PV.tk, toksOf, List.mem_filterMap, List.mem_singleton] at *
    obtain ⟨a, rfl, ha⟩ := ht
    exact ⟨a, List.mem_of_getElem? h2, ha⟩
  | tup vs ps hl hnt hr ih =>
    intro hb hT
    refine .tup vs ps hl hnt (fun i v p h1 h2 => ?_)
    have hpb := inBAll_get (by simpa [PV.inB] using hb) h2
    rw [List.all_eq_true] at hnt
    have hpt := hnt p (List.mem_of_getElem? h2)
    refine ih i v p h1 h2 hpb (fun t ht => hT t ?_)
    simp only [PV.tk, List.mem_flatMap]
    refine ⟨p, List.mem_of_getElem? h2, ?_⟩
    cases p <;> first | exact ht | (simp [notTup] at hpt)

/-! ### Tokens put in order -/
/-- What the new numbers stand for. -/
structure Ren (n : Nat) (κ κ' : K) (acc : List Nat) : Prop where
  old : ∀ (i : Nat) (x : Nat × Nat × Nat), i < n → κ.τ[i]? = some x → κ'.τ[i]? = some x
  new : ∀ (j i : Nat) (x : Nat × Nat × Nat), acc[j]? = some i → κ.τ[i]? = some x → κ'.τ[n + j]? = some x

theorem keepTok_pre {n : Nat} {toks : List Bool} {acc : List Nat} {t : Tok} : acc <+: (keepTok n toks acc t).2 := by
  unfold keepTok
  split
  · split
    · exact List.prefix_refl _
    · split
      · exact List.prefix_append _ _
      · exact List.prefix_refl _
  · exact List.prefix_refl _

theorem keepTok_ok {n : Nat} {toks : List Bool} {acc accF : List Nat} {t : Tok} {κ κ' : K} {blk off k c esz : Nat} (hren : Ren n κ κ' accF) (hp : (keepTok n toks acc t).2 <+: accF) (ht : TokOK κ t blk off k c esz) :
    TokOK κ' (keepTok n toks acc t).1 blk off k c esz := by
  unfold keepTok at *
  split
  · rename_i i
    obtain ⟨e, ce, h1, h2⟩ := ht
    simp only at hp
    split
    · rename_i hi
      exact ⟨e, ce, hren.old _ _ hi h1, h2⟩
    · rename_i hi
      rw [if_neg hi] at hp
      split
      · rename_i hc
        rw [if_pos hc] at hp
        refine ⟨e, ce, hren.new acc.length i _ ?_ h1, h2⟩
        obtain ⟨r, rfl⟩ := hp
        simp
      · trivial
  · rename_i hne
    cases t with
    | no => trivial
    | ex => exact ht
    | own i => exact absurd rfl (hne i)

theorem keepLeaf_pre {n : Nat} {toks : List Bool} {acc : List Nat} {v : PV} : acc <+: (keepLeaf n toks acc v).2 := by
  unfold keepLeaf
  split
  · exact keepTok_pre
  · exact keepTok_pre
  · exact List.prefix_refl _

theorem keepCells_pre {n : Nat} {toks : List Bool} : ∀ {vs : List PV} {acc : List Nat}, acc <+: (keepCells n toks acc vs).2 := by
  intro vs
  induction vs with
  | nil => intro acc; exact List.prefix_refl _
  | cons v vs ih => intro acc; exact List.IsPrefix.trans keepLeaf_pre ih

theorem keepVal_pre {n : Nat} {toks : List Bool} {acc : List Nat} {v : PV} : acc <+: (keepVal n toks acc v).2 := by
  unfold keepVal
  split
  · exact keepCells_pre
  · exact keepLeaf_pre

theorem keepVals_pre {n : Nat} {toks : List Bool} : ∀ {vs : List PV} {acc : List Nat}, acc <+: (keepVals n toks acc vs).2 := by
  intro vs
  induction vs with
  | nil => intro acc; exact List.prefix_refl _
  | cons v vs ih => intro acc; exact List.IsPrefix.trans keepVal_pre ih

theorem keepLeaf_R {κ κ' : K} {n nb : Nat} {toks : List Bool} {acc accF : List Nat} {v : Value} {p : PV} (hC : ∀ b i v, κ.C b i = some v → κ'.C b i = some v) (hφ : ∀ (i x : Nat), i < nb → κ.φ[i]? = some x → κ'.φ[i]? = some x) (hren : Ren n κ κ' accF)
    (hp : (keepLeaf n toks acc p).2 <+: accF) (hb : p.inB nb = true) (hlf : leafOk p = true) (h : R g κ v p) : R g κ' v (keepLeaf n toks acc p).1 ∧ leafOk (keepLeaf n toks acc p).1 = true ∧ notTup (keepLeaf n toks acc p).1 = true := by
  cases h
  case bys blk off k c t l hn hc hbb ht =>
    exact ⟨.bys blk off k c _ l hn hc (fun i b h => hC _ _ _ (hbb i b h)) (keepTok_ok hren hp ht), rfl, rfl⟩
  case sl blk off k c esz t xs vs hn hc he hl hv hr hd hlf' ht =>
    exact ⟨.sl blk off k c esz _ xs vs hn hc he hl (fun i v h => hC _ _ _ (hv i v h)) (fun i v p h1 h2 => (hr i v p h1 h2).dataMono hC (dataAll_get (dataAll_flat hd) h2)) hd hlf' (keepTok_ok hren hp ht), rfl, rfl⟩
  case agg => simp [leafOk] at hlf
  case tup => simp [leafOk] at hlf
  case undef => simp [leafOk] at hlf
  case yld => simp [PV.inB] at hb
  case ptr b off blk h => exact ⟨.ptr b off blk (hφ _ _ (by simpa [PV.inB] using hb) h), rfl, rfl⟩
  case ms b off off' k c blk h hc ho => exact ⟨.ms b off off' k c blk (hφ _ _ (by simpa [PV.inB] using hb) h) hc ho, rfl, rfl⟩
  case cp blk off vs cells hl hc hr hd hlf' => exact ⟨.cp blk off vs cells hl (fun i v h => hC _ _ _ (hc i v h)) (fun i v p h1 h2 => (hr i v p h1 h2).dataMono hC (dataAll_get hd h2)) hd hlf', rfl, rfl⟩
  case fn f' f cv cap h1 hl hk hr =>
    refine ⟨?_, rfl, rfl⟩
    exact (R.fn f' f cv cap h1 hl hk hr).restrict (n := nb) (T := fun _ => False) hC hφ (fun t x ht => ht.elim) hb (by simp [PV.tk, toksOf, tokOf])
  case bool b => exact ⟨.bool b, rfl, rfl⟩
  case b8 b m hm => exact ⟨.b8 b m hm, rfl, rfl⟩
  case int k m hk => exact ⟨.int k m hk, rfl, rfl⟩
  case str s l hl => exact ⟨.str s l hl, rfl, rfl⟩
  case nilp => exact ⟨.nilp, rfl, rfl⟩
  case nils => exact ⟨.nils, rfl, rfl⟩
  case nilf => exact ⟨.nilf, rfl, rfl⟩
  case nili => exact ⟨.nili, rfl, rfl⟩

theorem keepCells_R {κ κ' : K} {n nb : Nat} {toks : List Bool} {accF : List Nat} (hC : ∀ b i v, κ.C b i = some v → κ'.C b i = some v) (hφ : ∀ (i x : Nat), i < nb → κ.φ[i]? = some x → κ'.φ[i]? = some x) (hren : Ren n κ κ' accF) :
    ∀ (ps : List PV) (acc : List Nat) (f : Nat → Option Value), (keepCells n toks acc ps).2 <+: accF → PV.inB.inBAll nb ps = true → ps.all leafOk = true → (∀ (i : Nat) (v : Value) (p : PV), f i = some v → ps[i]? = some p → R g κ v p) →
      (keepCells n toks acc ps).1.length = ps.length ∧ (keepCells n toks acc ps).1.all leafOk = true ∧ ∀ (i : Nat) (v : Value) (p : PV), f i = some v → (keepCells n toks acc ps).1[i]? = some p → R g κ' v p := by
  intro ps
  induction ps with
  | nil => intro acc f _ _ _ _; exact ⟨rfl, rfl, fun i v p _ h => by simp [keepCells] at h⟩
  | cons p ps ih =>
    intro acc f hp hb hlf hr
    simp only [PV.inB.inBAll, Bool.and_eq_true] at hb
    simp only [List.all_cons, Bool.and_eq_true] at hlf
    obtain ⟨a1, a2, a3⟩ := ih (keepLeaf n toks acc p).2 (fun i => f (i + 1)) hp hb.2 hlf.2 (fun i v q h1 h2 => hr (i + 1) v q h1 (by simpa using h2))
    have hpre : (keepLeaf n toks acc p).2 <+: accF := List.IsPrefix.trans keepCells_pre hp
    have hleaf : leafOk (keepLeaf n toks acc p).1 = true := by
      have h1 := hlf.1
      cases p <;> simp_all [keepLeaf, leafOk]
    refine ⟨by simp [keepCells, a1], by simp only [keepCells, List.all_cons, hleaf, a2]; rfl, fun i v q h1 h2 => ?_⟩
    cases i with
    | zero =>
      simp [keepCells] at h2; subst h2
      exact (keepLeaf_R hC hφ hren hpre hb.1 hlf.1 (hr 0 v p h1 rfl)).1
    | succ i => exact a3 i v q h1 (by simpa [keepCells] using h2)

theorem keepVal_R {κ κ' : K} {n nb : Nat} {toks : List Bool} {acc accF : List Nat} {v : Value} {p : PV} (hC : ∀ b i v, κ.C b i = some v → κ'.C b i = some v) (hφ : ∀ (i x : Nat), i < nb → κ.φ[i]? = some x → κ'.φ[i]? = some x) (hren : Ren n κ κ' accF)
    (hp : (keepVal n toks acc p).2 <+: accF) (hb : p.inB nb = true) (hnt : notTup p = true) (h : R g κ v p) : R g κ' v (keepVal n toks acc p).1 ∧ notTup (keepVal n toks acc p).1 = true := by
  by_cases ha : ∃ cs, p = .agg cs
  · obtain ⟨cs, rfl⟩ := ha
    cases h with | agg vs _ hl hlf hr =>
    obtain ⟨a1, a2, a3⟩ := keepCells_R hC hφ hren cs acc (fun i => vs[i]?) hp (by simpa [PV.inB] using hb) hlf hr
    exact ⟨.agg _ _ (by rw [a1]; exact hl) a2 a3, rfl⟩
  · by_cases hu : p = .undef
    · subst hu; cases h; exact ⟨.undef, rfl⟩
    · have hlf : leafOk p = true := by cases p <;> simp_all [leafOk, notTup]
      have hk : keepVal n toks acc p = keepLeaf n toks acc p := by cases p <;> first | rfl | exact absurd ⟨_, rfl⟩ ha
      rw [hk] at hp ⊢
      have := keepLeaf_R hC hφ hren hp hb hlf h
      exact ⟨this.1, this.2.2⟩

theorem keepVals_R {κ κ' : K} {n nb : Nat} {toks : List Bool} {accF : List Nat} (hC : ∀ b i v, κ.C b i = some v → κ'.C b i = some v) (hφ : ∀ (i x : Nat), i < nb → κ.φ[i]? = some x → κ'.φ[i]? = some x) (hren : Ren n κ κ' accF) :
    ∀ (ps : List PV) (acc : List Nat) (f : Nat → Option Value), (keepVals n toks acc ps).2 <+: accF → PV.inB.inBAll nb ps = true → ps.all notTup = true → (∀ (i : Nat) (v : Value) (p : PV), f i = some v → ps[i]? = some p → R g κ v p) →
      (keepVals n toks acc ps).1.length = ps.length ∧ ((∀ i, i < ps.length → (f i).isSome) → (keepVals n toks acc ps).1.all notTup = true) ∧ ∀ (i : Nat) (v : Value) (p : PV), f i = some v → (keepVals n toks acc ps).1[i]? = some p → R g κ' v p := by
  intro ps
  induction ps with
  | nil => intro acc f _ _ _ _; exact ⟨rfl, fun _ => rfl, fun i v p _ h => by simp [keepVals] at h⟩
  | cons p ps ih =>
    intro acc f hp hb hnt hr
    simp only [PV.inB.inBAll, Bool.and_eq_true] at hb
    simp only [List.all_cons, Bool.and_eq_true] at hnt
    obtain ⟨a1, a2, a3⟩ := ih (keepVal n toks acc p).2 (fun i => f (i + 1)) hp hb.2 hnt.2 (fun i v q h1 h2 => hr (i + 1) v q h1 (by simpa using h2))
    have hpre : (keepVal n toks acc p).2 <+: accF := List.IsPrefix.trans keepVals_pre hp
    refine ⟨by simp [keepVals, a1], fun hs => ?_, fun i v q h1 h2 => ?_⟩
    · obtain ⟨v0, hv0⟩ := Option.isSome_iff_exists.1 (hs 0 (by simp))
      have h0 := (keepVal_R hC hφ hren hpre hb.1 hnt.1 (hr 0 v0 p hv0 rfl)).2
      simp only [keepVals, List.all_cons, h0, a2 (fun i hi => hs (i + 1) (by simpa using hi))]; rfl
    · cases i with
      | zero =>
        simp [keepVals] at h2; subst h2
        exact (keepVal_R hC hφ hren hpre hb.1 hnt.1 (hr 0 v p h1 rfl)).1
      | succ i => exact a3 i v q h1 (by simpa [keepVals] using h2)

theorem keepRes_R {κ κ' : K} {n nb : Nat} {toks : List Bool} {v : Value} {p : PV} (hC : ∀ b i v, κ.C b i = some v → κ'.C b i = some v) (hφ : ∀ (i x : Nat), i < nb → κ.φ[i]? = some x → κ'.φ[i]? = some x) (hren : Ren n κ κ' (keepRes n toks p).2)
    (hb : p.inB nb = true) (h : R g κ v p) : R g κ' v (keepRes n toks p).1 := by
  by_cases ht : ∃ us, p = .tup us
  · obtain ⟨us, rfl⟩ := ht
    cases h with | tup vs _ hl hnt hr =>
    obtain ⟨a1, a2, a3⟩ := keepVals_R hC hφ hren us [] (fun i => vs[i]?) (List.prefix_refl _) (by simpa [PV.inB] using hb) hnt hr
    exact .tup _ _ (by rw [a1]; exact hl) (a2 fun i hi => by simp [show i < vs.size by omega]) a3
  · have hk : keepRes n toks p = keepVal n toks [] p := by cases p <;> first | rfl | exact absurd ⟨_, rfl⟩ ht
    rw [hk] at hren ⊢
    exact (keepVal_R hC hφ hren (List.prefix_refl _) hb (by cases p <;> first | rfl | exact absurd ⟨_, rfl⟩ ht) h).1

/-- Which tokens are kept: live ones of the callee's own, each once. -/
structure AccOK (n : Nat) (toks : List Bool) (acc : List Nat) : Prop where
  live : ∀ i ∈ acc, toks[i]? = some true
  own : ∀ i ∈ acc, n ≤ i
  nd : acc.Nodup

theorem keepTok_acc {n : Nat} {toks : List Bool} {acc : List Nat} {t : Tok} (h : AccOK n toks acc) : AccOK n toks (keepTok n toks acc t).2 := by
  unfold keepTok
  split
  · split
    · exact h
    · split
      · rename_i i h1 h2
        refine ⟨fun j hj => ?_, fun j hj => ?_, ?_⟩
        · simp at hj; rcases hj with hj | rfl
          · exact h.live j hj
          · exact h2.1
        · simp at hj; rcases hj with hj | rfl
          · exact h.own j hj
          · omega
        · rw [List.nodup_append]
          exact ⟨h.nd, by simp, fun a ha b hb => by simp at hb; subst hb; rintro rfl; exact h2.2 ha⟩
      · exact h
  · exact h

theorem keepLeaf_acc {n : Nat} {toks : List Bool} {acc : List Nat} {v : PV} (h : AccOK n toks acc) : AccOK n toks (keepLeaf n toks acc v).2 := by
  unfold keepLeaf
  split
  · exact keepTok_acc h
  · exact keepTok_acc h
  · exact h

theorem keepCells_acc {n : Nat} {toks : List Bool} : ∀ {vs : List PV} {acc : List Nat}, AccOK n toks acc → AccOK n toks (keepCells n toks acc vs).2 := by
  intro vs
  induction vs with
  | nil => intro acc h; exact h
  | cons v vs ih => intro acc h; exact ih (keepLeaf_acc h)

theorem keepVal_acc {n : Nat} {toks : List Bool} {acc : List Nat} {v : PV} (h : AccOK n toks acc) : AccOK n toks (keepVal n toks acc v).2 := by
  unfold keepVal
  split
  · exact keepCells_acc h
  · exact keepLeaf_acc h

theorem keepVals_acc {n : Nat} {toks : List Bool} : ∀ {vs : List PV} {acc : List Nat}, AccOK n toks acc → AccOK n toks (keepVals n toks acc vs).2 := by
  intro vs
  induction vs with
  | nil => intro acc h; exact h
  | cons v vs ih => intro acc h; exact ih (keepVal_acc h)

theorem keepRes_acc (n : Nat) (toks : List Bool) (p : PV) : AccOK n toks (keepRes n toks p).2 := by
  have h0 : AccOK n toks [] := ⟨by simp, by simp, List.nodup_nil⟩
  unfold keepRes
  split
  · exact keepVals_acc h0
  · exact keepVal_acc h0

theorem SR.low {κ : K} {w : World} {st : St} (h : SR P g base κ w st) (x : Nat) : SR P g base κ w { st with low := x } :=
  ⟨h.cC, h.bl, h.bn, h.bx, h.tl, h.tk, h.td, h.ll, h.ln, h.lb, h.lp, h.hb, h.gv⟩

/-- The loops that run, seen with what was known ahead. -/
theorem loops_back {κ κ1 : K} {w w1 : World} {st st1 : St} (h0 : SR P g base κ w st) (h1 : SR P g base κ1 w1 st1) (hlam : κ1.lam = κ.lam) (hfr : Fr base κ.lam w w1)
    (hln : st1.loops.length = st.loops.length) (hlk : ∀ (k : Nat) (r : LoopS), st.loops[k]? = some r → ∃ r1, st1.loops[k]? = some r1 ∧ SameLoop r r1) {κ' : K} (hle : K.le κ κ')
    (k l D : Nat) (r1 : LoopS) (hr1 : st1.loops[k]? = some r1) (hl : κ.lam[k]? = some (l, D)) : LoopOK P g κ' w1 l D r1 := by
  have hk : k < st.loops.length := by rw [← hln]; exact (List.getElem?_eq_some_iff.1 hr1).1
  have hr0 : st.loops[k]? = some st.loops[k] := by simp [hk]
  obtain ⟨r1', a1, a2⟩ := hlk k _ hr0
  rw [hr1] at a1; cases a1
  obtain ⟨rec0, nt0, b1, b2, b3, b4, b5, b6, b7, b8, b9, b10⟩ := (h0.lp k l D _ hr0 hl).ex
  obtain ⟨rec1, nt1, c1, c2, c3, c4, c5, c6, c7, c8, c9, c10⟩ := (h1.lp k l D r1 hr1 (by rw [hlam]; exact hl)).ex
  obtain ⟨rec', d1, d2⟩ := hfr.loops l rec0 (List.mem_map.2 ⟨(l, D), List.mem_of_getElem? hl, rfl⟩) b1
  rw [c1] at d1; cases d1
  refine ⟨rec1, nt0, c1, c2, c3, c4, ?_, ?_, ?_, ?_, c9, c10⟩
  · rw [d2.tmps, a2.env]; exact b5.mono hle
  · rw [d2.assign, a2.assign]; exact b6
  · rw [d2.body, a2.body]; exact b7
  · rw [a2.params]; exact b8

/-- The boxes cut back, the tokens renumbered. -/
theorem SR.cut {κ κ1 : K} {w w1 : World} {st st1 : St} (h0 : SR P g base κ w st) (h1 : SR P g base κ1 w1 st1) (hle : K.le κ κ1) (hlam : κ1.lam = κ.lam) (hfr : Fr base κ.lam w w1)
    (hln : st1.loops.length = st.loops.length) (hlk : ∀ (k : Nat) (r : LoopS), st.loops[k]? = some r → ∃ r1, st1.loops[k]? = some r1 ∧ SameLoop r r1) (hsz : st.boxes.length ≤ st1.boxes.length)
    {T : Nat → Prop} (τ' : List (Nat × Nat × Nat)) (toks' : List Bool) (low' : Nat) (ι : Nat → Nat) (hT : ∀ (b : Nat) (cs : List PV), b < st.boxes.length → st1.boxes[b]? = some cs → ∀ t ∈ toksOf cs, T t)
    (hτ : ∀ (t : Nat) (x : Nat × Nat × Nat), T t → κ1.τ[t]? = some x → τ'[t]? = some x) (hτ0 : ∀ (i : Nat) (x : Nat × Nat × Nat), κ.τ[i]? = some x → τ'[i]? = some x) (htl : τ'.length = toks'.length)
    (hι : ∀ (i : Nat) (x : Nat × Nat × Nat), toks'[i]? = some true → τ'[i]? = some x → st1.toks[ι i]? = some true ∧ κ1.τ[ι i]? = some x)
    (hinj : ∀ (i j : Nat), toks'[i]? = some true → toks'[j]? = some true → ι i = ι j → i = j) :
    let κ' : K := { C := κ1.C, φ := κ.φ, lam := κ.lam, τ := τ' }
    K.le κ κ' ∧ SR P g base κ' w1 { boxes := st1.boxes.take st.boxes.length, toks := toks', loops := st1.loops, low := low' } := by
  intro κ'
  have hle' : K.le κ κ' := ⟨hle.C, fun _ _ h => h, fun _ _ h => h, hτ0⟩
  have hφ : ∀ (i x : Nat), κ.φ[i]? = some x → κ1.φ[i]? = some x := hle.φ
  have hφ' : ∀ (i x : Nat), i < st.boxes.length → κ1.φ[i]? = some x → κ.φ[i]? = some x := fun i x hi hx => by
    have : i < κ.φ.length := by rw [h0.bl]; exact hi
    have h2 : κ.φ[i]? = some κ.φ[i] := by simp [this]
    rw [hφ _ _ h2] at hx; cases hx; exact h2
  refine ⟨hle', { cC := h1.cC, bl := ?_, bn := h0.bn, bx := ?_, tl := htl, tk := ?_, td := ?_, ll := ?_, ln := h0.ln, lb := h0.lb, lp := fun k l D r a b => loops_back h0 h1 hlam hfr hln hlk hle' k l D r a b, hb := h1.hb, gv := g.mono _ _ hle'.C h0.gv }⟩
  · show κ.φ.length = (st1.boxes.take st.boxes.length).length
    rw [List.length_take, h0.bl]; omega
  · intro b blk cs hb hp
    simp only [List.getElem?_take] at hb
    split at hb
    · rename_i hlt
      have hx := h1.bx b blk cs hb (hφ _ _ hp)
      obtain ⟨rs, hc, h3, h4⟩ := hx.ex
      refine ⟨hx.ge, hx.nc, ⟨rs, hc, h3, fun i c hi => ?_⟩, hx.lf, hx.lw⟩
      obtain ⟨v, hv, hr⟩ := h4 i c hi
      have hlf := hx.lf
      rw [List.all_eq_true] at hlf
      have hmem := List.mem_of_getElem? hi
      refine ⟨v, hv, hr.restrict (κ := κ1) (κ' := κ') (n := b) (T := T) (fun _ _ _ h => h) (fun i x hi => hφ' i x (by omega)) hτ (hx.lw c hmem) (fun t ht => hT b cs hlt hb t ?_)⟩
      rw [leaf_tk (hlf c hmem)] at ht
      simp only [toksOf, List.mem_filterMap, List.mem_singleton] at *
      obtain ⟨a, rfl, ha⟩ := ht
      exact ⟨a, hmem, ha⟩
    · cases hb
  · intro i blk e ce a b
    obtain ⟨c, d⟩ := hι i _ a b
    have hx := h1.tk (ι i) blk e ce c d
    exact ⟨hx.ge, fun hm => hx.nb (by
      obtain ⟨j, hj⟩ := List.getElem?_of_mem hm
      exact List.mem_of_getElem? (hφ _ _ hj)), hx.nc, hx.ex⟩
  · intro i j bi ei ci bj ej cj a b c d hij
    obtain ⟨e1, e2⟩ := hι i _ a c
    obtain ⟨f1, f2⟩ := hι j _ b d
    exact h1.td _ _ _ _ _ _ _ _ e1 f1 e2 f2 (fun he => hij (hinj i j a b he))
  · show κ.lam.length = st1.loops.length
    rw [hln]; exact h0.ll

theorem leave_sim {κ κ1 : K} {w w1 : World} {st st1 : St} {z : Value} {v : PV} (h0 : SR P g base κ w st) (h1 : SR P g base κ1 w1 st1) (hle : K.le κ κ1) (hlam : κ1.lam = κ.lam) (hfr : Fr base κ.lam w w1)
    (htk : TK { st with low := st.boxes.length } st1) (hr : R g κ1 z v) :
    ∃ κ', K.le κ κ' ∧ κ'.lam = κ.lam ∧ SR P g base κ' w1 (leave st st1 v).2 ∧ R g κ' z (leave st st1 v).1 := by
  have hφ' : ∀ (i x : Nat), i < st.boxes.length → κ1.φ[i]? = some x → κ.φ[i]? = some x := fun i x hi hx => by
    have : i < κ.φ.length := by rw [h0.bl]; exact hi
    have h2 : κ.φ[i]? = some κ.φ[i] := by simp [this]
    rw [hle.φ _ _ h2] at hx; cases hx; exact h2
  unfold leave
  split
  · rename_i hb
    split
    · rename_i hlow
      have hacc := keepRes_acc st.toks.length st1.toks v
      generalize hr' : keepRes st.toks.length st1.toks v = r at hacc
      have hlen1 : κ.τ.length ≤ κ1.τ.length := by
        rcases Nat.lt_or_ge κ1.τ.length κ.τ.length with hlt | hge
        · have := hle.τ κ1.τ.length κ.τ[κ1.τ.length] (by simp [hlt])
          simp at this
        · exact hge
      have hlast : ∀ i ∈ r.2, i < κ1.τ.length := fun i hi => by rw [h1.tl]; exact (List.getElem?_eq_some_iff.1 (hacc.live i hi)).1
      have hτn : ∀ (j i : Nat), r.2[j]? = some i → (κ.τ ++ r.2.map fun i => κ1.τ.getD i (0, 0, 0))[st.toks.length + j]? = κ1.τ[i]? := fun j i hj => by
        rw [← h0.tl, List.getElem?_append_right (by omega), show κ.τ.length + j - κ.τ.length = j by omega, List.getElem?_map, hj]
        have hi := hlast i (List.mem_of_getElem? hj)
        simp [List.getD, hi]
      have hτ0 : ∀ (i : Nat) (x : Nat × Nat × Nat), κ.τ[i]? = some x → (κ.τ ++ r.2.map fun i => κ1.τ.getD i (0, 0, 0))[i]? = some x := fun i x hx => by
        rw [List.getElem?_append_left (List.getElem?_eq_some_iff.1 hx).1]; exact hx
      have hτold : ∀ (i : Nat) (x : Nat × Nat × Nat), i < st.toks.length → κ1.τ[i]? = some x → (κ.τ ++ r.2.map fun i => κ1.τ.getD i (0, 0, 0))[i]? = some x := fun i x hi hx => by
        have hlt : i < κ.τ.length := by rw [h0.tl]; exact hi
        have h2 : κ.τ[i]? = some κ.τ[i] := by simp [hlt]
        rw [hle.τ _ _ h2] at hx; cases hx
        exact hτ0 _ _ h2
      have hlt1 : st.toks.length ≤ st1.toks.length := by rw [← h1.tl, ← h0.tl]; exact hlen1
      have hcut := h0.cut h1 hle hlam hfr htk.ln htk.lk htk.sz (T := fun t => t < st.toks.length) (κ.τ ++ r.2.map fun i => κ1.τ.getD i (0, 0, 0))
        (st1.toks.take st.toks.length ++ List.replicate r.2.length true) st.low (fun i => if i < st.toks.length then i else r.2.getD (i - st.toks.length) 0)
        (fun b cs hbl hbc t ht => by
          obtain ⟨cs0, c1, c2⟩ := htk.tk b cs (by omega) hbc
          have ht0 := c2 t ht
          simp only at c1
          have hlp : b < κ.φ.length := by rw [h0.bl]; exact hbl
          have hp : κ.φ[b]? = some κ.φ[b] := by simp [hlp]
          obtain ⟨rs, _, _, h4⟩ := (h0.bx b _ cs0 c1 hp).ex
          simp only [toksOf, List.mem_filterMap] at ht0
          obtain ⟨p, hpm, hpt⟩ := ht0
          obtain ⟨i, hi⟩ := List.getElem?_of_mem hpm
          obtain ⟨u, _, hru⟩ := h4 i p hi
          show t < st.toks.length
          rw [← h0.tl]
          cases hru with
          | bys blk off n c tk l hn hc hb htok =>
            cases tk with
            | own j => simp [tokOf] at hpt; subst hpt; obtain ⟨e, ce, h5, _⟩ := htok; exact (List.getElem?_eq_some_iff.1 h5).1
            | no => simp [tokOf] at hpt
            | ex => simp [tokOf] at hpt
          | sl blk off n c esz tk xs vs hn hc he hl hv hr hd hlf htok =>
            cases tk with
            | own j => simp [tokOf] at hpt; subst hpt; obtain ⟨e, ce, h5, _⟩ := htok; exact (List.getElem?_eq_some_iff.1 h5).1
            | no => simp [tokOf] at hpt
            | ex => simp [tokOf] at hpt
          | _ => simp [tokOf] at hpt)
        (fun t x hT hx => hτold t x hT hx) hτ0 (by simp [h0.tl]; omega)
        (fun i x hi hx => by
          by_cases hlt : i < st.toks.length
          · simp only [hlt, if_true]
            rw [List.getElem?_append_left (by rw [List.length_take]; omega), List.getElem?_take, if_pos hlt] at hi
            refine ⟨hi, ?_⟩
            have h2 : i < κ1.τ.length := by rw [h1.tl]; omega
            have h3 : κ1.τ[i]? = some κ1.τ[i] := by simp [h2]
            rw [hτold i _ hlt h3] at hx
            rw [h3]; exact hx
          · simp only [hlt, if_false]
            have hil := (List.getElem?_eq_some_iff.1 hi).1
            simp only [List.length_append, List.length_take, List.length_replicate] at hil
            have hj : r.2[i - st.toks.length]? = some (r.2.getD (i - st.toks.length) 0) := by simp [List.getD, show i - st.toks.length < r.2.length by omega]
            have := hτn _ _ hj
            rw [show st.toks.length + (i - st.toks.length) = i by omega] at this
            exact ⟨hacc.live _ (List.mem_of_getElem? hj), by rw [← this]; exact hx⟩)
        (fun i j hi hj he => by
          have hil := (List.getElem?_eq_some_iff.1 hi).1
          have hjl := (List.getElem?_eq_some_iff.1 hj).1
          simp only [List.length_append, List.length_take, List.length_replicate] at hil hjl
          have key : ∀ i, ¬ i < st.toks.length → i - st.toks.length < r.2.length → st.toks.length ≤ r.2.getD (i - st.toks.length) 0 := fun i _ hl => by
            have hj : r.2[i - st.toks.length]? = some (r.2.getD (i - st.toks.length) 0) := by simp [List.getD, hl]
            exact hacc.own _ (List.mem_of_getElem? hj)
          by_cases a : i < st.toks.length <;> by_cases b : j < st.toks.length
          · simpa [a, b] using he
          · have := key j b (by omega)
            simp only [a, b, if_true, if_false] at he; omega
          · have := key i a (by omega)
            simp only [a, b, if_true, if_false] at he; omega
          · simp only [a, b, if_false] at he
            have hi' : i - st.toks.length < r.2.length := by omega
            have hj' : j - st.toks.length < r.2.length := by omega
            have : r.2[i - st.toks.length]? = r.2[j - st.toks.length]? := by
              simp [List.getD, hi', hj'] at he ⊢; exact he
            have := (List.getElem?_inj hi' hacc.nd).1 this
            omega)
      refine ⟨_, hcut.1, rfl, hcut.2, ?_⟩
      have hk := keepRes_R (κ := κ1) (κ' := { C := κ1.C, φ := κ.φ, lam := κ.lam, τ := κ.τ ++ r.2.map fun i => κ1.τ.getD i (0, 0, 0) }) (n := st.toks.length) (toks := st1.toks) (fun _ _ _ h => h) (fun i x hi hx => hφ' i x hi hx)
        (by rw [hr']; exact ⟨hτold, fun j i x hj hx => by show (κ.τ ++ _)[_]? = _; rw [hτn j i hj]; exact hx⟩) hb hr
      rw [hr'] at hk
      exact hk
    · have hcut := h0.cut h1 hle hlam hfr htk.ln htk.lk htk.sz (T := fun _ => True) κ1.τ st1.toks (min st.low st1.low) id (fun _ _ _ _ _ _ => trivial) (fun t x _ hx => hx) hle.τ h1.tl (fun i x a b => ⟨a, b⟩) (fun i j _ _ h => h)
      exact ⟨_, hcut.1, rfl, hcut.2, hr.restrict (κ := κ1) (κ' := { C := κ1.C, φ := κ.φ, lam := κ.lam, τ := κ1.τ }) (T := fun _ => True) (fun _ _ _ h => h) (fun i x hi hx => hφ' i x hi hx) (fun t x _ hx => hx) hb (fun _ _ => trivial)⟩
  · exact ⟨κ1, hle, hlam, h1.low _, hr⟩

end Go.Ab
