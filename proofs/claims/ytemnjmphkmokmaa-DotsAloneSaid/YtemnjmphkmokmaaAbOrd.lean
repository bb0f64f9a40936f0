/-
  Regions that draw their order: the lexical order stands for all.
-/
import Derived.Test.YtemnjmphkmokmaaAbSim
namespace Go.Ab
set_option linter.unusedVariables false
set_option linter.unusedSimpArgs false

variable {P : Program} {g : GMap} {base : Nat} {κ : K} {w : World} {st : St}

theorem updO_ne {e : Env} {d : Option Nat} {v : PV} {t : Nat} (h : ∀ x, d = some x → t ≠ x) : updO e d v t = e t := by
  cases d with
  | none => rfl
  | some x => simp [updO, upd, h x rfl]

theorem updO_comm {e : Env} {d d' : Option Nat} {v v' : PV} (h : ∀ x, d = some x → d' ≠ some x) : updO (updO e d v) d' v' = updO (updO e d' v') d v := by
  cases d with
  | none => rfl
  | some x => cases d' with
    | none => rfl
    | some y =>
      have hne : x ≠ y := fun hxy => h x rfl (by rw [hxy])
      funext t
      simp only [updO, upd]
      by_cases h1 : t = y <;> by_cases h2 : t = x <;> simp_all

theorem ev_congr {e e' : Env} {x : Opd} (h : ∀ t ∈ x.tmps, e t = e' t) : x.ev e = x.ev e' := by
  cases x with
  | tmp t => exact h t (by simp [Opd.tmps])
  | const v => rfl
  | fn f => rfl

theorem ev_map_congr {e e' : Env} {xs : List Opd} (h : ∀ t ∈ tmpsOf xs, e t = e' t) : xs.map (·.ev e) = xs.map (·.ev e') := by
  apply List.map_congr_left
  intro x hx
  exact ev_congr fun t ht => h t (List.mem_flatMap.2 ⟨x, hx, ht⟩)

theorem evOp_congr {cv : PV → List PV → St → Option (PV × St)} {op : AOp} {e e' : Env} {st : St} (h : ∀ t ∈ op.tmps, e t = e' t) : evOp cv op e st = evOp cv op e' st := by
  cases op <;> simp only [AOp.tmps] at h
  case pick c a b =>
    have h1 := ev_congr (x := c) fun t ht => h t (by simp [tmpsOf, ht])
    have h2 := ev_congr (x := a) fun t ht => h t (by simp [tmpsOf, ht])
    have h3 := ev_congr (x := b) fun t ht => h t (by simp [tmpsOf, ht])
    simp only [evOp, h1, h2, h3]
  case build z ps =>
    have : (ps.map fun q => (q.1, q.2.1, q.2.2.ev e)) = (ps.map fun q => (q.1, q.2.1, q.2.2.ev e')) := List.map_congr_left fun q hq => by
      rw [ev_congr fun t ht => h t (List.mem_flatMap.2 ⟨q.2.2, List.mem_map.2 ⟨q, hq, rfl⟩, ht⟩)]
    simp only [evOp, this]
  case lit8 n ps =>
    have : (ps.map fun q => (q.1, q.2.ev e)) = (ps.map fun q => (q.1, q.2.ev e')) := List.map_congr_left fun q hq => by
      rw [ev_congr fun t ht => h t (List.mem_flatMap.2 ⟨q.2, List.mem_map.2 ⟨q, hq, rfl⟩, ht⟩)]
    simp only [evOp, this]
  case lit z zz n ps =>
    have : (ps.map fun q => (q.1, q.2.ev e)) = (ps.map fun q => (q.1, q.2.ev e')) := List.map_congr_left fun q hq => by
      rw [ev_congr fun t ht => h t (List.mem_flatMap.2 ⟨q.2, List.mem_map.2 ⟨q, hq, rfl⟩, ht⟩)]
    simp only [evOp, this]
  case mkfn f cs => simp only [evOp, ev_map_congr h]
  case mnmx b xs => simp only [evOp, ev_map_congr h]
  case slc esz x lo hi mx =>
    have h1 := ev_congr (x := x) fun t ht => h t (by simp [tmpsOf, ht])
    have h2 : lo.map (·.ev e) = lo.map (·.ev e') := by
      cases lo with
      | none => rfl
      | some y => simp only [Option.map_some]; rw [ev_congr fun t ht => h t (by simp [tmpsOf, ht])]
    have h3 : hi.map (·.ev e) = hi.map (·.ev e') := by
      cases hi with
      | none => rfl
      | some y => simp only [Option.map_some]; rw [ev_congr fun t ht => h t (by simp [tmpsOf, ht])]
    have h4 : mx.map (·.ev e) = mx.map (·.ev e') := by
      cases mx with
      | none => rfl
      | some y => simp only [Option.map_some]; rw [ev_congr fun t ht => h t (by simp [tmpsOf, ht])]
    simp only [evOp, h1, h2, h3, h4]
  case call f xs =>
    have h1 := ev_congr (x := f) fun t ht => h t (by simp [tmpsOf, ht])
    have h2 := ev_map_congr (xs := xs) fun t ht => h t (by
      simp only [tmpsOf, List.flatMap_cons, List.mem_append] at *; exact .inr ht)
    simp only [evOp, h1, h2]
  case store sz a x => simp only [evOp, ev_congr (x := a) fun t ht => h t (by simp [tmpsOf, ht]), ev_congr (x := x) fun t ht => h t (by simp [tmpsOf, ht])]
  case bin op ek a x => simp only [evOp, ev_congr (x := a) fun t ht => h t (by simp [tmpsOf, ht]), ev_congr (x := x) fun t ht => h t (by simp [tmpsOf, ht])]
  case mk8 mu a x => simp only [evOp, ev_congr (x := a) fun t ht => h t (by simp [tmpsOf, ht]), ev_congr (x := x) fun t ht => h t (by simp [tmpsOf, ht])]
  case mkms z a x => simp only [evOp, ev_congr (x := a) fun t ht => h t (by simp [tmpsOf, ht]), ev_congr (x := x) fun t ht => h t (by simp [tmpsOf, ht])]
  case iaddr z a x => simp only [evOp, ev_congr (x := a) fun t ht => h t (by simp [tmpsOf, ht]), ev_congr (x := x) fun t ht => h t (by simp [tmpsOf, ht])]
  case iaddrA l z a x => simp only [evOp, ev_congr (x := a) fun t ht => h t (by simp [tmpsOf, ht]), ev_congr (x := x) fun t ht => h t (by simp [tmpsOf, ht])]
  case idx l b z a x => simp only [evOp, ev_congr (x := a) fun t ht => h t (by simp [tmpsOf, ht]), ev_congr (x := x) fun t ht => h t (by simp [tmpsOf, ht])]
  case idxS a x => simp only [evOp, ev_congr (x := a) fun t ht => h t (by simp [tmpsOf, ht]), ev_congr (x := x) fun t ht => h t (by simp [tmpsOf, ht])]
  case app u z a x => simp only [evOp, ev_congr (x := a) fun t ht => h t (by simp [tmpsOf, ht]), ev_congr (x := x) fun t ht => h t (by simp [tmpsOf, ht])]
  case alloc => rfl
  all_goals simp only [evOp, ev_congr h]

/-- An operation that touches no memory. -/
theorem evOp_pure {cv : PV → List PV → St → Option (PV × St)} {op : AOp} (h : op.cls = .pure) (e : Env) : ∃ o : Option PV, ∀ st, evOp cv op e st = o.map fun v => (v, st) := by
  cases op <;> simp [AOp.cls] at h
  case mov x => exact ⟨some (x.ev e), fun st => rfl⟩
  case pick c a b =>
    simp only [evOp]
    cases c.ev e <;> first | exact ⟨none, fun st => rfl⟩ | exact ⟨some _, fun st => rfl⟩
  case build z ps => exact ⟨_, fun st => rfl⟩
  case nilck x => exact ⟨_, fun st => rfl⟩
  case bin => exact ⟨_, fun st => rfl⟩
  case un => exact ⟨_, fun st => rfl⟩
  case cInt => exact ⟨_, fun st => rfl⟩
  case cB2S mu x =>
    refine ⟨(b2s false ⟨[], [], [], 0⟩ (x.ev e)).map .str, fun st => ?_⟩
    simp only [evOp]
    have : b2s mu st (x.ev e) = b2s false ⟨[], [], [], 0⟩ (x.ev e) := by
      cases mu
      · cases x.ev e <;> rfl
      · simp at h
    rw [this]
  case cStr x =>
    simp only [evOp]
    cases x.ev e <;> first | exact ⟨none, fun st => rfl⟩ | exact ⟨some _, fun st => rfl⟩
  case mkfn f cs =>
    simp only [evOp]
    split
    · exact ⟨some _, fun st => rfl⟩
    · exact ⟨none, fun st => rfl⟩
  case slc => exact ⟨_, fun st => rfl⟩
  case faddr => exact ⟨_, fun st => rfl⟩
  case fld => exact ⟨_, fun st => rfl⟩
  case iaddr => exact ⟨_, fun st => rfl⟩
  case iaddrA => exact ⟨_, fun st => rfl⟩
  case idx => exact ⟨_, fun st => rfl⟩
  case idxS => exact ⟨_, fun st => rfl⟩
  case ext => exact ⟨_, fun st => rfl⟩
  case len => exact ⟨_, fun st => rfl⟩
  case mnmx => exact ⟨_, fun st => rfl⟩

theorem evOp_read {cv : PV → List PV → St → Option (PV × St)} {op : AOp} (h : op.cls = .read) {e : Env} {st st' : St} {v : PV} (hv : evOp cv op e st = some (v, st')) : st' = st := by
  cases op <;> simp [AOp.cls] at h
  case load =>
    simp only [evOp, Option.map_eq_some_iff] at hv
    obtain ⟨_, _, hv⟩ := hv; cases hv; rfl
  case cB2S =>
    simp only [evOp, Option.map_eq_some_iff] at hv
    obtain ⟨_, _, hv⟩ := hv; cases hv; rfl

/-- One operation, its guard asked. -/
def stepA (cv : PV → List PV → St → Option (PV × St)) (o : AOper) (e : Env) (st : St) : Option (PV × St) :=
  if wantedA o.guard e then evOp cv o.op e st else some (.undef, st)

theorem evIdx_step {cv : PV → List PV → St → Option (PV × St)} {as : List AOper} {i : Nat} {o : AOper} (hi : as[i]? = some o) (L : List Nat) (e : Env) (st : St) :
    evIdx cv as (i :: L) e st = (match stepA cv o e st with | some (v, st') => evIdx cv as L (updO e o.dst v) st' | none => none) := by
  simp only [evIdx, hi, stepA]
  split <;> rfl

theorem wantedA_congr {g : Option (Nat × Bool)} {e e' : Env} (h : ∀ d b, g = some (d, b) → e d = e' d) : wantedA g e = wantedA g e' := by
  cases g with
  | none => rfl
  | some q => obtain ⟨d, b⟩ := q; simp only [wantedA, h d b rfl]

theorem stepA_congr {cv : PV → List PV → St → Option (PV × St)} {o : AOper} {e e' : Env} {st : St} (h : ∀ t ∈ o.looks, e t = e' t) : stepA cv o e st = stepA cv o e' st := by
  have h1 : wantedA o.guard e = wantedA o.guard e' := wantedA_congr fun d b hg => h d (by simp [AOper.looks, hg])
  have h2 : evOp cv o.op e st = evOp cv o.op e' st := evOp_congr fun t ht => h t (by simp [AOper.looks, ht])
  simp only [stepA, h1, h2]

/-- Two operations that are free may change places. -/
theorem swap {cv : PV → List PV → St → Option (PV × St)} {as : List AOper} {i j : Nat} {a b : AOper} (hi : as[i]? = some a) (hj : as[j]? = some b) (hf : free a b = true) {L : List Nat} {e : Env} {st : St} {r : Env × St}
    (h : evIdx cv as (i :: j :: L) e st = some r) : evIdx cv as (j :: i :: L) e st = some r := by
  simp only [free, Bool.and_eq_true] at hf
  obtain ⟨⟨hcls, hd1⟩, hd2⟩ := hf
  have ha : ∀ x, a.dst = some x → x ∉ b.looks ∧ b.dst ≠ some x := fun x hx => by
    rw [hx] at hd1
    simp only [Bool.and_eq_true, Bool.not_eq_true', List.contains_eq_mem, decide_eq_false_iff_not, beq_eq_false_iff_ne] at hd1
    exact hd1
  have hb : ∀ x, b.dst = some x → x ∉ a.looks := fun x hx => by
    rw [hx] at hd2
    simpa using hd2
  rw [evIdx_step hi] at h
  cases hsa : stepA cv a e st with
  | none => simp [hsa] at h
  | some q =>
    obtain ⟨va, st1⟩ := q
    simp only [hsa] at h
    rw [evIdx_step hj] at h
    have hcb : ∀ s, stepA cv b (updO e a.dst va) s = stepA cv b e s := fun s => stepA_congr fun t ht => updO_ne fun x hx => by
      rintro rfl; exact (ha _ hx).1 ht
    rw [hcb] at h
    cases hsb : stepA cv b e st1 with
    | none => simp [hsb] at h
    | some q =>
      obtain ⟨vb, st2⟩ := q
      simp only [hsb] at h
      have hca : ∀ s, stepA cv a (updO e b.dst vb) s = stepA cv a e s := fun s => stepA_congr fun t ht => updO_ne fun x hx => by
        rintro rfl; exact hb _ hx ht
      have key : ∃ sm, stepA cv b e st = some (vb, sm) ∧ stepA cv a e sm = some (va, st2) := by
        -- an operation that is passed over or pure
        have quiet : ∀ (o : AOper), (o.op.cls = .pure ∨ wantedA o.guard e = false) → ∃ z : Option PV, ∀ s, stepA cv o e s = z.map fun v => (v, s) := fun o ho => by
          simp only [stepA]
          by_cases hw : wantedA o.guard e = true
          · simp only [hw, if_true]
            rcases ho with ho | ho
            · exact evOp_pure ho e
            · rw [hw] at ho; cases ho
          · simp only [hw, if_false]; exact ⟨some .undef, fun s => rfl⟩
        by_cases hqa : a.op.cls = .pure ∨ wantedA a.guard e = false
        · obtain ⟨z, hz⟩ := quiet a hqa
          rw [hz] at hsa
          cases z with
          | none => simp at hsa
          | some v =>
            simp at hsa
            obtain ⟨rfl, rfl⟩ := hsa
            exact ⟨st2, hsb, by rw [hz]; rfl⟩
        · by_cases hqb : b.op.cls = .pure ∨ wantedA b.guard e = false
          · obtain ⟨z, hz⟩ := quiet b hqb
            rw [hz] at hsb
            cases z with
            | none => simp at hsb
            | some v =>
              simp at hsb
              obtain ⟨rfl, rfl⟩ := hsb
              exact ⟨st, by rw [hz]; rfl, hsa⟩
          · -- both read
            have hwa : wantedA a.guard e = true := by
              cases hx : wantedA a.guard e with
              | true => rfl
              | false => exact absurd (.inr hx) hqa
            have hwb : wantedA b.guard e = true := by
              cases hx : wantedA b.guard e with
              | true => rfl
              | false => exact absurd (.inr hx) hqb
            have hra : a.op.cls = .read := by
              cases hca : a.op.cls with
              | pure => exact absurd (.inl hca) hqa
              | read => rfl
              | write => cases hcb : b.op.cls with
                | pure => exact absurd (.inl hcb) hqb
                | read => rw [hca, hcb] at hcls; simp [clsOk] at hcls
                | write => rw [hca, hcb] at hcls; simp [clsOk] at hcls
            have hrb : b.op.cls = .read := by
              cases hcb : b.op.cls with
              | pure => exact absurd (.inl hcb) hqb
              | read => rfl
              | write => rw [hra, hcb] at hcls; simp [clsOk] at hcls
            have e1 : st1 = st := by
              simp only [stepA, hwa, if_true] at hsa
              exact evOp_read hra hsa
            subst e1
            have e2 : st2 = st1 := by
              simp only [stepA, hwb, if_true] at hsb
              exact evOp_read hrb hsb
            subst e2
            exact ⟨st2, hsb, hsa⟩
      obtain ⟨sm, k1, k2⟩ := key
      rw [evIdx_step hj, k1]
      simp only
      rw [evIdx_step hi, hca, k2]
      simp only
      rw [updO_comm (fun x hx => by
        intro hax
        exact (ha x hax).2 hx)]
      exact h

theorem bubble {cv : PV → List PV → St → Option (PV × St)} {as : List AOper} {i : Nat} {a : AOper} (hi : as[i]? = some a) : ∀ (L1 L2 : List Nat) (e : Env) (st : St) (r : Env × St), (∀ j ∈ L1, ∃ b, as[j]? = some b ∧ free b a = true) →
    evIdx cv as (L1 ++ i :: L2) e st = some r → evIdx cv as (i :: (L1 ++ L2)) e st = some r := by
  intro L1
  induction L1 with
  | nil => intro L2 e st r _ h; exact h
  | cons j L1 ih =>
    intro L2 e st r hL h
    obtain ⟨b, hj, hf⟩ := hL j (by simp)
    simp only [List.cons_append] at *
    refine swap hj hi hf ?_
    rw [evIdx_step hj] at h ⊢
    cases hs : stepA cv b e st with
    | none => simp [hs] at h
    | some q =>
      simp only [hs] at h ⊢
      exact ih L2 _ _ r (fun k hk => hL k (by simp [hk])) h

/-- What is not listed yet, in the lexical order. -/
def rem (n : Nat) (listed : Array Bool) : List Nat := (List.range n).filter fun i => !listed.getD i true

theorem rem_split {n i : Nat} {listed : Array Bool} (hi : i < n) (hl : listed.getD i true = false) :
    ∃ L1 L2, rem n listed = L1 ++ i :: L2 ∧ rem n (listed.setIfInBounds i true) = L1 ++ L2 ∧ ∀ j ∈ L1, j < i ∧ listed.getD j true = false := by
  have hsz : i < listed.size := by
    rcases Nat.lt_or_ge i listed.size with h | h
    · exact h
    · simp [Array.getD, show ¬ i < listed.size by omega] at hl
  have hr : List.range n = List.range' 0 i ++ i :: List.range' (i + 1) (n - i - 1) := by
    rw [List.range_eq_range', show n = i + ((n - i - 1) + 1) by omega, ← List.range'_append_1]
    simp only [Nat.zero_add, List.range'_succ]
    congr 3; omega
  have hset : ∀ j, j ≠ i → (listed.setIfInBounds i true).getD j true = listed.getD j true := fun j hj => by
    simp only [Array.getD_eq_getD_getElem?]
    rw [Array.getElem?_setIfInBounds_ne (Ne.symm hj)]
  have hself : (listed.setIfInBounds i true).getD i true = true := by simp [Array.getD]
  refine ⟨(List.range' 0 i).filter fun j => !listed.getD j true, (List.range' (i + 1) (n - i - 1)).filter fun j => !listed.getD j true, ?_, ?_, ?_⟩
  · simp only [rem, hr, List.filter_append, List.filter_cons, hl, Bool.not_false, if_true]
  · simp only [rem, hr, List.filter_append, List.filter_cons, hself, Bool.not_true, Bool.false_eq_true, if_false]
    congr 1
    · apply List.filter_congr
      intro j hj
      rw [List.mem_range'_1] at hj
      rw [hset j (by omega)]
    · apply List.filter_congr
      intro j hj
      rw [List.mem_range'_1] at hj
      rw [hset j (by omega)]
  · intro j hj
    rw [List.mem_filter, List.mem_range'_1] at hj
    exact ⟨by omega, by simpa using hj.2⟩

/-- What must stand ahead of what is ready has been listed. -/
theorem maskO_ok {S : Nat → Prop} {acc : List Nat} : ∀ (es : List Edge) (s : Nat), (∀ i, s.testBit i = true → S i) → (∀ e ∈ es, Region.binds .any e = true → S e.on ∧ ∀ i, (acc.getD e.on 0).testBit i = true → S i) →
    ∀ i, (es.foldl (fun s e => if Region.binds .any e then s ||| 2 ^ e.on ||| acc.getD e.on 0 else s) s).testBit i = true → S i := by
  intro es
  induction es with
  | nil => intro s hs _ i hi; exact hs i hi
  | cons e es ih =>
    intro s hs he i hi
    simp only [List.foldl_cons] at hi
    refine ih _ (fun k hk => ?_) (fun e' h' hb => he e' (by simp [h']) hb) i hi
    by_cases hb : Region.binds .any e = true
    · rw [if_pos hb] at hk
      obtain ⟨h1, h2⟩ := he e (by simp) hb
      simp only [Nat.testBit_or, Bool.or_eq_true] at hk
      rcases hk with (hk | hk) | hk
      · exact hs k hk
      · rw [Nat.testBit_two_pow] at hk
        simp at hk; subst hk; exact h1
      · exact h2 k hk
    · rw [if_neg hb] at hk
      exact hs k hk

theorem masks_ok {S : Nat → Prop} {full : List Oper} (hcl : ∀ (j : Nat) (o : Oper), full[j]? = some o → S j → ∀ e ∈ o.after.toList, Region.binds .any e = true → S e.on) :
    ∀ (os pre : List Oper) (acc : List Nat), full = pre ++ os → acc.length = pre.length →
      (∀ (j m : Nat) (o : Oper), acc[j]? = some m → full[j]? = some o → (∀ e ∈ o.after.toList, Region.binds .any e = true → S e.on) → ∀ i, m.testBit i = true → S i) →
      ∀ (j m : Nat) (o : Oper), (masks os acc)[j]? = some m → full[j]? = some o → (∀ e ∈ o.after.toList, Region.binds .any e = true → S e.on) → ∀ i, m.testBit i = true → S i := by
  intro os
  induction os with
  | nil => intro pre acc _ _ h j m o hm ho hp i hi; exact h j m o hm ho hp i hi
  | cons o os ih =>
    intro pre acc hf hl h
    simp only [masks]
    refine ih (pre ++ [o]) _ (by simp [hf]) (by simp [hl]) ?_
    intro j m o' hm ho' hp i hi
    by_cases hj : j < acc.length
    · rw [List.getElem?_append_left hj] at hm
      exact h j m o' hm ho' hp i hi
    · have hj' : j = acc.length := by
        have := (List.getElem?_eq_some_iff.1 hm).1
        simp at this; omega
      subst hj'
      simp only [List.getElem?_concat_length, Option.some.injEq] at hm
      subst hm
      have ho2 : o' = o := by
        rw [hf, hl, List.getElem?_append_right (Nat.le_refl _)] at ho'
        simp at ho'; exact ho'.symm
      subst ho2
      refine maskO_ok (S := S) (acc := acc) o'.after.toList 0 (fun k hk => by simp at hk) (fun e he hb => ⟨hp e he hb, fun k hk => ?_⟩) i hi
      cases hae : acc[e.on]? with
      | none => rw [List.getD_eq_getElem?_getD, hae] at hk; simp at hk
      | some m' =>
        rw [List.getD_eq_getElem?_getD, hae] at hk
        simp only [Option.getD_some] at hk
        have hlt := (List.getElem?_eq_some_iff.1 hae).1
        have hfe : full[e.on]? = some (pre[e.on]'(by omega)) := by
          rw [hf, List.getElem?_append_left (by omega)]; simp [show e.on < pre.length by omega]
        exact h e.on m' _ hae hfe (hcl e.on _ hfe (hp e he hb)) k hk

theorem draw_sim {cv : PV → List PV → St → Option (PV × St)} (hcv : SimV P g cv) (htk : ∀ f args st v st', cv f args st = some (v, st') → st.low ≤ st.boxes.length → TK st st') {F : Fence} (hF : Wide F) {nt nn : Nat} {ops : Array Oper} {as : List AOper}
    (hc : chkOpers P g nt ops ops.toList as = true) (hord : ordOK ops.toList as = true) (hlex : lexOK ops.toList = true) :
    ∀ (fuel : Nat) (listed : Array Bool) (κ : K) (w : World) (st : St) (a : Act) (e e' : Env) (st' : St) (Q : Exit → Act → World → Prop), listed.size = ops.size → (∀ (j : Nat) (o : Oper), ops[j]? = some o → listed.getD j true = true → ∀ ed ∈ o.after.toList, Region.binds .any ed = true → listed.getD ed.on true = true) → (rem as.length listed).length ≤ fuel → SR P g base κ w st → EnvR g κ nt a.tmps e → st.low ≤ st.boxes.length →
      evIdx cv as (rem as.length listed) e st = some (e', st') →
      (∀ κ' a' w', K.le κ κ' → κ'.lam = κ.lam → SR P g base κ' w' st' → EnvR g κ' nt a'.tmps e' → a'.defers = a.defers → Fr base κ.lam w w' → Q .normal a' w') → wpAnyIn F nn P .any ops Q fuel listed a w := by
  obtain ⟨hlen, hget⟩ := chkOpers_get hc
  have hls : ops.size = as.length := by simpa using hlen
  -- nothing is ready just if nothing is left
  have hready : ∀ (listed : Array Bool), listed.size = ops.size → Region.ready .any ops listed = [] → rem as.length listed = [] := by
    intro listed hsz h
    by_cases hne : rem as.length listed = []
    · exact hne
    · exfalso
      obtain ⟨i, L, hL⟩ := List.exists_cons_of_ne_nil hne
      have hmem : i ∈ rem as.length listed := by rw [hL]; simp
      simp only [rem, List.mem_filter, List.mem_range, Bool.not_eq_true'] at hmem
      obtain ⟨hi, hli⟩ := hmem
      have hio : i < ops.size := by omega
      have hnot : ∀ j, j < i → listed.getD j true = true := fun j hj => by
        cases hlj : listed.getD j true with
        | true => rfl
        | false =>
          exfalso
          have hmj : j ∈ rem as.length listed := List.mem_filter.2 ⟨List.mem_range.2 (by omega), by rw [hlj]; rfl⟩
          rw [hL] at hmj
          simp only [List.mem_cons] at hmj
          have hsorted : (rem as.length listed).Pairwise (· < ·) := List.Pairwise.filter _ (List.pairwise_lt_range)
          rw [hL, List.pairwise_cons] at hsorted
          rcases hmj with rfl | hmj
          · omega
          · have := hsorted.1 j hmj; omega
      have : i ∈ Region.ready .any ops listed := by
        simp only [Region.ready, List.mem_filter, List.mem_range, Bool.and_eq_true, Bool.not_eq_true']
        refine ⟨hio, hli, ?_⟩
        simp only [Array.getElem?_eq_getElem hio, Option.map_some, Option.getD_some]
        rw [Array.all_eq_true_iff_forall_mem]
        intro ed hed
        simp only [lexOK, List.all_eq_true, List.mem_range, Array.length_toList] at hlex
        have := hlex i hio
        simp only [Array.getElem?_toList, Array.getElem?_eq_getElem hio, List.all_eq_true, Array.mem_toList_iff, Bool.or_eq_true, Bool.not_eq_true', decide_eq_true_eq] at this
        rcases this ed hed with hb | hb
        · simp [hb]
        · have h1 := hnot ed.on hb
          have h2 : ed.on < listed.size := by omega
          simp only [Array.getD, h2, dif_pos] at h1 ⊢
          simp only [Bool.or_eq_true]; right; exact h1
      rw [h] at this; simp at this
  intro fuel
  induction fuel with
  | zero =>
    intro listed κ w st a e e' st' Q hsz hcl hfl hsr hE hlow h hQ
    have hnil : rem as.length listed = [] := List.length_eq_zero_iff.1 (by omega)
    rw [hnil] at h
    simp [evIdx] at h
    obtain ⟨rfl, rfl⟩ := h
    refine ⟨?_, hQ κ a w (K.le.refl κ) rfl hsr hE rfl (Fr.refl _ _)⟩
    by_cases hr : Region.ready .any ops listed = []
    · exact hr
    · exfalso
      obtain ⟨i, L, hL⟩ := List.exists_cons_of_ne_nil hr
      have hm : i ∈ Region.ready .any ops listed := by rw [hL]; simp
      simp only [Region.ready, List.mem_filter, List.mem_range, Bool.and_eq_true, Bool.not_eq_true'] at hm
      have : i ∈ rem as.length listed := List.mem_filter.2 ⟨List.mem_range.2 (by omega), by rw [hm.2.1]; rfl⟩
      rw [hnil] at this; simp at this
  | succ fuel ih =>
    intro listed κ w st a e e' st' Q hsz hcl hfl hsr hE hlow h hQ
    refine ⟨fun hr => ?_, fun i hi => ?_⟩
    · rw [hready listed hsz hr] at h
      simp [evIdx] at h
      obtain ⟨rfl, rfl⟩ := h
      exact hQ κ a w (K.le.refl κ) rfl hsr hE rfl (Fr.refl _ _)
    · simp only [Region.ready, List.mem_filter, List.mem_range, Bool.and_eq_true, Bool.not_eq_true'] at hi
      obtain ⟨hio, hli, hdeps⟩ := hi
      have hil : i < as.length := by omega
      have hai : as[i]? = some as[i] := by simp [hil]
      have hoi : ops[i]? = some ops[i] := by simp [hio]
      rw [hoi] at hdeps
      simp only [Option.map_some, Option.getD_some, Array.all_eq_true_iff_forall_mem] at hdeps
      obtain ⟨L1, L2, hs1, hs2, hs3⟩ := rem_split hil hli
      rw [hs1] at h hfl
      have hpre : ∀ ed ∈ ops[i].after.toList, Region.binds .any ed = true → listed.getD ed.on true = true := fun ed hed hbd => by
        have := hdeps ed (by simpa using hed)
        simp only [hbd, Bool.not_true, Bool.false_or] at this
        by_cases h2 : ed.on < listed.size
        · simp only [Array.getD, h2, dif_pos] at this ⊢; exact this
        · simp [Array.getD, h2]
      have hmask := masks_ok (S := fun j => listed.getD j true = true) (full := ops.toList) (fun j o ho hj ed hed hbd => hcl j o (by simpa using ho) hj ed hed hbd) ops.toList [] [] (by simp) rfl (fun j m o hm => by simp at hm)
      have hcl2 : ∀ (j : Nat) (o : Oper), ops[j]? = some o → (listed.setIfInBounds i true).getD j true = true → ∀ ed ∈ o.after.toList, Region.binds .any ed = true → (listed.setIfInBounds i true).getD ed.on true = true := by
        intro j o ho hj ed hed hbd
        have hset : ∀ k, listed.getD k true = true → (listed.setIfInBounds i true).getD k true = true := fun k hk => by
          simp only [Array.getD_eq_getD_getElem?] at *
          by_cases hki : i = k
          · subst hki
            by_cases hks : i < listed.size
            · simp [hks]
            · simp [hks]
          · rw [Array.getElem?_setIfInBounds_ne hki]; exact hk
        by_cases hji : j = i
        · subst hji
          rw [hoi] at ho; cases ho
          exact hset _ (hpre ed hed hbd)
        · have hj' : listed.getD j true = true := by
            simp only [Array.getD_eq_getD_getElem?] at *
            rw [Array.getElem?_setIfInBounds_ne (Ne.symm hji)] at hj; exact hj
          exact hset _ (hcl j o ho hj' ed hed hbd)
      have hb := bubble hai L1 L2 e st _ (fun j hj => by
        obtain ⟨hji, hlj⟩ := hs3 j hj
        have hjl : j < as.length := by omega
        refine ⟨as[j], by simp [hjl], ?_⟩
        simp only [ordOK, List.all_eq_true, List.mem_range] at hord
        have := hord i hil
        simp only [hai, List.all_eq_true, List.mem_range] at this
        have := this j hji
        simp only [List.getElem?_eq_getElem hjl, Bool.or_eq_true] at this
        rcases this with hbit | hfree
        · exfalso
          cases hmi : (masks ops.toList [])[i]? with
          | none => rw [List.getD_eq_getElem?_getD, hmi] at hbit; simp at hbit
          | some m =>
            rw [List.getD_eq_getElem?_getD, hmi] at hbit
            simp only [Option.getD_some] at hbit
            have := hmask i m ops[i] hmi (by simp) hpre j hbit
            rw [hlj] at this
            cases this
        · exact hfree) h
      rw [← hs2, evIdx_step hai] at hb
      have hlen2 : (rem as.length (listed.setIfInBounds i true)).length ≤ fuel := by
        rw [hs2]; simp at hfl ⊢; omega
      have hco := hget i ops[i] as[i] (by simp) hai
      simp only [chkOper, Bool.and_eq_true, decide_eq_true_eq] at hco
      obtain ⟨⟨⟨hdst, hdlt⟩, hgd⟩, hop⟩ := hco
      simp only [wpOpIn, hoi]
      simp only [wanted_sim hE hgd]
      split
      · rename_i hw
        simp only [stepA, hw, if_true] at hb
        split at hb
        · rename_i v st1 hev
          refine ⟨fun f _ => hF.2 f, ?_⟩
          rw [Oper.semAt_eq _ _ _ (chkOp_defer hop)]
          refine opAny_sim hcv hF hsr hE hlow hop hev nn ops[i] a _ Q (fun κ1 z w1 h1 h2 h3 h4 h5 => ?_)
          rw [hdst]
          refine ih _ κ1 w1 st1 _ _ e' st' Q (by simpa using hsz) hcl2 hlen2 h3 ((hE.mono h1).putO hdlt h4) (evOp_TK htk hev hlow).lw hb (fun κ2 a2 w2 b1 b2 b3 b4 b5 b6 => ?_)
          exact hQ κ2 a2 w2 (h1.trans b1) (b2.trans h2) b3 b4 (b5.trans (put_defers _ _ _)) (h5.trans (by rw [h2] at b6; exact b6))
        · cases hb
      · rename_i hw
        simp only [stepA, hw, if_false] at hb
        refine ⟨fun f _ => hF.2 f, ?_⟩
        rw [hdst]
        refine ih _ κ w st _ _ e' st' Q (by simpa using hsz) hcl2 hlen2 hsr (hE.putO hdlt .undef) hlow hb (fun κ2 a2 w2 b1 b2 b3 b4 b5 b6 => ?_)
        exact hQ κ2 a2 w2 b1 b2 b3 b4 (b5.trans (put_defers _ _ _)) b6

end Go.Ab
