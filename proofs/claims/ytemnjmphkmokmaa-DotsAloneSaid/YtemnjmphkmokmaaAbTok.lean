/-
  Which boxes a run may have given tokens to.
-/
import Derived.Test.YtemnjmphkmokmaaAbCore
namespace Go.Ab
set_option linter.unusedVariables false
set_option linter.unusedSimpArgs false

def toksOf (cs : List PV) : List Nat := cs.filterMap tokOf

/-- Two states of one loop. -/
structure SameLoop (r r1 : LoopS) : Prop where
  env : r1.env = r.env
  params : r1.params = r.params
  assign : r1.assign = r.assign
  body : r1.body = r.body
theorem SameLoop.refl (r : LoopS) : SameLoop r r := ⟨rfl, rfl, rfl, rfl⟩
theorem SameLoop.trans {a b c : LoopS} (h : SameLoop a b) (k : SameLoop b c) : SameLoop a c := ⟨k.env.trans h.env, k.params.trans h.params, k.assign.trans h.assign, k.body.trans h.body⟩

structure TK (st st1 : St) : Prop where
  ln : st1.loops.length = st.loops.length
  lk : ∀ (k : Nat) (r : LoopS), st.loops[k]? = some r → ∃ r1, st1.loops[k]? = some r1 ∧ SameLoop r r1
  lw : st1.low ≤ st1.boxes.length
  lo : st1.low ≤ st.low
  sz : st.boxes.length ≤ st1.boxes.length
  tk : ∀ (b : Nat) (cs1 : List PV), b < st1.low → st1.boxes[b]? = some cs1 → ∃ cs, st.boxes[b]? = some cs ∧ ∀ t ∈ toksOf cs1, t ∈ toksOf cs

theorem TK.refl {st : St} (h : st.low ≤ st.boxes.length) : TK st st := ⟨rfl, fun k r hr => ⟨r, hr, .refl r⟩, h, Nat.le_refl _, Nat.le_refl _, fun b cs _ hb => ⟨cs, hb, fun t ht => ht⟩⟩
theorem TK.trans {a b c : St} (h : TK a b) (k : TK b c) : TK a c :=
  ⟨k.ln.trans h.ln, fun i r hr => by
    obtain ⟨r1, h1, h2⟩ := h.lk i r hr
    obtain ⟨r2, h3, h4⟩ := k.lk i r1 h1
    exact ⟨r2, h3, h2.trans h4⟩, k.lw, Nat.le_trans k.lo h.lo, Nat.le_trans h.sz k.sz, fun i cs hi hb => by
    obtain ⟨cs1, h1, h2⟩ := k.tk i cs hi hb
    obtain ⟨cs2, h3, h4⟩ := h.tk i cs1 (Nat.lt_of_lt_of_le hi k.lo) h1
    exact ⟨cs2, h3, fun t ht => h4 t (h2 t ht)⟩⟩

/-- Boxes and low alone count. -/
theorem TK.of_eq {st st1 : St} (hb : st1.boxes = st.boxes) (hl : st1.low = st.low) (hp : st1.loops = st.loops) (h : st.low ≤ st.boxes.length) : TK st st1 :=
  ⟨by rw [hp], fun k r hr => ⟨r, by rw [hp]; exact hr, .refl r⟩, by rw [hb, hl]; exact h, by rw [hl]; exact Nat.le_refl _, by rw [hb]; exact Nat.le_refl _, fun b cs _ hx => ⟨cs, by rw [← hb]; exact hx, fun t ht => ht⟩⟩

theorem TK.push {st st1 : St} {cs : List PV} (hb : st1.boxes = st.boxes ++ [cs]) (hl : st1.low = st.low) (hp : st1.loops = st.loops) (h : st.low ≤ st.boxes.length) : TK st st1 :=
  ⟨by rw [hp], fun k r hr => ⟨r, by rw [hp]; exact hr, .refl r⟩, by rw [hb, hl]; simp; omega, by rw [hl]; exact Nat.le_refl _, by rw [hb]; simp, fun b cs' hlt hx => ⟨cs', by rw [hb, List.getElem?_append_left (by omega)] at hx; exact hx, fun t ht => ht⟩⟩

theorem toksOf_set (cs : List PV) (off : Nat) (v : PV) (hv : tokOf v = none) : ∀ t ∈ toksOf (cs.set off v), t ∈ toksOf cs := by
  intro t ht
  simp only [toksOf, List.mem_filterMap] at *
  obtain ⟨x, hx, hxt⟩ := ht
  rcases List.mem_or_eq_of_mem_set hx with hx | rfl
  · exact ⟨x, hx, hxt⟩
  · rw [hv] at hxt; cases hxt

theorem toksOf_setCells : ∀ (vs cs : List PV) (off : Nat), hasTok vs = false → ∀ t ∈ toksOf (setCells cs off vs), t ∈ toksOf cs := by
  intro vs
  induction vs with
  | nil => intro cs off _ t ht; exact ht
  | cons v vs ih =>
    intro cs off h t ht
    simp only [hasTok, List.any_cons, Bool.or_eq_false_iff] at h
    have h2 := ih (cs.set off v) (off + 1) h.2 t ht
    exact toksOf_set cs off v (by simpa using h.1) t h2

theorem storePV_TK {st st1 : St} {sz : Nat} {a x : PV} (h : storePV st sz a x = some st1) (hl : st.low ≤ st.boxes.length) : TK st st1 := by
  unfold storePV at h
  split at h
  · rename_i b off
    split at h
    · rename_i cs hcs
      split at h
      · cases h
        cases ht : hasTok x.cells with
        | true =>
          refine ⟨rfl, fun k r hr => ⟨r, hr, .refl r⟩, by simp; omega, by simp; omega, by simp, fun i cs1 hi hx => ?_⟩
          simp at hi
          simp only [List.getElem?_set_ne (show b ≠ i by omega)] at hx
          exact ⟨cs1, hx, fun t ht => ht⟩
        | false =>
          refine ⟨rfl, fun k r hr => ⟨r, hr, .refl r⟩, by simp; omega, by simp, by simp, fun i cs1 hi hx => ?_⟩
          by_cases hb : b = i
          · subst hb
            have hlt := (List.getElem?_eq_some_iff.1 hcs).1
            simp [hlt] at hx
            subst hx
            exact ⟨cs, hcs, toksOf_setCells _ _ _ ht⟩
          · simp only [List.getElem?_set_ne hb] at hx
            exact ⟨cs1, hx, fun t ht => ht⟩
      · cases h
    · cases h
  · cases h

theorem appTok_eq {st st1 : St} {t : Tok} (h : appTok st t = some st1) : st1.boxes = st.boxes ∧ st1.low = st.low ∧ st1.loops = st.loops := by
  unfold appTok at h
  split at h
  · split at h
    · cases h; exact ⟨rfl, rfl, rfl⟩
    · cases h
  · cases h; exact ⟨rfl, rfl, rfl⟩
  · cases h

theorem app8_eq {st st1 : St} {s x v : PV} (h : app8 st s x = some (v, st1)) : st1.boxes = st.boxes ∧ st1.low = st.low ∧ st1.loops = st.loops := by
  unfold app8 at h
  split at h
  · cases h
  · split at h
    · split at h
      · cases h; exact ⟨rfl, rfl, rfl⟩
      · split at h
        · cases h; exact ⟨rfl, rfl, rfl⟩
        · cases h
    · split at h
      · cases h; exact ⟨rfl, rfl, rfl⟩
      · split at h
        · split at h
          · rename_i st2 ht
            have h3 := appTok_eq ht
            cases h; exact ⟨h3.1, h3.2.1, h3.2.2⟩
          · cases h
        · cases h
    · cases h

theorem appV_eq {st st1 : St} {esz : Nat} {s x v : PV} (h : appV esz st s x = some (v, st1)) : st1.boxes = st.boxes ∧ st1.low = st.low ∧ st1.loops = st.loops := by
  unfold appV at h
  split at h
  · cases h
  · split at h
    · split at h
      · cases h; exact ⟨rfl, rfl, rfl⟩
      · split at h
        · cases h; exact ⟨rfl, rfl, rfl⟩
        · cases h
    · split at h
      · split at h
        · cases h; exact ⟨rfl, rfl, rfl⟩
        · split at h
          · split at h
            · rename_i st2 ht
              have h3 := appTok_eq ht
              cases h
              exact ⟨h3.1, h3.2.1, h3.2.2⟩
            · cases h
          · cases h
      · cases h
    · cases h

theorem evOp_TK {cv : PV → List PV → St → Option (PV × St)} (hcv : ∀ f args st v st', cv f args st = some (v, st') → st.low ≤ st.boxes.length → TK st st') {op : AOp} {e : Env} {st st' : St} {v : PV}
    (h : evOp cv op e st = some (v, st')) (hl : st.low ≤ st.boxes.length) : TK st st' := by
  have same : ∀ {o : Option PV}, (o.map fun v => (v, st)) = some (v, st') → TK st st' := fun ho => by
    simp only [Option.map_eq_some_iff] at ho
    obtain ⟨_, _, ho⟩ := ho
    cases ho; exact TK.refl hl
  cases op <;> simp only [evOp] at h
  case pick =>
    split at h
    · cases h; exact TK.refl hl
    · cases h
  case mov => cases h; exact TK.refl hl
  case alloc => cases h; exact TK.push rfl rfl rfl hl
  case box =>
    split at h
    · cases h; exact TK.push rfl rfl rfl hl
    · cases h
  case lit8 =>
    split at h
    · cases h; exact TK.of_eq rfl rfl rfl hl
    · cases h
  case lit =>
    split at h
    · cases h; exact TK.of_eq rfl rfl rfl hl
    · cases h
  case store =>
    simp only [Option.map_eq_some_iff] at h
    obtain ⟨st2, h1, h⟩ := h
    cases h; exact storePV_TK h1 hl
  case cS2B mu x =>
    split at h
    · split at h
      · cases h; exact TK.push rfl rfl rfl hl
      · cases h; exact TK.of_eq rfl rfl rfl hl
    · cases h
  case cStr =>
    split at h
    · cases h; exact TK.refl hl
    · cases h
  case cSame =>
    split at h
    · split at h
      · cases h; exact TK.refl hl
      · cases h
    · cases h
  case mkfn =>
    split at h
    · cases h; exact TK.refl hl
    · cases h
  case mk8 mu l c =>
    split at h
    · split at h
      · split at h
        · cases h; exact TK.push rfl rfl rfl hl
        · cases h; exact TK.of_eq rfl rfl rfl hl
      · cases h
    · cases h
  case mkms =>
    split at h
    · split at h
      · cases h; exact TK.push rfl rfl rfl hl
      · cases h
    · cases h
  case app u8 esz s x =>
    split at h
    · obtain ⟨h1, h2, h3⟩ := app8_eq h; exact TK.of_eq h1 h2 h3 hl
    · obtain ⟨h1, h2, h3⟩ := appV_eq h; exact TK.of_eq h1 h2 h3 hl
  case call => exact hcv _ _ _ _ _ h hl
  all_goals exact same h

theorem evOps_TK {cv : PV → List PV → St → Option (PV × St)} (hcv : ∀ f args st v st', cv f args st = some (v, st') → st.low ≤ st.boxes.length → TK st st') : ∀ (ops : List AOper) (e : Env) (st : St) (e' : Env) (st' : St),
    evOps cv ops e st = some (e', st') → st.low ≤ st.boxes.length → TK st st' := by
  intro ops
  induction ops with
  | nil => intro e st e' st' h hl; simp [evOps] at h; obtain ⟨_, rfl⟩ := h; exact TK.refl hl
  | cons o rest ih =>
    intro e st e' st' h hl
    simp only [evOps] at h
    split at h
    · split at h
      · rename_i v st1 h1
        have t1 := evOp_TK hcv h1 hl
        exact t1.trans (ih _ _ _ _ h t1.lw)
      · cases h
    · exact ih _ _ _ _ h hl

theorem leave_parts (st st1 : St) (v : PV) : (leave st st1 v).2.loops = st1.loops ∧ (leave st st1 v).2.low ≤ st.low ∧ ((leave st st1 v).2.low = st.low ∧ st.boxes.length ≤ st1.low ∨ (leave st st1 v).2.low ≤ st1.low) ∧
    ((leave st st1 v).2.boxes = st1.boxes ∨ (leave st st1 v).2.boxes = st1.boxes.take st.boxes.length) := by
  unfold leave
  split
  · split
    · rename_i h; exact ⟨rfl, Nat.le_refl _, .inl ⟨rfl, h⟩, .inr rfl⟩
    · exact ⟨rfl, Nat.min_le_left _ _, .inr (Nat.min_le_right _ _), .inr rfl⟩
  · exact ⟨rfl, Nat.min_le_left _ _, .inr (Nat.min_le_right _ _), .inl rfl⟩

theorem leave_TK {st st1 : St} {v : PV} (hl : st.low ≤ st.boxes.length) (h : TK { st with low := st.boxes.length } st1) : TK st (leave st st1 v).2 := by
  have h1 : st1.low ≤ st.boxes.length := h.lo
  have h2 : st.boxes.length ≤ st1.boxes.length := h.sz
  have h3 := h.lw
  obtain ⟨p1, p2, p3, p4⟩ := leave_parts st st1 v
  have hlen : st.boxes.length ≤ (leave st st1 v).2.boxes.length := by
    rcases p4 with p4 | p4 <;> rw [p4]
    · exact h2
    · rw [List.length_take]; omega
  refine ⟨by rw [p1]; exact h.ln, fun k r hr => by rw [p1]; exact h.lk k r hr, by omega, p2, hlen, fun b cs hb hx => ?_⟩
  have hx' : st1.boxes[b]? = some cs := by
    rcases p4 with p4 | p4 <;> rw [p4] at hx
    · exact hx
    · simp only [List.getElem?_take] at hx
      split at hx
      · exact hx
      · cases hx
  exact h.tk b cs (by omega) hx'

theorem lk_round {l1 l2 : List LoopS} {k : Nat} {r1 r2 q1 q2 : LoopS} (h1 : l1[k]? = some r1) (hq1 : SameLoop r1 q1) (hlk : ∀ (k' : Nat) (r : LoopS), (l1.set k q1)[k']? = some r → ∃ r', l2[k']? = some r' ∧ SameLoop r r')
    (h2 : l2[k]? = some r2) (hq2 : SameLoop r2 q2) (k' : Nat) (r : LoopS) (hr : l1[k']? = some r) : ∃ r', (l2.set k q2)[k']? = some r' ∧ SameLoop r r' := by
  by_cases hk : k = k'
  · subst hk
    rw [h1] at hr; cases hr
    have hlt := (List.getElem?_eq_some_iff.1 h1).1
    have hlt2 := (List.getElem?_eq_some_iff.1 h2).1
    obtain ⟨r', a1, a2⟩ := hlk k q1 (by simp [hlt])
    rw [h2] at a1; cases a1
    exact ⟨q2, by simp [hlt2], hq1.trans (a2.trans hq2)⟩
  · obtain ⟨r', a1, a2⟩ := hlk k' r (by rw [List.getElem?_set_ne hk]; exact hr)
    exact ⟨r', by rw [List.getElem?_set_ne hk]; exact a1, a2⟩

theorem ev_TK (A : AP) : ∀ (n : Nat), (∀ c e st x e' st', evC A n c e st = some (x, e', st') → st.low ≤ st.boxes.length → TK st st') ∧ (∀ f args st v st', evV A n f args st = some (v, st') → st.low ≤ st.boxes.length → TK st st') := by
  intro n
  induction n with
  | zero => exact ⟨fun c e st x e' st' h => by simp [evC] at h, fun f args st v st' h => by simp [evV] at h⟩
  | succ n ih =>
    obtain ⟨ihC, ihV⟩ := ih
    constructor
    · intro c e st x e' st' h hl
      cases c <;> simp only [evC] at h
      case skip => cases h; exact TK.refl hl
      case label => cases h; exact TK.refl hl
      case exit => cases h; exact TK.refl hl
      case goto => cases h; exact TK.refl hl
      case ret => cases h; exact TK.refl hl
      case region =>
        split at h
        · rename_i h1
          cases h; exact evOps_TK ihV _ _ _ _ _ h1 hl
        · cases h
      case seq =>
        split at h
        · rename_i h1
          have t1 := ihC _ _ _ _ _ _ h1 hl
          exact t1.trans (ihC _ _ _ _ _ _ h t1.lw)
        · exact ihC _ _ _ _ _ _ h hl
      case cond =>
        split at h
        · exact ihC _ _ _ _ _ _ h hl
        · exact ihC _ _ _ _ _ _ h hl
        · cases h
      case block =>
        split at h
        · rename_i h1
          cases h; exact ihC _ _ _ _ _ _ h1 hl
        · exact ihC _ _ _ _ _ _ h hl
      case loop =>
        split at h
        · rename_i h1
          have t1 := ihC _ _ _ _ _ _ h1 hl
          exact t1.trans (ihC _ _ _ _ _ _ h t1.lw)
        · exact ihC _ _ _ _ _ _ h hl
      case scope => exact ihC _ _ _ _ _ _ h hl
      case scopeAt =>
        split at h
        · rename_i h1
          have t1 := ihC _ _ _ _ _ _ h1 hl
          split at h
          · exact t1.trans (ihC _ _ _ _ _ _ h t1.lw)
          · cases h; exact t1
        · exact ihC _ _ _ _ _ _ h hl
      case rangeFunc =>
        split at h
        · split at h
          · split at h
            · rename_i h1
              have t1 := ihV _ _ _ _ _ h1 hl
              split at h
              · split at h
                · cases h
                · cases h
                  refine ⟨by have := t1.ln; simp at this; simp; omega, fun k r hr => ?_, t1.lw, t1.lo, t1.sz, t1.tk⟩
                  have hk := (List.getElem?_eq_some_iff.1 hr).1
                  obtain ⟨r1, a1, a2⟩ := t1.lk k r (by simp [List.getElem?_append_left hk, hr])
                  exact ⟨r1, by simp [List.getElem?_take, hk, a1], a2⟩
              · cases h
            · cases h
          · cases h
        · cases h
    · intro f args st v st' h hl
      cases f <;> simp only [evV] at h
      case fn =>
        split at h
        · simp only [Option.map_eq_some_iff] at h
          obtain ⟨_, _, h⟩ := h
          cases h; exact TK.refl hl
        · split at h
          · rename_i h1
            simp only [Option.map_eq_some_iff] at h
            obtain ⟨vs, _, h⟩ := h
            have t1 := ihC _ _ _ _ _ _ h1 (Nat.le_refl _)
            have := leave_TK (v := vs) hl t1
            rw [h] at this; exact this
          · rename_i h1
            simp only [Option.map_eq_some_iff] at h
            obtain ⟨vs, _, h⟩ := h
            have t1 := ihC _ _ _ _ _ _ h1 (Nat.le_refl _)
            have := leave_TK (v := vs) hl t1
            rw [h] at this; exact this
          · cases h
        · cases h
      case yld =>
        split at h
        · split at h
          · split at h
            · rename_i h1
              have t1 := ihC _ _ _ _ _ _ h1 hl
              split at h
              · rename_i r1 hr1
                split at h
                · split at h
                  · rename_i h2
                    have t2 := ihC _ _ _ _ _ _ h2 t1.lw
                    split at h
                    · rename_i r2 hr2
                      cases h
                      refine t1.trans ⟨by have := t2.ln; simp at this; simp [this], fun k' r hr => ?_, t2.lw, t2.lo, t2.sz, t2.tk⟩
                      exact lk_round (q1 := { r1 with status := 1 }) hr1 ⟨rfl, rfl, rfl, rfl⟩ t2.lk hr2 (by exact ⟨rfl, rfl, rfl, rfl⟩) k' r hr
                    · cases h
                  · cases h
                · cases h
              · cases h
            · cases h
          · cases h
        · cases h
      all_goals cases h

end Go.Ab
