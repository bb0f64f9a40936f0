/-
  The evaluator without fuel: its limit, and the equations of it.
-/
import Derived.Test.YtemnjmphkmokmaaAbCore
namespace Go.Ab
set_option linter.unusedVariables false
set_option linter.unusedSimpArgs false

variable {A : AP}

def Le (cv cv' : PV → List PV → St → Option (PV × St)) : Prop := ∀ f args st r, cv f args st = some r → cv' f args st = some r

theorem evOp_le {cv cv' : PV → List PV → St → Option (PV × St)} (h : Le cv cv') {op : AOp} {e : Env} {st : St} {r : PV × St} (hr : evOp cv op e st = some r) : evOp cv' op e st = some r := by
  cases op <;> first | exact hr | exact h _ _ _ _ hr

theorem evOps_le {cv cv' : PV → List PV → St → Option (PV × St)} (h : Le cv cv') : ∀ (ops : List AOper) (e : Env) (st : St) (r : Env × St), evOps cv ops e st = some r → evOps cv' ops e st = some r := by
  intro ops
  induction ops with
  | nil => intro e st r hr; exact hr
  | cons o rest ih =>
    intro e st r hr
    simp only [evOps] at hr ⊢
    split at hr
    · rename_i hw
      rw [if_pos hw]
      split at hr
      · rename_i v st' hv
        rw [evOp_le h hv]
        exact ih _ _ _ hr
      · cases hr
    · rename_i hw
      rw [if_neg hw]
      exact ih _ _ _ hr

/-- One step of the evaluator, out of what the parts come to. -/
def stepC (A : AP) (fC : ACode → Env → St → Option (Ex × Env × St)) (fV : PV → List PV → St → Option (PV × St)) (c : ACode) (e : Env) (st : St) : Option (Ex × Env × St) :=
    match c with
    | .skip => some (.normal, e, st)
    | .label _ => some (.normal, e, st)
    | .exit id => some (.exit id, e, st)
    | .goto l => some (.goto l, e, st)
    | .ret => some (.ret, e, st)
    | .region ops => match evOps (fV) ops e st with
      | some (e', st') => some (.normal, e', st')
      | none => none
    | .seq a b => match fC a e st with
      | some (.normal, e', st') => fC b e' st'
      | r => r
    | .cond c a b => match c.ev e with
      | .bool true => fC a e st
      | .bool false => fC b e st
      | _ => none
    | .block id b => match fC b e st with
      | some (.exit i, e', st') => some (if i = id then .normal else .exit i, e', st')
      | r => r
    | .loop b => match fC b e st with
      | some (.normal, e', st') => fC (.loop b) e' st'
      | r => r
    | .scope b => fC (.scopeAt b b) e st
    | .scopeAt b cur => match fC cur e st with
      | some (.goto l, e', st') => match findLabelA b l with
        | some rest => fC (.scopeAt b rest) e' st'
        | none => some (.goto l, e', st')
      | r => r
    | .rangeFunc f ps assign body =>
      match f.ev e with
      | .fn fid caps => match A fid with
        | some (.code _) =>
          match fV (.fn fid caps) [.yld st.loops.length] { st with loops := st.loops ++ [{ env := e, params := ps, assign, body, status := 0, pend := .normal }] } with
          | some (_, st1) => match st1.loops[st.loops.length]? with
            | some r => if r.status = 1 then none else some (r.pend, e, { st1 with loops := st1.loops.take st.loops.length })
            | none => none
          | none => none
        | _ => none
      | _ => none

def stepV (A : AP) (fC : ACode → Env → St → Option (Ex × Env × St)) (f : PV) (args : List PV) (st : St) : Option (PV × St) :=
    match f with
    | .fn f caps => match A f with
      | some (.prim p) => (p (args ++ caps)).map fun v => (v, st)
      | some (.code fn) => match fC fn.body (env0 (args ++ caps)) { st with low := st.boxes.length } with
        | some (.normal, e, st1) => (resOf e st1 fn.results).map fun v => leave st st1 v
        | some (.ret, e, st1) => (resOf e st1 fn.results).map fun v => leave st st1 v
        | _ => none
      | none => none
    | .yld k => match st.loops[k]? with
      | some r =>
        if r.status = 0 ∧ args.length = r.params.length then
          match fC r.assign (updAll r.env r.params args) st with
          | some (.normal, e1, s1) => match s1.loops[k]? with
            | some r1 => if r1.status = 0 then
                match fC r.body e1 { s1 with loops := s1.loops.set k { r1 with status := 1 } } with
                | some (x, _, s2) => match s2.loops[k]? with
                  | some r2 => some (.bool (decide (x = .normal)), { s2 with loops := s2.loops.set k { r2 with status := if x = .normal then 0 else 2, pend := x } })
                  | none => none
                | none => none
              else none
            | none => none
          | _ => none
        else none
      | none => none
    | _ => none

theorem evC_succ (A : AP) (n : Nat) (c : ACode) (e : Env) (st : St) : evC A (n + 1) c e st = stepC A (evC A n) (evV A n) c e st := by
  cases c <;> rw [evC] <;> rfl

theorem evV_succ (A : AP) (n : Nat) (f : PV) (args : List PV) (st : St) : evV A (n + 1) f args st = stepV A (evC A n) f args st := by
  cases f <;> rw [evV] <;> first | rfl | (intros; contradiction)

def LeC (f g : ACode → Env → St → Option (Ex × Env × St)) : Prop := ∀ c e st r, f c e st = some r → g c e st = some r

theorem stepC_le {A : AP} {fC gC : ACode → Env → St → Option (Ex × Env × St)} {fV gV : PV → List PV → St → Option (PV × St)} (ihC : LeC fC gC) (ihV : Le fV gV) : LeC (stepC A fC fV) (stepC A gC gV) := by
  intro c e st r h
  cases c with
  | skip => simp only [stepC] at h ⊢; exact h
  | label l => simp only [stepC] at h ⊢; exact h
  | exit i => simp only [stepC] at h ⊢; exact h
  | goto l => simp only [stepC] at h ⊢; exact h
  | ret => simp only [stepC] at h ⊢; exact h
  | region ops =>
    simp only [stepC] at h ⊢
    split at h
    · rename_i e1 st1 he
      rw [evOps_le ihV _ _ _ _ he]; exact h
    · cases h
  | seq a b =>
    simp only [stepC] at h ⊢
    cases ha : fC a e st with
    | none => rw [ha] at h; cases h
    | some q =>
      obtain ⟨x, e1, st1⟩ := q
      rw [ha] at h
      rw [ihC _ _ _ _ ha]
      cases x with
      | normal => exact ihC _ _ _ _ h
      | _ => exact h
  | cond c a b =>
    simp only [stepC] at h ⊢
    split at h
    · exact ihC _ _ _ _ h
    · exact ihC _ _ _ _ h
    · cases h
  | block id b =>
    simp only [stepC] at h ⊢
    cases ha : fC b e st with
    | none => rw [ha] at h; cases h
    | some q => rw [ha] at h; rw [ihC _ _ _ _ ha]; exact h
  | loop b =>
    simp only [stepC] at h ⊢
    cases ha : fC b e st with
    | none => rw [ha] at h; cases h
    | some q =>
      obtain ⟨x, e1, st1⟩ := q
      rw [ha] at h
      rw [ihC _ _ _ _ ha]
      cases x with
      | normal => exact ihC _ _ _ _ h
      | _ => exact h
  | scope b => simp only [stepC] at h ⊢; exact ihC _ _ _ _ h
  | scopeAt b cur =>
    simp only [stepC] at h ⊢
    cases ha : fC cur e st with
    | none => rw [ha] at h; cases h
    | some q =>
      obtain ⟨x, e1, st1⟩ := q
      rw [ha] at h
      rw [ihC _ _ _ _ ha]
      cases x with
      | goto l =>
        simp only at h ⊢
        split at h
        · exact ihC _ _ _ _ h
        · exact h
      | _ => exact h
  | rangeFunc f ps asg body =>
    simp only [stepC] at h ⊢
    split at h
    · split at h
      · split at h
        · rename_i v1 st1 hc
          rw [ihV _ _ _ _ hc]; exact h
        · cases h
      · cases h
    · cases h

theorem stepV_le {A : AP} {fC gC : ACode → Env → St → Option (Ex × Env × St)} (ihC : LeC fC gC) : Le (stepV A fC) (stepV A gC) := by
  intro f args st r h
  cases f with
  | fn f caps =>
    simp only [stepV] at h ⊢
    split at h
    · exact h
    · rename_i fn hA
      split at h
      · rename_i e1 st1 he
        rw [ihC _ _ _ _ he]; exact h
      · rename_i e1 st1 he
        rw [ihC _ _ _ _ he]; exact h
      · cases h
    · cases h
  | yld k =>
    simp only [stepV] at h ⊢
    split at h
    · rename_i r0 hr0
      split at h
      · rename_i hc
        rw [if_pos hc]
        split at h
        · rename_i e1 s1 he
          rw [ihC _ _ _ _ he]
          simp only
          split at h
          · rename_i r1 hr1
            split at h
            · rename_i hs1
              try rw [hr1]
              simp only [hs1, if_true]
              split at h
              · rename_i x e2 s2 hb
                rw [ihC _ _ _ _ hb]; exact h
              · cases h
            · cases h
          · cases h
        · cases h
      · cases h
    · cases h
  | _ => simp only [stepV] at h; cases h


theorem ev_succ (A : AP) : ∀ (n : Nat), LeC (evC A n) (evC A (n + 1)) ∧ Le (evV A n) (evV A (n + 1)) := by
  intro n
  induction n with
  | zero => exact ⟨fun c e st r h => by simp [evC] at h, fun f args st r h => by simp [evV] at h⟩
  | succ n ih =>
    refine ⟨fun c e st r h => ?_, fun f args st r h => ?_⟩
    · rw [evC_succ] at h ⊢
      exact stepC_le ih.1 ih.2 c e st r h
    · rw [evV_succ] at h ⊢
      exact stepV_le ih.1 f args st r h

theorem evC_le {n m : Nat} (h : n ≤ m) {c : ACode} {e : Env} {st : St} {r : Ex × Env × St} (hr : evC A n c e st = some r) : evC A m c e st = some r := by
  induction h with
  | refl => exact hr
  | step _ ih => exact (ev_succ A _).1 _ _ _ _ ih

theorem evV_le {n m : Nat} (h : n ≤ m) : Le (evV A n) (evV A m) := by
  intro f args st r hr
  induction h with
  | refl => exact hr
  | step _ ih => exact (ev_succ A _).2 _ _ _ _ ih

/-! ### The limits -/
open Classical in
/-- What code comes to. -/
noncomputable def ex (A : AP) (c : ACode) (e : Env) (st : St) : Option (Ex × Env × St) :=
  if h : ∃ r n, evC A n c e st = some r then some h.choose else none
open Classical in
/-- What a call comes to. -/
noncomputable def call (A : AP) (f : PV) (args : List PV) (st : St) : Option (PV × St) :=
  if h : ∃ r n, evV A n f args st = some r then some h.choose else none

theorem ex_iff {c : ACode} {e : Env} {st : St} {r : Ex × Env × St} : ex A c e st = some r ↔ ∃ n, evC A n c e st = some r := by
  unfold ex
  constructor
  · intro h
    split at h
    · rename_i hh
      cases h
      exact hh.choose_spec
    · cases h
  · rintro ⟨n, hn⟩
    have hh : ∃ r n, evC A n c e st = some r := ⟨r, n, hn⟩
    rw [dif_pos hh]
    obtain ⟨m, hm⟩ := hh.choose_spec
    have h1 := evC_le (Nat.le_max_left n m) hn
    have h2 := evC_le (Nat.le_max_right n m) hm
    rw [h1] at h2
    exact h2.symm

theorem call_iff {f : PV} {args : List PV} {st : St} {r : PV × St} : call A f args st = some r ↔ ∃ n, evV A n f args st = some r := by
  unfold call
  constructor
  · intro h
    split at h
    · rename_i hh
      cases h
      exact hh.choose_spec
    · cases h
  · rintro ⟨n, hn⟩
    have hh : ∃ r n, evV A n f args st = some r := ⟨r, n, hn⟩
    rw [dif_pos hh]
    obtain ⟨m, hm⟩ := hh.choose_spec
    have h1 := evV_le (Nat.le_max_left n m) _ _ _ _ hn
    have h2 := evV_le (Nat.le_max_right n m) _ _ _ _ hm
    rw [h1] at h2
    exact h2.symm

theorem opt_ext {α : Type} {a b : Option α} (h : ∀ r, a = some r ↔ b = some r) : a = b := by
  cases a with
  | none =>
    cases b with
    | none => rfl
    | some y => exact absurd ((h y).2 rfl) (by simp)
  | some x => exact ((h x).1 rfl).symm

/-- Unfolding by one: an equation of the limits out of one of the evaluator. -/
theorem ex_eq {c : ACode} {e : Env} {st : St} {o : Option (Ex × Env × St)} (h1 : ∀ r n, evC A (n + 1) c e st = some r → o = some r) (h2 : ∀ r, o = some r → ∃ n, evC A n c e st = some r) : ex A c e st = o :=
  opt_ext fun r => by
    rw [ex_iff]
    constructor
    · rintro ⟨n, hn⟩
      exact h1 r n ((ev_succ A n).1 _ _ _ _ hn)
    · exact h2 r

theorem call_eq {f : PV} {args : List PV} {st : St} {o : Option (PV × St)} (h1 : ∀ r n, evV A (n + 1) f args st = some r → o = some r) (h2 : ∀ r, o = some r → ∃ n, evV A n f args st = some r) : call A f args st = o :=
  opt_ext fun r => by
    rw [call_iff]
    constructor
    · rintro ⟨n, hn⟩
      exact h1 r n ((ev_succ A n).2 _ _ _ _ hn)
    · exact h2 r

theorem le_call (n : Nat) : Le (evV A n) (call A) := fun f args st r h => call_iff.2 ⟨n, h⟩
theorem ex_of {n : Nat} {c : ACode} {e : Env} {st : St} {r : Ex × Env × St} (h : evC A n c e st = some r) : ex A c e st = some r := ex_iff.2 ⟨n, h⟩
theorem call_of {n : Nat} {f : PV} {args : List PV} {st : St} {r : PV × St} (h : evV A n f args st = some r) : call A f args st = some r := call_iff.2 ⟨n, h⟩

theorem evOps_lim : ∀ (ops : List AOper) (e : Env) (st : St) (r : Env × St), evOps (call A) ops e st = some r → ∃ n, evOps (evV A n) ops e st = some r := by
  intro ops
  induction ops with
  | nil => intro e st r h; exact ⟨0, h⟩
  | cons o rest ih =>
    intro e st r h
    simp only [evOps] at h
    split at h
    · rename_i hw
      split at h
      · rename_i v st1 hv
        obtain ⟨n, hn⟩ := ih _ _ _ h
        have : ∃ m, evOp (evV A m) o.op e st = some (v, st1) := by
          cases ho : o.op with
          | call f args =>
            rw [ho] at hv
            exact call_iff.1 hv
          | _ => rw [ho] at hv; exact ⟨0, hv⟩
        obtain ⟨m, hm⟩ := this
        refine ⟨max n m, ?_⟩
        simp only [evOps, if_pos hw, evOp_le (evV_le (Nat.le_max_right n m)) hm]
        exact evOps_le (evV_le (Nat.le_max_left n m)) _ _ _ _ hn
      · cases h
    · rename_i hw
      obtain ⟨n, hn⟩ := ih _ _ _ h
      exact ⟨n, by simp only [evOps, if_neg hw]; exact hn⟩

section eqs
variable {e : Env} {st : St}
theorem ex_skip : ex A .skip e st = some (.normal, e, st) := ex_of (n := 1) rfl
theorem ex_label {l : Nat} : ex A (.label l) e st = some (.normal, e, st) := ex_of (n := 1) rfl
theorem ex_exit {i : Nat} : ex A (.exit i) e st = some (.exit i, e, st) := ex_of (n := 1) rfl
theorem ex_goto {l : Nat} : ex A (.goto l) e st = some (.goto l, e, st) := ex_of (n := 1) rfl
theorem ex_ret : ex A .ret e st = some (.ret, e, st) := ex_of (n := 1) rfl

def ops2 : Option (Env × St) → Option (Ex × Env × St)
  | some (e, st) => some (.normal, e, st)
  | none => none

theorem ex_region {ops : List AOper} : ex A (.region ops) e st = ops2 (evOps (call A) ops e st) := by
  refine ex_eq (fun r n h => ?_) (fun r h => ?_)
  · rw [evC_succ] at h; simp only [stepC] at h
    split at h
    · rename_i e1 st1 he
      rw [evOps_le (le_call n) _ _ _ _ he]; exact h
    · cases h
  · unfold ops2 at h
    split at h
    · rename_i e1 st1 he
      obtain ⟨n, hn⟩ := evOps_lim _ _ _ _ he
      exact ⟨n + 1, by rw [evC_succ]; simp only [stepC, hn]; exact h⟩
    · cases h

theorem ex_seq {a b : ACode} : ex A (.seq a b) e st = (match ex A a e st with | some (.normal, e', st') => ex A b e' st' | r => r) := by
  refine ex_eq (fun r n h => ?_) (fun r h => ?_)
  · rw [evC_succ] at h; simp only [stepC] at h
    cases ha : evC A n a e st with
    | none => rw [ha] at h; cases h
    | some q =>
      obtain ⟨x, e1, st1⟩ := q
      rw [ha] at h
      rw [ex_of ha]
      cases x with
      | normal => exact ex_of h
      | _ => exact h
  · cases ha : ex A a e st with
    | none => rw [ha] at h; cases h
    | some q =>
      obtain ⟨x, e1, st1⟩ := q
      rw [ha] at h
      obtain ⟨n, hn⟩ := ex_iff.1 ha
      cases x with
      | normal =>
        obtain ⟨m, hm⟩ := ex_iff.1 h
        exact ⟨max n m + 1, by rw [evC_succ]; simp only [stepC, evC_le (Nat.le_max_left n m) hn, evC_le (Nat.le_max_right n m) hm]⟩
      | _ => exact ⟨n + 1, by rw [evC_succ]; simp only [stepC, hn]; exact h⟩

theorem ex_cond {c : Opd} {a b : ACode} : ex A (.cond c a b) e st = (match c.ev e with | .bool true => ex A a e st | .bool false => ex A b e st | _ => none) := by
  refine ex_eq (fun r n h => ?_) (fun r h => ?_)
  · rw [evC_succ] at h; simp only [stepC] at h
    split at h
    · rename_i hc; try rw [hc]
      exact ex_of h
    · rename_i hc; try rw [hc]
      exact ex_of h
    · cases h
  · split at h
    · rename_i hc
      obtain ⟨n, hn⟩ := ex_iff.1 h
      exact ⟨n + 1, by rw [evC_succ]; simp only [stepC, hc]; exact hn⟩
    · rename_i hc
      obtain ⟨n, hn⟩ := ex_iff.1 h
      exact ⟨n + 1, by rw [evC_succ]; simp only [stepC, hc]; exact hn⟩
    · cases h

theorem ex_block {id : Nat} {b : ACode} : ex A (.block id b) e st = (match ex A b e st with | some (.exit i, e', st') => some (if i = id then .normal else .exit i, e', st') | r => r) := by
  refine ex_eq (fun r n h => ?_) (fun r h => ?_)
  · rw [evC_succ] at h; simp only [stepC] at h
    cases ha : evC A n b e st with
    | none => rw [ha] at h; cases h
    | some q => rw [ha] at h; rw [ex_of ha]; exact h
  · cases ha : ex A b e st with
    | none => rw [ha] at h; cases h
    | some q =>
      rw [ha] at h
      obtain ⟨n, hn⟩ := ex_iff.1 ha
      exact ⟨n + 1, by rw [evC_succ]; simp only [stepC, hn]; exact h⟩

theorem ex_loop {b : ACode} : ex A (.loop b) e st = (match ex A b e st with | some (.normal, e', st') => ex A (.loop b) e' st' | r => r) := by
  refine ex_eq (fun r n h => ?_) (fun r h => ?_)
  · rw [evC_succ] at h; simp only [stepC] at h
    cases ha : evC A n b e st with
    | none => rw [ha] at h; cases h
    | some q =>
      obtain ⟨x, e1, st1⟩ := q
      rw [ha] at h
      rw [ex_of ha]
      cases x with
      | normal => exact ex_of h
      | _ => exact h
  · cases ha : ex A b e st with
    | none => rw [ha] at h; cases h
    | some q =>
      obtain ⟨x, e1, st1⟩ := q
      rw [ha] at h
      obtain ⟨n, hn⟩ := ex_iff.1 ha
      cases x with
      | normal =>
        obtain ⟨m, hm⟩ := ex_iff.1 h
        exact ⟨max n m + 1, by rw [evC_succ]; simp only [stepC, evC_le (Nat.le_max_left n m) hn, evC_le (Nat.le_max_right n m) hm]⟩
      | _ => exact ⟨n + 1, by rw [evC_succ]; simp only [stepC, hn]; exact h⟩

theorem ex_scope {b : ACode} : ex A (.scope b) e st = ex A (.scopeAt b b) e st := by
  refine ex_eq (fun r n h => ?_) (fun r h => ?_)
  · rw [evC_succ] at h; simp only [stepC] at h; exact ex_of h
  · obtain ⟨n, hn⟩ := ex_iff.1 h
    exact ⟨n + 1, by rw [evC_succ]; exact hn⟩

theorem ex_scopeAt {b cur : ACode} : ex A (.scopeAt b cur) e st = (match ex A cur e st with
    | some (.goto l, e', st') => (match findLabelA b l with | some rest => ex A (.scopeAt b rest) e' st' | none => some (.goto l, e', st'))
    | r => r) := by
  refine ex_eq (fun r n h => ?_) (fun r h => ?_)
  · rw [evC_succ] at h; simp only [stepC] at h
    cases ha : evC A n cur e st with
    | none => rw [ha] at h; cases h
    | some q =>
      obtain ⟨x, e1, st1⟩ := q
      rw [ha] at h
      rw [ex_of ha]
      cases x with
      | goto l =>
        simp only at h ⊢
        split at h
        · rename_i hf; try rw [hf]
          exact ex_of h
        · rename_i hf; try rw [hf]
          exact h
      | _ => exact h
  · cases ha : ex A cur e st with
    | none => rw [ha] at h; cases h
    | some q =>
      obtain ⟨x, e1, st1⟩ := q
      rw [ha] at h
      obtain ⟨n, hn⟩ := ex_iff.1 ha
      cases x with
      | goto l =>
        simp only at h
        split at h
        · rename_i rest hf
          obtain ⟨m, hm⟩ := ex_iff.1 h
          exact ⟨max n m + 1, by rw [evC_succ]; simp only [stepC, evC_le (Nat.le_max_left n m) hn, hf, evC_le (Nat.le_max_right n m) hm]⟩
        · rename_i hf
          exact ⟨n + 1, by rw [evC_succ]; simp only [stepC, hn, hf]; exact h⟩
      | _ => exact ⟨n + 1, by rw [evC_succ]; simp only [stepC, hn]; exact h⟩

/-- The loop's record. -/
def recOf (e : Env) (ps : List Nat) (asg body : ACode) : LoopS := { env := e, params := ps, assign := asg, body := body, status := 0, pend := .normal }

theorem ex_rangeFunc {f : Opd} {ps : List Nat} {asg body : ACode} {fid : Nat} {caps : List PV} {fn : ACFn} (hf : f.ev e = .fn fid caps) (hA : A fid = some (.code fn)) :
    ex A (.rangeFunc f ps asg body) e st = (match call A (.fn fid caps) [.yld st.loops.length] { st with loops := st.loops ++ [recOf e ps asg body] } with
      | some (_, st1) => (match st1.loops[st.loops.length]? with
        | some r => if r.status = 1 then none else some (r.pend, e, { st1 with loops := st1.loops.take st.loops.length })
        | none => none)
      | none => none) := by
  refine ex_eq (fun r n h => ?_) (fun r h => ?_)
  · rw [evC_succ] at h; simp only [stepC, hf, hA] at h
    split at h
    · rename_i v1 st1 hc
      rw [show recOf e ps asg body = { env := e, params := ps, assign := asg, body := body, status := 0, pend := .normal } from rfl, call_of hc]; exact h
    · cases h
  · split at h
    · rename_i v1 st1 hc
      obtain ⟨n, hn⟩ := call_iff.1 hc
      rw [show recOf e ps asg body = { env := e, params := ps, assign := asg, body := body, status := 0, pend := .normal } from rfl] at hn
      exact ⟨n + 1, by rw [evC_succ]; simp only [stepC, hf, hA, hn]; exact h⟩
    · cases h

theorem call_prim {f : Nat} {caps args : List PV} {p : List PV → Option PV} (hA : A f = some (.prim p)) : call A (.fn f caps) args st = (p (args ++ caps)).map fun v => (v, st) := by
  refine call_eq (fun r n h => ?_) (fun r h => ?_)
  · rw [evV_succ] at h; simp only [stepV, hA] at h; exact h
  · exact ⟨1, by rw [evV_succ]; simp only [stepV, hA]; exact h⟩

/-- A function's body is left. -/
def finish (st : St) (rs : List RV) : Option (Ex × Env × St) → Option (PV × St)
  | some (.normal, e, st1) => (resOf e st1 rs).map fun v => leave st st1 v
  | some (.ret, e, st1) => (resOf e st1 rs).map fun v => leave st st1 v
  | _ => none

theorem call_fn {f : Nat} {caps args : List PV} {fn : ACFn} (hA : A f = some (.code fn)) : call A (.fn f caps) args st = finish st fn.results (ex A fn.body (env0 (args ++ caps)) { st with low := st.boxes.length }) := by
  refine call_eq (fun r n h => ?_) (fun r h => ?_)
  · rw [evV_succ] at h; simp only [stepV, hA] at h
    split at h
    · rename_i e1 st1 he; rw [ex_of he]; exact h
    · rename_i e1 st1 he; rw [ex_of he]; exact h
    · cases h
  · unfold finish at h
    split at h
    · rename_i e1 st1 he
      obtain ⟨n, hn⟩ := ex_iff.1 he
      exact ⟨n + 1, by rw [evV_succ]; simp only [stepV, hA, hn]; exact h⟩
    · rename_i e1 st1 he
      obtain ⟨n, hn⟩ := ex_iff.1 he
      exact ⟨n + 1, by rw [evV_succ]; simp only [stepV, hA, hn]; exact h⟩
    · cases h

theorem call_yld {k : Nat} {args : List PV} {r : LoopS} (hr : st.loops[k]? = some r) (hs : r.status = 0) (hl : args.length = r.params.length) :
    call A (.yld k) args st = (match ex A r.assign (updAll r.env r.params args) st with
      | some (.normal, e1, s1) => (match s1.loops[k]? with
        | some r1 => if r1.status = 0 then (match ex A r.body e1 { s1 with loops := s1.loops.set k { r1 with status := 1 } } with
            | some (x, _, s2) => (match s2.loops[k]? with
              | some r2 => some (.bool (decide (x = .normal)), { s2 with loops := s2.loops.set k { r2 with status := if x = .normal then 0 else 2, pend := x } })
              | none => none)
            | none => none)
          else none
        | none => none)
      | _ => none) := by
  refine call_eq (fun q n h => ?_) (fun q h => ?_)
  · rw [evV_succ] at h; simp only [stepV, hr, hs, hl, and_self, if_true] at h
    split at h
    · rename_i e1 s1 he
      rw [ex_of he]
      simp only
      split at h
      · rename_i r1 hr1
        try rw [hr1]
        try simp only
        split at h
        · rename_i hs1
          rw [if_pos hs1]
          split at h
          · rename_i x e2 s2 hb
            rw [ex_of hb]; exact h
          · cases h
        · cases h
      · cases h
    · cases h
  · split at h
    · rename_i e1 s1 he
      obtain ⟨n, hn⟩ := ex_iff.1 he
      split at h
      · rename_i r1 hr1
        split at h
        · rename_i hs1
          split at h
          · rename_i x e2 s2 hb
            obtain ⟨m, hm⟩ := ex_iff.1 hb
            exact ⟨max n m + 1, by rw [evV_succ]; simp only [stepV, hr, hs, hl, and_self, if_true, evC_le (Nat.le_max_left n m) hn, hr1, hs1, evC_le (Nat.le_max_right n m) hm]; exact h⟩
          · cases h
        · cases h
      · cases h
    · cases h
end eqs
end Go.Ab
