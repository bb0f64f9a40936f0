/-
  The evaluator without fuel: its limit, and the equations of it.
-/
import Derived.Test.YtihjnlnmgbabjaaGreatDoorA1
import Derived.Test.YtihjnlnmgbabjaaGreatDoorA2
import Derived.Lib.Index
import Derived.Lib.Join
import Derived.ProofKit
import Derived.HandedShaped
import Derived.Deep.Slices
set_option linter.unusedVariables false
set_option linter.unusedSimpArgs false
namespace Go.Ab

variable {A : AP}

def Le (cv cv' : PV → List PV → St → Option (PV × St)) : Prop := ∀ f args st r, cv f args st = some r → cv' f args st = some r

theorem evOp_le {cv cv' : PV → List PV → St → Option (PV × St)} (h : Le cv cv') {op : AOp} {e : Env} {st : St} {r : PV × St} (hr : evOp cv op e st = some r) : evOp cv' op e st = some r := by
  cases op <;> first | exact hr | exact h _ _ _ _ hr | exact keepB_mono (fun r hr => h _ _ _ _ hr) hr | (
    simp only [evOp, Option.map_eq_some_iff] at hr ⊢
    obtain ⟨v, hv, hr⟩ := hr
    obtain ⟨h1, h2, h3, s, h4⟩ := callp_some hv
    exact ⟨v, callp_of h1 h2 h3 (h _ _ _ _ h4), hr⟩)

theorem evOps_le {cv cv' : PV → List PV → St → Option (PV × St)} (h : Le cv cv') : ∀ (ops : List AOper) (e : Env) (st : St) (r : Env × St), evOps cv ops e st = some r → evOps cv' ops e st = some r := by
  intro ops
  induction ops with
  | nil => intro e st r hr; exact hr
  | cons o rest ih =>
    intro e st r hr
    simp only [evOps] at hr ⊢
    split at hr
    · rename_i hw
      rw [if_pos hw]
      split at hr
      · rename_i v st' hv
        rw [evOp_le h hv]
        exact ih _ _ _ hr
      · cases hr
    · rename_i hw
      rw [if_neg hw]
      exact ih _ _ _ hr

def stepC (A : AP) (fC : ACode → Env → St → Option (Ex × Env × St)) (fV : PV → List PV → St → Option (PV × St)) (c : ACode) (e : Env) (st : St) : Option (Ex × Env × St) :=
    match c with
    | .skip => some (.normal, e, st)
    | .label _ => some (.normal, e, st)
    | .exit id => some (.exit id, e, st)
    | .goto l => some (.goto l, e, st)
    | .ret => some (.ret, e, st)
    | .region ops => match evOps (fV) ops e st with
      | some (e', st') => some (.normal, e', st')
      | none => none
    | .seq a b => match fC a e st with
      | some (.normal, e', st') => fC b e' st'
      | r => r
    | .cond c a b => match c.ev e with
      | .bool true => fC a e st
      | .bool false => fC b e st
      | _ => none
    | .block id b => match fC b e st with
      | some (.exit i, e', st') => some (if i = id then .normal else .exit i, e', st')
      | r => r
    | .loop b => match fC b e st with
      | some (.normal, e', st') => fC (.loop b) e' st'
      | r => r
    | .scope b => fC (.scopeAt b b) e st
    | .scopeAt b cur => match fC cur e st with
      | some (.goto l, e', st') => match findLabelA b l with
        | some rest => fC (.scopeAt b rest) e' st'
        | none => some (.goto l, e', st')
      | r => r
    | .rangeFunc f ps assign body =>
      match f.ev e with
      | .fn fid caps => match A fid with
        | some (.code _) =>
          match fV (.fn fid caps) [.yld st.loops.length] { st with loops := st.loops ++ [{ env := e, params := ps, assign, body, status := 0, pend := .normal }] } with
          | some (_, st1) => match st1.loops[st.loops.length]? with
            | some r => if r.status = 1 then none else some (r.pend, e, { st1 with loops := st1.loops.take st.loops.length })
            | none => none
          | none => none
        | _ => none
      | _ => none

def stepV (A : AP) (fC : ACode → Env → St → Option (Ex × Env × St)) (f : PV) (args : List PV) (st : St) : Option (PV × St) :=
    match f with
    | .fn f caps => match A f with
      | some (.prim p) => (p (args ++ caps)).map fun v => (v, st)
      | some (.primS p) => match p (args ++ caps) st.boxes with
        | some (v, u) => (updS st u).map fun st' => (v, st')
        | none => none
      | some (.code fn) => match fC fn.body (env0 (args ++ caps)) { st with low := st.boxes.length } with
        | some (.normal, e, st1) => (resOf e st1 fn.results).map fun v => leave st st1 v
        | some (.ret, e, st1) => (resOf e st1 fn.results).map fun v => leave st st1 v
        | _ => none
      | none => none
    | .yld k => match st.loops[k]? with
      | some r =>
        if r.status = 0 ∧ args.length = r.params.length then
          match fC r.assign (updAll r.env r.params args) st with
          | some (.normal, e1, s1) => match s1.loops[k]? with
            | some r1 => if r1.status = 0 then
                match fC r.body e1 { s1 with loops := s1.loops.set k { r1 with status := 1 } } with
                | some (x, _, s2) => match s2.loops[k]? with
                  | some r2 => some (.bool (decide (x = .normal)), { s2 with loops := s2.loops.set k { r2 with status := if x = .normal then 0 else 2, pend := x } })
                  | none => none
                | none => none
              else none
            | none => none
          | _ => none
        else none
      | none => none
    | _ => none

theorem evC_succ (A : AP) (n : Nat) (c : ACode) (e : Env) (st : St) : evC A (n + 1) c e st = stepC A (evC A n) (evV A n) c e st := by
  cases c <;> rw [evC] <;> rfl

theorem evV_succ (A : AP) (n : Nat) (f : PV) (args : List PV) (st : St) : evV A (n + 1) f args st = stepV A (evC A n) f args st := by
  cases f <;> rw [evV] <;> first | rfl | (intros; contradiction)

def LeC (f g : ACode → Env → St → Option (Ex × Env × St)) : Prop := ∀ c e st r, f c e st = some r → g c e st = some r

theorem stepC_le {A : AP} {fC gC : ACode → Env → St → Option (Ex × Env × St)} {fV gV : PV → List PV → St → Option (PV × St)} (ihC : LeC fC gC) (ihV : Le fV gV) : LeC (stepC A fC fV) (stepC A gC gV) := by
  intro c e st r h
  cases c with
  | skip => simp only [stepC] at h ⊢; exact h
  | label l => simp only [stepC] at h ⊢; exact h
  | exit i => simp only [stepC] at h ⊢; exact h
  | goto l => simp only [stepC] at h ⊢; exact h
  | ret => simp only [stepC] at h ⊢; exact h
  | region ops =>
    simp only [stepC] at h ⊢
    split at h
    · rename_i e1 st1 he
      rw [evOps_le ihV _ _ _ _ he]; exact h
    · cases h
  | seq a b =>
    simp only [stepC] at h ⊢
    cases ha : fC a e st with
    | none => rw [ha] at h; cases h
    | some q =>
      obtain ⟨x, e1, st1⟩ := q
      rw [ha] at h
      rw [ihC _ _ _ _ ha]
      cases x with
      | normal => exact ihC _ _ _ _ h
      | _ => exact h
  | cond c a b =>
    simp only [stepC] at h ⊢
    split at h
    · exact ihC _ _ _ _ h
    · exact ihC _ _ _ _ h
    · cases h
  | block id b =>
    simp only [stepC] at h ⊢
    cases ha : fC b e st with
    | none => rw [ha] at h; cases h
    | some q => rw [ha] at h; rw [ihC _ _ _ _ ha]; exact h
  | loop b =>
    simp only [stepC] at h ⊢
    cases ha : fC b e st with
    | none => rw [ha] at h; cases h
    | some q =>
      obtain ⟨x, e1, st1⟩ := q
      rw [ha] at h
      rw [ihC _ _ _ _ ha]
      cases x with
      | normal => exact ihC _ _ _ _ h
      | _ => exact h
  | scope b => simp only [stepC] at h ⊢; exact ihC _ _ _ _ h
  | scopeAt b cur =>
    simp only [stepC] at h ⊢
    cases ha : fC cur e st with
    | none => rw [ha] at h; cases h
    | some q =>
      obtain ⟨x, e1, st1⟩ := q
      rw [ha] at h
      rw [ihC _ _ _ _ ha]
      cases x with
      | goto l =>
        simp only at h ⊢
        split at h
        · exact ihC _ _ _ _ h
        · exact h
      | _ => exact h
  | rangeFunc f ps asg body =>
    simp only [stepC] at h ⊢
    split at h
    · split at h
      · split at h
        · rename_i v1 st1 hc
          rw [ihV _ _ _ _ hc]; exact h
        · cases h
      · cases h
    · cases h

theorem stepV_le {A : AP} {fC gC : ACode → Env → St → Option (Ex × Env × St)} (ihC : LeC fC gC) : Le (stepV A fC) (stepV A gC) := by
  intro f args st r h
  cases f with
  | fn f caps =>
    simp only [stepV] at h ⊢
    split at h
    · exact h
    · exact h
    · rename_i fn hA
      split at h
      · rename_i e1 st1 he
        rw [ihC _ _ _ _ he]; exact h
      · rename_i e1 st1 he
        rw [ihC _ _ _ _ he]; exact h
      · cases h
    · cases h
  | yld k =>
    simp only [stepV] at h ⊢
    split at h
    · rename_i r0 hr0
      split at h
      · rename_i hc
        rw [if_pos hc]
        split at h
        · rename_i e1 s1 he
          rw [ihC _ _ _ _ he]
          simp only
          split at h
          · rename_i r1 hr1
            split at h
            · rename_i hs1
              try rw [hr1]
              simp only [hs1, if_true]
              split at h
              · rename_i x e2 s2 hb
                rw [ihC _ _ _ _ hb]; exact h
              · cases h
            · cases h
          · cases h
        · cases h
      · cases h
    · cases h
  | _ => simp only [stepV] at h; cases h


theorem ev_succ (A : AP) : ∀ (n : Nat), LeC (evC A n) (evC A (n + 1)) ∧ Le (evV A n) (evV A (n + 1)) := by
  intro n
  induction n with
  | zero => exact ⟨fun c e st r h => by simp [evC] at h, fun f args st r h => by simp [evV] at h⟩
  | succ n ih =>
    refine ⟨fun c e st r h => ?_, fun f args st r h => ?_⟩
    · rw [evC_succ] at h ⊢
      exact stepC_le ih.1 ih.2 c e st r h
    · rw [evV_succ] at h ⊢
      exact stepV_le ih.1 f args st r h

theorem evC_le {n m : Nat} (h : n ≤ m) {c : ACode} {e : Env} {st : St} {r : Ex × Env × St} (hr : evC A n c e st = some r) : evC A m c e st = some r := by
  induction h with
  | refl => exact hr
  | step _ ih => exact (ev_succ A _).1 _ _ _ _ ih

theorem evV_le {n m : Nat} (h : n ≤ m) : Le (evV A n) (evV A m) := by
  intro f args st r hr
  induction h with
  | refl => exact hr
  | step _ ih => exact (ev_succ A _).2 _ _ _ _ ih

open Classical in
noncomputable def ex (A : AP) (c : ACode) (e : Env) (st : St) : Option (Ex × Env × St) :=
  if h : ∃ r n, evC A n c e st = some r then some h.choose else none
open Classical in
noncomputable def call (A : AP) (f : PV) (args : List PV) (st : St) : Option (PV × St) :=
  if h : ∃ r n, evV A n f args st = some r then some h.choose else none

theorem ex_iff {c : ACode} {e : Env} {st : St} {r : Ex × Env × St} : ex A c e st = some r ↔ ∃ n, evC A n c e st = some r := by
  unfold ex
  constructor
  · intro h
    split at h
    · rename_i hh
      cases h
      exact hh.choose_spec
    · cases h
  · rintro ⟨n, hn⟩
    have hh : ∃ r n, evC A n c e st = some r := ⟨r, n, hn⟩
    rw [dif_pos hh]
    obtain ⟨m, hm⟩ := hh.choose_spec
    have h1 := evC_le (Nat.le_max_left n m) hn
    have h2 := evC_le (Nat.le_max_right n m) hm
    rw [h1] at h2
    exact h2.symm

theorem call_iff {f : PV} {args : List PV} {st : St} {r : PV × St} : call A f args st = some r ↔ ∃ n, evV A n f args st = some r := by
  unfold call
  constructor
  · intro h
    split at h
    · rename_i hh
      cases h
      exact hh.choose_spec
    · cases h
  · rintro ⟨n, hn⟩
    have hh : ∃ r n, evV A n f args st = some r := ⟨r, n, hn⟩
    rw [dif_pos hh]
    obtain ⟨m, hm⟩ := hh.choose_spec
    have h1 := evV_le (Nat.le_max_left n m) _ _ _ _ hn
    have h2 := evV_le (Nat.le_max_right n m) _ _ _ _ hm
    rw [h1] at h2
    exact h2.symm

theorem opt_ext {α : Type} {a b : Option α} (h : ∀ r, a = some r ↔ b = some r) : a = b := by
  cases a with
  | none =>
    cases b with
    | none => rfl
    | some y => exact absurd ((h y).2 rfl) (by simp)
  | some x => exact ((h x).1 rfl).symm

theorem ex_eq {c : ACode} {e : Env} {st : St} {o : Option (Ex × Env × St)} (h1 : ∀ r n, evC A (n + 1) c e st = some r → o = some r) (h2 : ∀ r, o = some r → ∃ n, evC A n c e st = some r) : ex A c e st = o :=
  opt_ext fun r => by
    rw [ex_iff]
    constructor
    · rintro ⟨n, hn⟩
      exact h1 r n ((ev_succ A n).1 _ _ _ _ hn)
    · exact h2 r

theorem call_eq {f : PV} {args : List PV} {st : St} {o : Option (PV × St)} (h1 : ∀ r n, evV A (n + 1) f args st = some r → o = some r) (h2 : ∀ r, o = some r → ∃ n, evV A n f args st = some r) : call A f args st = o :=
  opt_ext fun r => by
    rw [call_iff]
    constructor
    · rintro ⟨n, hn⟩
      exact h1 r n ((ev_succ A n).2 _ _ _ _ hn)
    · exact h2 r

theorem le_call (n : Nat) : Le (evV A n) (call A) := fun f args st r h => call_iff.2 ⟨n, h⟩
theorem ex_of {n : Nat} {c : ACode} {e : Env} {st : St} {r : Ex × Env × St} (h : evC A n c e st = some r) : ex A c e st = some r := ex_iff.2 ⟨n, h⟩
theorem call_of {n : Nat} {f : PV} {args : List PV} {st : St} {r : PV × St} (h : evV A n f args st = some r) : call A f args st = some r := call_iff.2 ⟨n, h⟩

theorem evOps_lim : ∀ (ops : List AOper) (e : Env) (st : St) (r : Env × St), evOps (call A) ops e st = some r → ∃ n, evOps (evV A n) ops e st = some r := by
  intro ops
  induction ops with
  | nil => intro e st r h; exact ⟨0, h⟩
  | cons o rest ih =>
    intro e st r h
    simp only [evOps] at h
    split at h
    · rename_i hw
      split at h
      · rename_i v st1 hv
        obtain ⟨n, hn⟩ := ih _ _ _ h
        have : ∃ m, evOp (evV A m) o.op e st = some (v, st1) := by
          cases ho : o.op with
          | call f args =>
            rw [ho] at hv
            exact call_iff.1 hv
          | callk f args =>
            rw [ho] at hv
            simp only [evOp] at hv ⊢
            obtain ⟨v2, s2⟩ := keepB_some hv
            obtain ⟨m, hm⟩ := call_iff.1 v2
            exact ⟨m, keepB_mono (fun r hr => by rw [v2] at hr; cases hr; exact hm) hv⟩
          | callp f args =>
            rw [ho] at hv
            simp only [evOp, Option.map_eq_some_iff] at hv ⊢
            obtain ⟨u, hu, hv⟩ := hv
            obtain ⟨h1, h2, h3, s, h4⟩ := callp_some hu
            obtain ⟨m, hm⟩ := call_iff.1 h4
            exact ⟨m, u, callp_of h1 h2 h3 hm, hv⟩
          | _ => rw [ho] at hv; exact ⟨0, hv⟩
        obtain ⟨m, hm⟩ := this
        refine ⟨max n m, ?_⟩
        simp only [evOps, if_pos hw, evOp_le (evV_le (Nat.le_max_right n m)) hm]
        exact evOps_le (evV_le (Nat.le_max_left n m)) _ _ _ _ hn
      · cases h
    · rename_i hw
      obtain ⟨n, hn⟩ := ih _ _ _ h
      exact ⟨n, by simp only [evOps, if_neg hw]; exact hn⟩

section eqs
variable {e : Env} {st : St}
theorem ex_skip : ex A .skip e st = some (.normal, e, st) := ex_of (n := 1) rfl
theorem ex_label {l : Nat} : ex A (.label l) e st = some (.normal, e, st) := ex_of (n := 1) rfl
theorem ex_exit {i : Nat} : ex A (.exit i) e st = some (.exit i, e, st) := ex_of (n := 1) rfl
theorem ex_ret : ex A .ret e st = some (.ret, e, st) := ex_of (n := 1) rfl

def ops2 : Option (Env × St) → Option (Ex × Env × St)
  | some (e, st) => some (.normal, e, st)
  | none => none

theorem ex_region {ops : List AOper} : ex A (.region ops) e st = ops2 (evOps (call A) ops e st) := by
  refine ex_eq (fun r n h => ?_) (fun r h => ?_)
  · rw [evC_succ] at h; simp only [stepC] at h
    split at h
    · rename_i e1 st1 he
      rw [evOps_le (le_call n) _ _ _ _ he]; exact h
    · cases h
  · unfold ops2 at h
    split at h
    · rename_i e1 st1 he
      obtain ⟨n, hn⟩ := evOps_lim _ _ _ _ he
      exact ⟨n + 1, by rw [evC_succ]; simp only [stepC, hn]; exact h⟩
    · cases h

theorem ex_seq {a b : ACode} : ex A (.seq a b) e st = (match ex A a e st with | some (.normal, e', st') => ex A b e' st' | r => r) := by
  refine ex_eq (fun r n h => ?_) (fun r h => ?_)
  · rw [evC_succ] at h; simp only [stepC] at h
    cases ha : evC A n a e st with
    | none => rw [ha] at h; cases h
    | some q =>
      obtain ⟨x, e1, st1⟩ := q
      rw [ha] at h
      rw [ex_of ha]
      cases x with
      | normal => exact ex_of h
      | _ => exact h
  · cases ha : ex A a e st with
    | none => rw [ha] at h; cases h
    | some q =>
      obtain ⟨x, e1, st1⟩ := q
      rw [ha] at h
      obtain ⟨n, hn⟩ := ex_iff.1 ha
      cases x with
      | normal =>
        obtain ⟨m, hm⟩ := ex_iff.1 h
        exact ⟨max n m + 1, by rw [evC_succ]; simp only [stepC, evC_le (Nat.le_max_left n m) hn, evC_le (Nat.le_max_right n m) hm]⟩
      | _ => exact ⟨n + 1, by rw [evC_succ]; simp only [stepC, hn]; exact h⟩

theorem ex_cond {c : Opd} {a b : ACode} : ex A (.cond c a b) e st = (match c.ev e with | .bool true => ex A a e st | .bool false => ex A b e st | _ => none) := by
  refine ex_eq (fun r n h => ?_) (fun r h => ?_)
  · rw [evC_succ] at h; simp only [stepC] at h
    split at h
    · rename_i hc; try rw [hc]
      exact ex_of h
    · rename_i hc; try rw [hc]
      exact ex_of h
    · cases h
  · split at h
    · rename_i hc
      obtain ⟨n, hn⟩ := ex_iff.1 h
      exact ⟨n + 1, by rw [evC_succ]; simp only [stepC, hc]; exact hn⟩
    · rename_i hc
      obtain ⟨n, hn⟩ := ex_iff.1 h
      exact ⟨n + 1, by rw [evC_succ]; simp only [stepC, hc]; exact hn⟩
    · cases h

theorem ex_block {id : Nat} {b : ACode} : ex A (.block id b) e st = (match ex A b e st with | some (.exit i, e', st') => some (if i = id then .normal else .exit i, e', st') | r => r) := by
  refine ex_eq (fun r n h => ?_) (fun r h => ?_)
  · rw [evC_succ] at h; simp only [stepC] at h
    cases ha : evC A n b e st with
    | none => rw [ha] at h; cases h
    | some q => rw [ha] at h; rw [ex_of ha]; exact h
  · cases ha : ex A b e st with
    | none => rw [ha] at h; cases h
    | some q =>
      rw [ha] at h
      obtain ⟨n, hn⟩ := ex_iff.1 ha
      exact ⟨n + 1, by rw [evC_succ]; simp only [stepC, hn]; exact h⟩

theorem ex_loop {b : ACode} : ex A (.loop b) e st = (match ex A b e st with | some (.normal, e', st') => ex A (.loop b) e' st' | r => r) := by
  refine ex_eq (fun r n h => ?_) (fun r h => ?_)
  · rw [evC_succ] at h; simp only [stepC] at h
    cases ha : evC A n b e st with
    | none => rw [ha] at h; cases h
    | some q =>
      obtain ⟨x, e1, st1⟩ := q
      rw [ha] at h
      rw [ex_of ha]
      cases x with
      | normal => exact ex_of h
      | _ => exact h
  · cases ha : ex A b e st with
    | none => rw [ha] at h; cases h
    | some q =>
      obtain ⟨x, e1, st1⟩ := q
      rw [ha] at h
      obtain ⟨n, hn⟩ := ex_iff.1 ha
      cases x with
      | normal =>
        obtain ⟨m, hm⟩ := ex_iff.1 h
        exact ⟨max n m + 1, by rw [evC_succ]; simp only [stepC, evC_le (Nat.le_max_left n m) hn, evC_le (Nat.le_max_right n m) hm]⟩
      | _ => exact ⟨n + 1, by rw [evC_succ]; simp only [stepC, hn]; exact h⟩

theorem ex_scope {b : ACode} : ex A (.scope b) e st = ex A (.scopeAt b b) e st := by
  refine ex_eq (fun r n h => ?_) (fun r h => ?_)
  · rw [evC_succ] at h; simp only [stepC] at h; exact ex_of h
  · obtain ⟨n, hn⟩ := ex_iff.1 h
    exact ⟨n + 1, by rw [evC_succ]; exact hn⟩

theorem ex_scopeAt {b cur : ACode} : ex A (.scopeAt b cur) e st = (match ex A cur e st with
    | some (.goto l, e', st') => (match findLabelA b l with | some rest => ex A (.scopeAt b rest) e' st' | none => some (.goto l, e', st'))
    | r => r) := by
  refine ex_eq (fun r n h => ?_) (fun r h => ?_)
  · rw [evC_succ] at h; simp only [stepC] at h
    cases ha : evC A n cur e st with
    | none => rw [ha] at h; cases h
    | some q =>
      obtain ⟨x, e1, st1⟩ := q
      rw [ha] at h
      rw [ex_of ha]
      cases x with
      | goto l =>
        simp only at h ⊢
        split at h
        · rename_i hf; try rw [hf]
          exact ex_of h
        · rename_i hf; try rw [hf]
          exact h
      | _ => exact h
  · cases ha : ex A cur e st with
    | none => rw [ha] at h; cases h
    | some q =>
      obtain ⟨x, e1, st1⟩ := q
      rw [ha] at h
      obtain ⟨n, hn⟩ := ex_iff.1 ha
      cases x with
      | goto l =>
        simp only at h
        split at h
        · rename_i rest hf
          obtain ⟨m, hm⟩ := ex_iff.1 h
          exact ⟨max n m + 1, by rw [evC_succ]; simp only [stepC, evC_le (Nat.le_max_left n m) hn, hf, evC_le (Nat.le_max_right n m) hm]⟩
        · rename_i hf
          exact ⟨n + 1, by rw [evC_succ]; simp only [stepC, hn, hf]; exact h⟩
      | _ => exact ⟨n + 1, by rw [evC_succ]; simp only [stepC, hn]; exact h⟩

def recOf (e : Env) (ps : List Nat) (asg body : ACode) : LoopS := { env := e, params := ps, assign := asg, body := body, status := 0, pend := .normal }

theorem ex_rangeFunc {f : Opd} {ps : List Nat} {asg body : ACode} {fid : Nat} {caps : List PV} {fn : ACFn} (hf : f.ev e = .fn fid caps) (hA : A fid = some (.code fn)) :
    ex A (.rangeFunc f ps asg body) e st = (match call A (.fn fid caps) [.yld st.loops.length] { st with loops := st.loops ++ [recOf e ps asg body] } with
      | some (_, st1) => (match st1.loops[st.loops.length]? with
        | some r => if r.status = 1 then none else some (r.pend, e, { st1 with loops := st1.loops.take st.loops.length })
        | none => none)
      | none => none) := by
  refine ex_eq (fun r n h => ?_) (fun r h => ?_)
  · rw [evC_succ] at h; simp only [stepC, hf, hA] at h
    split at h
    · rename_i v1 st1 hc
      rw [show recOf e ps asg body = { env := e, params := ps, assign := asg, body := body, status := 0, pend := .normal } from rfl, call_of hc]; exact h
    · cases h
  · split at h
    · rename_i v1 st1 hc
      obtain ⟨n, hn⟩ := call_iff.1 hc
      rw [show recOf e ps asg body = { env := e, params := ps, assign := asg, body := body, status := 0, pend := .normal } from rfl] at hn
      exact ⟨n + 1, by rw [evC_succ]; simp only [stepC, hf, hA, hn]; exact h⟩
    · cases h

theorem call_prim {f : Nat} {caps args : List PV} {p : List PV → Option PV} (hA : A f = some (.prim p)) : call A (.fn f caps) args st = (p (args ++ caps)).map fun v => (v, st) := by
  refine call_eq (fun r n h => ?_) (fun r h => ?_)
  · rw [evV_succ] at h; simp only [stepV, hA] at h; exact h
  · exact ⟨1, by rw [evV_succ]; simp only [stepV, hA]; exact h⟩

def primS (p : List PV → List (List PV) → Option (PV × Upd)) (args : List PV) (st : St) : Option (PV × St) := match p args st.boxes with
        | some (v, u) => (updS st u).map fun st' => (v, st')
        | none => none
theorem call_primS {f : Nat} {caps args : List PV} {p : List PV → List (List PV) → Option (PV × Upd)} (hA : A f = some (.primS p)) : call A (.fn f caps) args st = primS p (args ++ caps) st := by
  refine call_eq (fun r n h => ?_) (fun r h => ?_)
  · rw [evV_succ] at h; simp only [stepV, hA] at h; exact h
  · exact ⟨1, by rw [evV_succ]; simp only [stepV, hA]; exact h⟩

def finish (st : St) (rs : List RV) : Option (Ex × Env × St) → Option (PV × St)
  | some (.normal, e, st1) => (resOf e st1 rs).map fun v => leave st st1 v
  | some (.ret, e, st1) => (resOf e st1 rs).map fun v => leave st st1 v
  | _ => none

theorem call_fn {f : Nat} {caps args : List PV} {fn : ACFn} (hA : A f = some (.code fn)) : call A (.fn f caps) args st = finish st fn.results (ex A fn.body (env0 (args ++ caps)) { st with low := st.boxes.length }) := by
  refine call_eq (fun r n h => ?_) (fun r h => ?_)
  · rw [evV_succ] at h; simp only [stepV, hA] at h
    split at h
    · rename_i e1 st1 he; rw [ex_of he]; exact h
    · rename_i e1 st1 he; rw [ex_of he]; exact h
    · cases h
  · unfold finish at h
    split at h
    · rename_i e1 st1 he
      obtain ⟨n, hn⟩ := ex_iff.1 he
      exact ⟨n + 1, by rw [evV_succ]; simp only [stepV, hA, hn]; exact h⟩
    · rename_i e1 st1 he
      obtain ⟨n, hn⟩ := ex_iff.1 he
      exact ⟨n + 1, by rw [evV_succ]; simp only [stepV, hA, hn]; exact h⟩
    · cases h

theorem call_yld {k : Nat} {args : List PV} {r : LoopS} (hr : st.loops[k]? = some r) (hs : r.status = 0) (hl : args.length = r.params.length) :
    call A (.yld k) args st = (match ex A r.assign (updAll r.env r.params args) st with
      | some (.normal, e1, s1) => (match s1.loops[k]? with
        | some r1 => if r1.status = 0 then (match ex A r.body e1 { s1 with loops := s1.loops.set k { r1 with status := 1 } } with
            | some (x, _, s2) => (match s2.loops[k]? with
              | some r2 => some (.bool (decide (x = .normal)), { s2 with loops := s2.loops.set k { r2 with status := if x = .normal then 0 else 2, pend := x } })
              | none => none)
            | none => none)
          else none
        | none => none)
      | _ => none) := by
  refine call_eq (fun q n h => ?_) (fun q h => ?_)
  · rw [evV_succ] at h; simp only [stepV, hr, hs, hl, and_self, if_true] at h
    split at h
    · rename_i e1 s1 he
      rw [ex_of he]
      simp only
      split at h
      · rename_i r1 hr1
        try rw [hr1]
        try simp only
        split at h
        · rename_i hs1
          rw [if_pos hs1]
          split at h
          · rename_i x e2 s2 hb
            rw [ex_of hb]; exact h
          · cases h
        · cases h
      · cases h
    · cases h
  · split at h
    · rename_i e1 s1 he
      obtain ⟨n, hn⟩ := ex_iff.1 he
      split at h
      · rename_i r1 hr1
        split at h
        · rename_i hs1
          split at h
          · rename_i x e2 s2 hb
            obtain ⟨m, hm⟩ := ex_iff.1 hb
            exact ⟨max n m + 1, by rw [evV_succ]; simp only [stepV, hr, hs, hl, and_self, if_true, evC_le (Nat.le_max_left n m) hn, hr1, hs1, evC_le (Nat.le_max_right n m) hm]; exact h⟩
          · cases h
        · cases h
      · cases h
    · cases h
end eqs
end Go.Ab
/-
  From the evaluator's answer to the contract of a law.
-/
namespace Go.Ab

variable {P : Program} {g : GMap} {A : AP}

def κ0 (w : World) : K := { C := fun b i => w.cell? ⟨b, i, none⟩, φ := [], lam := [], τ := [], S := fun _ => none, μ := fun _ => false }
def st0 : St := { boxes := [], toks := [], loops := [], low := 0 }

theorem SR0 {w : World} (h : g.inv (κ0 w)) : SR P g w.heap.size (κ0 w) w st0 where
  cC b i v h := h
  sh b t h := by simp [κ0] at h
  bl := rfl
  bn := List.nodup_nil
  bx b blk cs h := by simp [st0] at h
  mx b blk cs h := by simp [st0] at h
  mz b _ := rfl
  tl := rfl
  tk i blk e ce h := by simp [st0] at h
  td i j bi ei ci bj ej cj h := by simp [st0] at h
  ll := rfl
  ln := List.nodup_nil
  lb l D h := by simp [κ0] at h
  lp k l D r h := by simp [st0] at h
  hb := Nat.le_refl _
  gv := h

theorem law_calls (hL : Linked P g A) {f' : FuncId} {f : Nat} {fn : ACFn} (hg : g f' = some f) (hA : A f = some (.code fn)) {w : World} {args : Array Value} {ps : List PV} {st' : St} (hi : g.inv (κ0 w))
    (hsz : args.size = ps.length) (hargs : ∀ (i : Nat) (u : Value) (q : PV), args[i]? = some u → ps[i]? = some q → R g (κ0 w) u q) (hc : call A (.fn f []) ps st0 = some (.bool true, st')) :
    Calls P f' args w fun e w' => e = .returned (.bool true) ∧ Go.RowKit.Below w.heap.size w w' := by
  obtain ⟨n, hn⟩ := call_iff.1 hc
  refine calls_of_ev hL hg hA (SR0 hi) hsz hargs (Nat.le_refl _) hn ?_
  intro κ' z w' h1 h2 h3 h4 h5
  cases h4
  exact ⟨rfl, h5.below⟩

theorem callsIn_of_calls {F : Fence} (hF : Wide F) {n : Nat} {f : FuncId} {args : Array Value} {w : World} {Rr : Ending → World → Prop} (h : Calls P f args w Rr) : CallsIn F n P f args w Rr := by
  have hfn : F.fn = fun _ => True := funext fun f => propext ⟨fun _ => trivial, fun _ => hF.2 f⟩
  obtain ⟨fnF, dep, al, ro⟩ := F
  simp only at hfn
  subst hfn
  obtain ⟨⟨h1, h2⟩, _⟩ := hF
  simp only at h1 h2
  subst h1 h2
  have := callsIn_wide (n := n) (P := P) (f := f) (args := args) (w := w) (R := Rr)
  exact this.2 h

theorem prim_of_calls {f' : FuncId} {p : List PV → Option PV} {pf : Func} (hpf : P.funcs[f']? = some pf) (hb : pf.body.isSome = true) (hn : pf.name ≠ "runtime.NumGoroutine")
    (h : ∀ (κ : K) (w : World) (args : Array Value) (ps : List PV) (v : PV), g.inv κ → (∀ b i u, κ.C b i = some u → w.cell? ⟨b, i, none⟩ = some u) → args.size = ps.length → (∀ (i : Nat) (u : Value) (q : PV), args[i]? = some u → ps[i]? = some q → R g κ u q) → p ps = some v →
      Calls P f' args w fun e w' => ∃ z, e = .returned z ∧ (∀ κ', R g κ' z v) ∧ w'.heap = w.heap ∧ w'.os = w.os ∧ w'.tape = w.tape ∧ w'.output = w.output) : PrimOK P g f' p := by
  intro base κ w st args ps v hsr hsz hargs hp F hF nn o a next Q hnext
  have hrun : (callFunc f' args).run P w = .ok (.enter f' args) w := by
    have hb2 : pf.body.isNone = false := by
      cases hbb : pf.body with
      | none => rw [hbb] at hb; cases hb
      | some c => rfl
    have hn2 : (pf.name == "runtime.NumGoroutine") = false := by simpa using hn
    unfold callFunc
    simp only [Sem.run_bind, Go.program, Sem.run, Result.andThen, hpf, hn2, hb2]
    rfl
  rw [hrun]
  refine ⟨hF.deep, callsIn_of_calls hF ?_⟩
  refine (h κ w args ps v hsr.gv hsr.cC hsz hargs hp).mono ?_
  rintro e w' ⟨z, rfl, hz, h1, h2, h3, h4⟩
  exact hnext κ z w' (K.le.refl κ) rfl (hsr.heap h1) (hz κ) (Fr.same h1 h2 h3 h4)
end Go.Ab
/-
  Rules for running abstract code by rewriting.
-/
namespace Go.Ab

variable {A : AP} {e : Env} {st : St}

def W (A : AP) (c : ACode) (e : Env) (st : St) (Q : Ex → Env → St → Prop) : Prop := ∃ r, ex A c e st = some r ∧ Q r.1 r.2.1 r.2.2

def WP (o : Option (PV × St)) (K : PV → St → Prop) : Prop := match o with | some (v, st') => K v st' | none => False

def WO (A : AP) : List AOper → Env → St → (Env → St → Prop) → Prop
  | [], e, st, Q => Q e st
  | o :: r, e, st, Q => if wantedA o.guard e = true then WP (evOp (call A) o.op e st) (fun v st' => WO A r (updO e o.dst v) st' Q) else WO A r (updO e o.dst .undef) st Q

theorem WO_iff : ∀ (ops : List AOper) (e : Env) (st : St) (Q : Env → St → Prop), WO A ops e st Q ↔ ∃ r, evOps (call A) ops e st = some r ∧ Q r.1 r.2 := by
  intro ops
  induction ops with
  | nil => intro e st Q; simp [WO, evOps]
  | cons o r ih =>
    intro e st Q
    simp only [WO, evOps]
    split
    · cases h : evOp (call A) o.op e st with
      | none => simp [WP]
      | some q => obtain ⟨v, st'⟩ := q; simp only [WP]; exact ih _ _ _
    · exact ih _ _ _

theorem qalz {Q : Env → St → Prop} : WO A [] e st Q = Q e st := rfl

def WN (A : AP) (o : Option (PV × St)) (d : Option Nat) (r : List AOper) (e : Env) (Q : Env → St → Prop) : Prop := match o with
  | some (v, st') => WO A r (updO e d v) st' Q
  | none => False
theorem qarz {v : PV} {st' : St} {d : Option Nat} {r : List AOper} {Q : Env → St → Prop} : WN A (some (v, st')) d r e Q = WO A r (updO e d v) st' Q := rfl
theorem qajz {d : Option Nat} {op : AOp} {r : List AOper} {Q : Env → St → Prop} : WO A (⟨d, op, none⟩ :: r) e st Q = WN A (evOp (call A) op e st) d r e Q := by
  simp only [WO, wantedA, if_true]
  cases evOp (call A) op e st with
  | none => rfl
  | some q => rfl
theorem qakz {d : Option Nat} {op : AOp} {g : Nat} {b : Bool} {r : List AOper} {Q : Env → St → Prop} : WO A (⟨d, op, some (g, b)⟩ :: r) e st Q =
    if (wantedA (some (g, b)) e) = true then WN A (evOp (call A) op e st) d r e Q else WO A r (updO e d .undef) st Q := by
  simp only [WO]
  cases evOp (call A) op e st with
  | none => rfl
  | some q => rfl

def qanz (b : Bool) : PV → Bool
  | .bool c => c == b
  | _ => false
theorem qamz {g : Nat} {b : Bool} : wantedA (some (g, b)) e = qanz b (e g) := by
  simp only [wantedA, qanz]
  cases e g <;> rfl

def seqQ (A : AP) (b : ACode) (Q : Ex → Env → St → Prop) : Ex → Env → St → Prop
  | .normal, e, st => W A b e st Q
  | x, e, st => Q x e st
theorem qazz {b : ACode} {Q : Ex → Env → St → Prop} : seqQ A b Q .normal e st = W A b e st Q := rfl
theorem qbaz {b : ACode} {Q : Ex → Env → St → Prop} : seqQ A b Q .ret e st = Q .ret e st := rfl
theorem qbbz {b : ACode} {Q : Ex → Env → St → Prop} {i : Nat} : seqQ A b Q (.exit i) e st = Q (.exit i) e st := rfl
def blockQ (id : Nat) (Q : Ex → Env → St → Prop) : Ex → Env → St → Prop
  | .exit i, e, st => if i = id then Q .normal e st else Q (.exit i) e st
  | x, e, st => Q x e st
def condW (A : AP) (v : PV) (a b : ACode) (e : Env) (st : St) (Q : Ex → Env → St → Prop) : Prop := match v with
  | .bool true => W A a e st Q
  | .bool false => W A b e st Q
  | _ => False
theorem qbhz {t : Bool} {a b : ACode} {Q : Ex → Env → St → Prop} : condW A (.bool t) a b e st Q = if t = true then W A a e st Q else W A b e st Q := by cases t <;> rfl
theorem qbdz {id : Nat} {Q : Ex → Env → St → Prop} : blockQ id Q .normal e st = Q .normal e st := rfl
theorem qbez {id : Nat} {Q : Ex → Env → St → Prop} : blockQ id Q .ret e st = Q .ret e st := rfl
theorem qbfz {id i : Nat} {Q : Ex → Env → St → Prop} : blockQ id Q (.exit i) e st = if i = id then Q .normal e st else Q (.exit i) e st := rfl
theorem qabz {ops : List AOper} {Q : Ex → Env → St → Prop} : W A (.region ops) e st Q = WO A ops e st (Q .normal) := by
  apply propext
  rw [WO_iff]
  simp only [W, ex_region]
  constructor
  · rintro ⟨r, hr, hq⟩
    cases h : evOps (call A) ops e st with
    | none => rw [h] at hr; cases hr
    | some q => rw [h] at hr; cases hr; exact ⟨q, rfl, hq⟩
  · rintro ⟨q, hq, h⟩
    exact ⟨_, by rw [hq]; rfl, h⟩

theorem qaaz {a b : ACode} {Q : Ex → Env → St → Prop} : W A (.seq a b) e st Q = W A a e st (seqQ A b Q) := by
  apply propext
  simp only [W, ex_seq]
  constructor
  · rintro ⟨r, hr, hq⟩
    cases h : ex A a e st with
    | none => rw [h] at hr; cases hr
    | some q =>
      obtain ⟨x, e1, st1⟩ := q
      rw [h] at hr
      refine ⟨_, rfl, ?_⟩
      cases x with
      | normal => exact ⟨r, hr, hq⟩
      | _ => cases hr; exact hq
  · rintro ⟨⟨x, e1, st1⟩, hr, hq⟩
    rw [hr]
    cases x with
    | normal =>
      obtain ⟨r, h1, h2⟩ := hq
      exact ⟨r, h1, h2⟩
    | _ => exact ⟨_, rfl, hq⟩

theorem qacz {c : Opd} {a b : ACode} {Q : Ex → Env → St → Prop} : W A (.cond c a b) e st Q = condW A (c.ev e) a b e st Q := by
  apply propext
  simp only [condW]
  simp only [W, ex_cond]
  cases c.ev e with
  | bool t => cases t <;> rfl
  | _ => simp

theorem qadz {id : Nat} {b : ACode} {Q : Ex → Env → St → Prop} : W A (.block id b) e st Q = W A b e st (blockQ id Q) := by
  apply propext
  simp only [W, ex_block]
  constructor
  · rintro ⟨r, hr, hq⟩
    cases h : ex A b e st with
    | none => rw [h] at hr; cases hr
    | some q =>
      obtain ⟨x, e1, st1⟩ := q
      rw [h] at hr
      refine ⟨_, rfl, ?_⟩
      cases x with
      | exit i =>
        simp only [Option.some.injEq] at hr
        subst hr
        simp only [blockQ]
        split
        · rename_i hi; simpa [hi] using hq
        · rename_i hi; simpa [hi] using hq
      | _ => cases hr; exact hq
  · rintro ⟨⟨x, e1, st1⟩, hr, hq⟩
    rw [hr]
    cases x with
    | exit i =>
      refine ⟨_, rfl, ?_⟩
      simp only [blockQ] at hq
      by_cases hi : i = id
      · simpa [hi] using hq
      · simpa [hi] using hq
    | _ => exact ⟨_, rfl, hq⟩

theorem qaez {Q : Ex → Env → St → Prop} : W A .skip e st Q = Q .normal e st := by simp [W, ex_skip]
theorem qafz {l : Nat} {Q : Ex → Env → St → Prop} : W A (.label l) e st Q = Q .normal e st := by simp [W, ex_label]
theorem qagz {i : Nat} {Q : Ex → Env → St → Prop} : W A (.exit i) e st Q = Q (.exit i) e st := by simp [W, ex_exit]
theorem qaiz {Q : Ex → Env → St → Prop} : W A .ret e st Q = Q .ret e st := by simp [W, ex_ret]

theorem W_mono {c : ACode} {Q Q' : Ex → Env → St → Prop} (h : W A c e st Q) (hq : ∀ x e st, Q x e st → Q' x e st) : W A c e st Q' :=
  let ⟨r, h1, h2⟩ := h; ⟨r, h1, hq _ _ _ h2⟩

def loopQ (I : Nat → Env → St → Prop) (n : Nat) (Q : Ex → Env → St → Prop) : Ex → Env → St → Prop
  | .normal, e, st => ∃ m, m < n ∧ I m e st
  | x, e, st => Q x e st
theorem loopQ_normal {I : Nat → Env → St → Prop} {n : Nat} {Q : Ex → Env → St → Prop} : loopQ I n Q .normal e st = ∃ m, m < n ∧ I m e st := rfl
theorem qbiz {I : Nat → Env → St → Prop} {n : Nat} {Q : Ex → Env → St → Prop} : loopQ I n Q .ret e st = Q .ret e st := rfl
theorem qbjz {I : Nat → Env → St → Prop} {n i : Nat} {Q : Ex → Env → St → Prop} : loopQ I n Q (.exit i) e st = Q (.exit i) e st := rfl
theorem loopQ_intro {I : Nat → Env → St → Prop} {n m : Nat} {Q : Ex → Env → St → Prop} (h : m < n) (hI : I m e st) : loopQ I n Q .normal e st := ⟨m, h, hI⟩

theorem W_loop {b : ACode} {Q : Ex → Env → St → Prop} (I : Nat → Env → St → Prop) (step : ∀ n e st, I n e st → W A b e st (loopQ I n Q)) {n : Nat} (h : I n e st) : W A (.loop b) e st Q := by
  induction n using Nat.strongRecOn generalizing e st with
  | _ n ih =>
    obtain ⟨⟨x, e1, st1⟩, h1, h2⟩ := step n e st h
    unfold W
    rw [ex_loop, h1]
    cases x with
    | normal =>
      obtain ⟨m, hm, hI⟩ := h2
      exact ih m hm hI
    | _ => exact ⟨_, rfl, h2⟩

theorem W_scope {b : ACode} {Q : Ex → Env → St → Prop} : W A (.scope b) e st Q = W A (.scopeAt b b) e st Q := by simp only [W, ex_scope]

theorem W_scopeAt {b cur : ACode} {Q : Ex → Env → St → Prop} (h : W A cur e st (fun x e' st' => match x with
    | .goto l => (match findLabelA b l with | some rest => W A (.scopeAt b rest) e' st' Q | none => Q (.goto l) e' st')
    | x => Q x e' st')) : W A (.scopeAt b cur) e st Q := by
  obtain ⟨⟨x, e1, st1⟩, h1, h2⟩ := h
  unfold W
  rw [ex_scopeAt, h1]
  cases x with
  | goto l =>
    simp only at h2 ⊢
    cases hf : findLabelA b l with
    | some rest => rw [hf] at h2; exact h2
    | none => rw [hf] at h2; exact ⟨_, rfl, h2⟩
  | _ => exact ⟨_, rfl, h2⟩

def endQ (st : St) (rs : List RV) (r : PV × St) : Ex → Env → St → Prop := fun x e1 st1 => (x = .normal ∨ x = .ret) ∧ ∃ rv, resOf e1 st1 rs = some rv ∧ leave st st1 rv = r
theorem qblz {st0 : St} {rs : List RV} {r : PV × St} : endQ st0 rs r .ret e st = ∃ rv, resOf e st rs = some rv ∧ leave st0 st rv = r := by simp [endQ]
theorem call_of_W {f : Nat} {caps args : List PV} {fn : ACFn} {v : PV} {st' : St} (hA : A f = some (.code fn))
    (h : W A fn.body (env0 (args ++ caps)) { st with low := st.boxes.length } (endQ st fn.results (v, st'))) :
    call A (.fn f caps) args st = some (v, st') := by
  obtain ⟨⟨x, e1, st1⟩, h1, h2, rv, h3, h4⟩ := h
  rw [call_fn hA, h1]
  rcases h2 with rfl | rfl
  · simp only [finish]; simp only at h3 h4; rw [h3]; simp [h4]
  · simp only [finish]; simp only at h3 h4; rw [h3]; simp [h4]

theorem qavz {d t : Nat} {v : PV} : upd e d v t = if t = d then v else e t := rfl
theorem qatz {d : Nat} {v : PV} : updO e (some d) v = upd e d v := rfl
theorem qauz {v : PV} : updO e none v = e := rfl
theorem qaoz {t : Nat} : (Opd.tmp t).ev e = e t := rfl
theorem qapz {v : PV} : (Opd.const v).ev e = v := rfl
theorem qaqz {f : Nat} : (Opd.fn f).ev e = .fn f [] := rfl

theorem qawz {v : PV} {l : List PV} : env0 (v :: l) 0 = v := rfl
theorem qaxz {v : PV} {l : List PV} {t : Nat} : env0 (v :: l) (t + 1) = env0 l t := rfl

def Tok.lt (n : Nat) : Tok → Bool
  | .own i => decide (i < n)
  | _ => true

theorem keep1 {n : Nat} {toks : List Bool} {v : PV} (h : keepVal n toks [] v = (v, [])) (ht : notTup v = true) : keepRes n toks v = (v, []) := by
  cases v <;> first | exact h | simp [notTup] at ht
theorem keep3 {n : Nat} {toks : List Bool} {v1 v2 v3 : PV} (h1 : keepVal n toks [] v1 = (v1, [])) (h2 : keepVal n toks [] v2 = (v2, [])) (h3 : keepVal n toks [] v3 = (v3, [])) : keepRes n toks (.tup [v1, v2, v3]) = (.tup [v1, v2, v3], []) := by
  simp [keepRes, keepVals, h1, h2, h3]

end Go.Ab
/-
  Primitives: functions of the library's whose contracts the shelf has.
-/
namespace Go.Ab
def PV.by : PV → Option (List UInt8)
  | .nils => some []
  | .bys _ l => some l
  | _ => none

def pBytesIndex : List PV → Option PV
  | [x, y] => match x.by, y.by with
    | some a, some b => if a.length < 4294967281 ∧ b.length < 4294967281 then some (.int .i64 (Lib.index a b)) else none
    | _, _ => none
  | _ => none

def pStrIndex : List PV → Option PV
  | [.str a, .str b] => if a.length < 4294967281 then some (.int .i64 (Lib.index a b)) else none
  | _ => none

def pStrIndexByte : List PV → Option PV
  | [.str a, .b8 c] => some (.int .i64 (Lib.indexByte a c))
  | _ => none

def splitOn (sep : UInt8) : List UInt8 → List UInt8 → List (List UInt8)
  | acc, [] => [acc]
  | acc, c :: r => if c = sep then acc :: splitOn sep [] r else splitOn sep (acc ++ [c]) r

def pStrSplit : List PV → Option PV
  | [.str a, .str [c]] => if a.length < 4294967281 then some (.sl 1 .no ((splitOn c [] a).map .str)) else none
  | _ => none

def pCopyCheck : List PV → List (List PV) → Option (PV × Upd)
  | [.ptr b 0], bs => match bs[b]? with
    | some [.bslot, _] => some (.tup [], .store (.ptr b 0) (.ptr b 0))
    | some [.ptr b' 0, _] => if b' = b then some (.tup [], .no) else none
    | _ => none
  | _, _ => none

def pBuilderString : List PV → List (List PV) → Option (PV × Upd)
  | [.ptr b 0], bs => match bs[b]? with
    | some [_, .nils] => some (.str [], .no)
    | some [_, .bys (.own i) l] => if l = [] ∨ room < l.length then none else some (.str l, .kill i)
    | _ => none
  | _, _ => none

def pClone (esz : Nat) : List PV → List (List PV) → Option (PV × Upd)
  | [.nils], _ => some (.nils, .no)
  | [.sl e _ xs], bs => if e = esz ∧ xs ≠ [] ∧ xs.length ≤ room ∧ (xs.flatMap PV.cells).all zeroLeaf = true then some (.ms bs.length 0 xs.length, .new (xs.flatMap PV.cells)) else none
  | _, _ => none
def pClone2 : List PV → List (List PV) → Option (PV × Upd) := pClone 2
end Go.Ab
/-
  Operations on what is known of values: numbers that are naturals, slices of bytes.
-/
namespace Go.Ab
variable {A : AP} {st : St} {e : Env}

theorem by_cases' {x : PV} {l : List UInt8} (h : x.by = some l) : (x = .nils ∧ l = []) ∨ ∃ t, x = .bys t l := by
  cases x <;> simp [PV.by] at h
  · exact .inl ⟨rfl, h⟩
  · subst h; exact .inr ⟨_, rfl⟩

theorem wrap64 {n : Int} (h1 : -9223372036854775808 ≤ n) (h2 : n < 9223372036854775808) : IntKind.i64.wrap n = n := by
  unfold IntKind.wrap
  simp only [IntKind.signed, IntKind.bits]
  simp
  omega

theorem add_n {ek : EK} {a : Nat} {c : Int} (h1 : 0 ≤ c) (h2 : a + c.toNat < 9223372036854775808) : binPV .add ek (.int .i64 (a : Int)) (.int .i64 c) = some (.int .i64 ((a + c.toNat : Nat) : Int)) := by
  simp only [binPV, binI, reduceIte, Option.some.injEq]
  rw [wrap64 (by omega) (by omega)]
  congr 1; omega
theorem sub_n {ek : EK} {a : Nat} {c : Int} (h1 : 0 ≤ c) (h2 : c.toNat ≤ a) (h3 : a < 9223372036854775808) : binPV .sub ek (.int .i64 (a : Int)) (.int .i64 c) = some (.int .i64 ((a - c.toNat : Nat) : Int)) := by
  simp only [binPV, binI, reduceIte, Option.some.injEq]
  rw [wrap64 (by omega) (by omega)]
  congr 1; omega
theorem add_i {ek : EK} {a c : Int} (h1 : -9223372036854775808 ≤ a + c) (h2 : a + c < 9223372036854775808) : binPV .add ek (.int .i64 a) (.int .i64 c) = some (.int .i64 (a + c)) := by
  simp only [binPV, binI, reduceIte, Option.some.injEq]
  rw [wrap64 (by omega) (by omega)]
theorem qbpz {k : IntKind} {ek : EK} {a c : Int} : binPV .lss ek (.int k a) (.int k c) = some (.bool (decide (a < c))) := by simp [binPV, binI]
theorem qbqz {k : IntKind} {ek : EK} {a c : Int} : binPV .leq ek (.int k a) (.int k c) = some (.bool (decide (a ≤ c))) := by simp [binPV, binI]
theorem qbrz {k : IntKind} {ek : EK} {a c : Int} : binPV .gtr ek (.int k a) (.int k c) = some (.bool (decide (c < a))) := by simp [binPV, binI]
theorem qbsz {k : IntKind} {ek : EK} {a c : Int} : binPV .geq ek (.int k a) (.int k c) = some (.bool (decide (c ≤ a))) := by simp [binPV, binI]
theorem qbtz {k : IntKind} {ek : EK} {a c : Int} : binPV .eql ek (.int k a) (.int k c) = some (.bool (decide (a = c))) := by
  simp [binPV, binI]; by_cases h : a = c <;> simp [h]
theorem qbuz {k : IntKind} {ek : EK} {a c : Int} : binPV .neq ek (.int k a) (.int k c) = some (.bool (decide (a ≠ c))) := by
  simp [binPV, binI]; by_cases h : a = c <;> simp [h]
theorem qbvz {ek : EK} {a c : UInt8} : binPV .eql ek (.b8 a) (.b8 c) = some (.bool (decide (a = c))) := by
  simp [binPV, bin8]; by_cases h : a = c <;> simp [h]
theorem qbwz {ek : EK} {a c : UInt8} : binPV .neq ek (.b8 a) (.b8 c) = some (.bool (decide (a ≠ c))) := by
  simp [binPV, bin8]; by_cases h : a = c <;> simp [h]
theorem qbxz {ek : EK} {a c : UInt8} : binPV .lss ek (.b8 a) (.b8 c) = some (.bool (decide (a < c))) := rfl
theorem qbyz {ek : EK} {a c : UInt8} : binPV .leq ek (.b8 a) (.b8 c) = some (.bool (decide (a ≤ c))) := rfl
theorem qbzz {ek : EK} {a c : UInt8} : binPV .gtr ek (.b8 a) (.b8 c) = some (.bool (decide (c < a))) := rfl
theorem qcaz {ek : EK} {a c : UInt8} : binPV .geq ek (.b8 a) (.b8 c) = some (.bool (decide (c ≤ a))) := rfl
theorem qcbz {ek : EK} {a c : List UInt8} : binPV .eql ek (.str a) (.str c) = some (.bool (decide (a = c))) := by
  simp [binPV, binS]; by_cases h : a = c <;> simp [h]
theorem qccz {ek : EK} {a c : List UInt8} : binPV .neq ek (.str a) (.str c) = some (.bool (decide (a ≠ c))) := by
  simp [binPV, binS]; by_cases h : a = c <;> simp [h]
theorem qcfz {b : Bool} : unPV .not (.bool b) = some (.bool !b) := rfl
theorem len_by {x : PV} {l : List UInt8} (h : x.by = some l) : lenPV false x = some (.int .i64 (l.length : Int)) := by
  rcases by_cases' h with ⟨rfl, rfl⟩ | ⟨t, rfl⟩ <;> rfl
theorem b2s_by {x : PV} {l : List UInt8} {mu : Bool} (h : x.by = some l) : b2s mu st x = some l := by
  rcases by_cases' h with ⟨rfl, rfl⟩ | ⟨t, rfl⟩ <;> rfl
theorem src8_by {x : PV} {l : List UInt8} (h : x.by = some l) : src8 st x = some l := by
  rcases by_cases' h with ⟨rfl, rfl⟩ | ⟨t, rfl⟩ <;> rfl
theorem qcgz {t : Tok} {l : List UInt8} : (PV.bys t l).by = some l := rfl
theorem cutTok_no {i : Nat} : cutTok i .no = .no := by unfold cutTok; split <;> rfl
def PV.dropB (x : PV) (i : Nat) : PV := match x with
  | .bys t l => .bys (cutTok i t) (l.drop i)
  | x => x
def PV.takeB (x : PV) (i : Nat) : PV := match x with
  | .bys t l => .bys .no (l.take i)
  | x => x
def PV.midB (x : PV) (i j : Nat) : PV := match x with
  | .bys t l => .bys .no ((l.take j).drop i)
  | x => x
theorem dropB_by {x : PV} {l : List UInt8} {i : Nat} (h : x.by = some l) : (x.dropB i).by = some (l.drop i) := by
  rcases by_cases' h with ⟨rfl, rfl⟩ | ⟨t, rfl⟩ <;> simp [PV.dropB, PV.by]
theorem midB_by {x : PV} {l : List UInt8} {i j : Nat} (h : x.by = some l) : (x.midB i j).by = some ((l.take j).drop i) := by
  rcases by_cases' h with ⟨rfl, rfl⟩ | ⟨t, rfl⟩ <;> simp [PV.midB, PV.by]

theorem slc_lo {x : PV} {l : List UInt8} {k : IntKind} {c : Int} (h : x.by = some l) (h1 : 0 ≤ c) (h2 : c.toNat ≤ l.length) : slcPV 1 x (some (.int k c)) none none = some (x.dropB c.toNat) := by
  rcases by_cases' h with ⟨rfl, rfl⟩ | ⟨t, rfl⟩
  · simp at h2
    simp [slcPV, bnd, intOf, PV.dropB, show c = 0 by omega]
  · simp [slcPV, bnd, intOf, PV.dropB, h1, sufTok, show c ≤ l.length by omega]
theorem slc_hi {x : PV} {l : List UInt8} {k : IntKind} {c : Int} (h : x.by = some l) (h1 : 0 ≤ c) (h2 : c.toNat ≤ l.length) : slcPV 1 x none (some (.int k c)) none = some (x.takeB c.toNat) := by
  rcases by_cases' h with ⟨rfl, rfl⟩ | ⟨t, rfl⟩
  · simp at h2
    simp [slcPV, bnd, intOf, PV.takeB, show c = 0 by omega]
  · simp [slcPV, bnd, intOf, PV.takeB, h1, sufTok, show c ≤ l.length by omega, cutTok_no]
theorem slc_lohi {x : PV} {l : List UInt8} {k k' : IntKind} {c d : Int} (h : x.by = some l) (h1 : 0 ≤ c) (h2 : c ≤ d) (h3 : d.toNat ≤ l.length) : slcPV 1 x (some (.int k c)) (some (.int k' d)) none = some (x.midB c.toNat d.toNat) := by
  rcases by_cases' h with ⟨rfl, rfl⟩ | ⟨t, rfl⟩
  · simp at h3
    simp [slcPV, bnd, intOf, PV.midB, show c = 0 by omega, show d = 0 by omega]
  · simp [slcPV, bnd, intOf, PV.midB, h1, sufTok, show d ≤ l.length by omega, show 0 ≤ d by omega, show c ≤ max d 0 by omega, cutTok_no]
theorem qciz {v : PV} {sz : Nat} : loadPV st false sz (.cp [v]) = some v := rfl

theorem leave_pure {v : PV} (h1 : v.inB st.boxes.length = true) (h3 : keepRes st.toks.length st.toks v = (v, [])) :
    leave st { st with low := st.boxes.length } v = (v, st) := by
  simp [leave, h1, h3]
def PV.tokLt (n : Nat) : PV → Bool
  | .bys t _ => t.lt n
  | .sl _ t _ => t.lt n
  | _ => true
theorem midB_tok {x : PV} {i j n : Nat} (h : x.tokLt n = true) : (x.midB i j).tokLt n = true := by
  cases x <;> simp_all [PV.midB, PV.tokLt, Tok.lt]
theorem by_inB {x : PV} {l : List UInt8} {n : Nat} (h : x.by = some l) : x.inB n = true := by
  rcases by_cases' h with ⟨rfl, rfl⟩ | ⟨t, rfl⟩ <;> rfl
structure Kp (st : St) (v : PV) : Prop where
  nt : notTup v = true
  ib : v.inB st.boxes.length = true
  kp : keepVal st.toks.length st.toks [] v = (v, [])
theorem Kp_bool {b : Bool} : Kp st (.bool b) := ⟨rfl, rfl, rfl⟩
theorem Kp_int {k : IntKind} {n : Int} : Kp st (.int k n) := ⟨rfl, rfl, rfl⟩
theorem Kp_str {s : List UInt8} : Kp st (.str s) := ⟨rfl, rfl, rfl⟩
theorem end1 {a : Nat} {v : PV} (ha : e a = v) (h : Kp st v) : ∃ rv, resOf e { boxes := st.boxes, toks := st.toks, loops := st.loops, low := st.boxes.length } [.tmp a] = some rv ∧ leave st { boxes := st.boxes, toks := st.toks, loops := st.loops, low := st.boxes.length } rv = (v, st) := by
  refine ⟨v, by simp [resOf, rvAll, rv1, ha, h.nt, packRes], leave_pure h.ib (keep1 h.kp h.nt)⟩
theorem end3 {a b c : Nat} {v w u : PV} (ha : e a = v) (hb : e b = w) (hc : e c = u) (h : Kp st v) (h2 : Kp st w) (h3 : Kp st u) : ∃ rv, resOf e { boxes := st.boxes, toks := st.toks, loops := st.loops, low := st.boxes.length } [.tmp a, .tmp b, .tmp c] = some rv ∧ leave st { boxes := st.boxes, toks := st.toks, loops := st.loops, low := st.boxes.length } rv = (.tup [v, w, u], st) := by
  refine ⟨.tup [v, w, u], by simp [resOf, rvAll, rv1, ha, hb, hc, h.nt, h2.nt, h3.nt, packRes], leave_pure (by simp [PV.inB, PV.inB.inBAll, h.ib, h2.ib, h3.ib]) (keep3 h.kp h2.kp h3.kp)⟩
end Go.Ab
/-
  Arguments of type []byte, opened.
-/
namespace Go.Ab
open Go.ChangeShapes Go.WideShapes Go.ChangeAt Go.RowKit
variable {P : Program} {g : GMap}

theorem byte_of_wf {x : Int} (h : (Lit.int .u8 x).wf = true) : 0 ≤ x ∧ x < 256 := by
  have h1 : IntKind.u8.min = 0 := rfl
  have h2 : IntKind.u8.max = 255 := rfl
  simp only [Lit.wf, Bool.and_eq_true, decide_eq_true_eq] at h
  omega

end Go.Ab
/-
  Arguments of plain types, opened: what they read as, as abstract values.
-/
namespace Go.Ab
open Go.ChangeShapes Go.WideShapes Go.ChangeAt Go.RowKit Go.Deep
variable {P : Program} {g : GMap}

inductive HasTy (P : Program) : TypeId → PV → Prop
  | bool {t : TypeId} (b : Bool) (ht : P.underlying t = some .bool) : HasTy P t (.bool b)
  | int {t : TypeId} {k : IntKind} (n : Int) (ht : P.underlying t = some (.int k)) (hk : k ≠ .u8) (h : k.min ≤ n ∧ n ≤ k.max) : HasTy P t (.int k n)
  | u8 {t : TypeId} (b : UInt8) (ht : P.underlying t = some (.int .u8)) : HasTy P t (.b8 b)
  | str {t : TypeId} (s : List UInt8) (ht : P.underlying t = some .string) (h : s.length ≤ reachBytes) : HasTy P t (.str s)
  | nils {t e : TypeId} (ht : P.underlying t = some (.slice e)) : HasTy P t .nils
  | bys {t e : TypeId} (l : List UInt8) (ht : P.underlying t = some (.slice e)) (he : P.underlying e = some (.int .u8)) (h : l.length ≤ maxLen) : HasTy P t (.bys .no l)
  | sl {t e : TypeId} (xs : List PV) (ht : P.underlying t = some (.slice e)) (he : P.underlying e ≠ some (.int .u8)) (h : xs.length ≤ maxLen) (hx : ∀ x ∈ xs, HasTy P e x) : HasTy P t (.sl (P.cellsOf e) .no xs)
  | agg {t : TypeId} {fs : Array Field} (xs : List PV) (ht : P.underlying t = some (.struct fs)) (hl : xs.length = fs.size) (hx : ∀ (i : Nat) (f : Field) (x : PV), fs[i]? = some f → xs[i]? = some x → HasTy P f.type x) : HasTy P t (.agg (flat xs))

def contig (P : Program) : List Field → Nat → Option Nat
  | [], n => some n
  | f :: fs, n => if f.offset = n then contig P fs (n + P.cellsOf f.type) else none

def okIn (P : Program) (ts : List TypeId) (t : TypeId) : Bool :=
  match P.underlying t with
  | some .bool => P.cellsOf t == 1
  | some (.int _) => P.cellsOf t == 1
  | some .string => P.cellsOf t == 1
  | some (.slice e) => P.cellsOf t == 1 && ts.contains e && decide (0 < P.cellsOf e) && (match P.underlying e with | some (.int .u8) => false | _ => true)
  | some (.struct fs) => contig P fs.toList 0 == some (P.cellsOf t) && fs.toList.all fun f => ts.contains f.type
  | _ => false
def okTop (P : Program) (ts us : List TypeId) (t : TypeId) : Bool :=
  match P.underlying t with
  | some .bool => P.cellsOf t == 1
  | some (.int _) => P.cellsOf t == 1
  | some .string => P.cellsOf t == 1
  | some (.slice e) => P.cellsOf t == 1 && (match P.underlying e with | some (.int .u8) => P.cellsOf e == 1 | _ => ts.contains e && decide (0 < P.cellsOf e))
  | some (.struct fs) => contig P fs.toList 0 == some (P.cellsOf t) && fs.toList.all fun f => us.contains f.type
  | _ => false

structure Opened (P : Program) (g : GMap) (w : World) (t : TypeId) (cs : List Value) (p : PV) : Prop where
  ty : HasTy P t p
  ln : p.cells.length = cs.length
  lt : p.cells.length = P.cellsOf t
  dt : p.data = true
  nt : notTup p = true
  lf : p.cells.all leafOk = true
  rr : ∀ (i : Nat) (v : Value) (q : PV), cs[i]? = some v → p.cells[i]? = some q → R g (κ0 w) v q

theorem one_get {v : Value} {q : PV} {R' : Value → PV → Prop} (h : R' v q) : ∀ (i : Nat) (v' : Value) (q' : PV), [v][i]? = some v' → [q][i]? = some q' → R' v' q' := by
  intro i v' q' a b
  cases i with
  | zero => simp at a b; subst a b; exact h
  | succ i => simp at a

theorem flatMap_get {α : Type} {f : Nat → List α} {c : Nat} : ∀ (n : Nat), (∀ i, i < n → (f i).length = c) → ((List.range n).flatMap f).length = n * c ∧ ∀ i, i < n * c → ((List.range n).flatMap f)[i]? = (f (i / c))[i % c]? := by
  intro n
  induction n with
  | zero => intro _; simp
  | succ n ih =>
    intro h
    obtain ⟨h1, h2⟩ := ih (fun i hi => h i (by omega))
    rw [List.range_succ, List.flatMap_append]
    simp only [List.flatMap_cons, List.flatMap_nil, List.append_nil, List.length_append, h1, h n (by omega)]
    refine ⟨(Nat.succ_mul n c).symm, fun i hi => ?_⟩
    by_cases hlt : i < n * c
    · rw [List.getElem?_append_left (by rw [h1]; exact hlt), h2 i hlt]
    · rw [List.getElem?_append_right (by rw [h1]; omega), h1]
      have hc : 0 < c := by
        rcases Nat.eq_zero_or_pos c with h0 | h0
        · subst h0; simp at hi
        · exact h0
      have hlt2 : i < n * c + c := by rw [← Nat.succ_mul]; exact hi
      have hd : i / c = n := by
        apply Nat.div_eq_of_lt_le
        · omega
        · rw [Nat.succ_mul]; omega
      have hm : i % c = i - n * c := by
        have := Nat.div_add_mod i c
        rw [hd] at this
        rw [Nat.mul_comm] at this; omega
      rw [hd, hm]

theorem spot_of_cell {w : World} {a : Addr} {v : Value} (h : w.cell? a = some v) : a.spot = none := by
  unfold World.cell? at h
  split at h
  · split at h
    · cases h
    · rename_i hs; simpa using hs
  · cases h

theorem open_fields {w : World} : ∀ (fs : List Field) (off tot : Nat) (cs : List Value), contig P fs off = some tot → cs.length = tot → (∀ (i : Nat) (f : Field), fs[i]? = some f → ∃ p, Opened P g w f.type ((cs.drop f.offset).take (P.cellsOf f.type)) p) →
    ∃ ps : List PV, ps.length = fs.length ∧ (∀ (i : Nat) (f : Field) (x : PV), fs[i]? = some f → ps[i]? = some x → HasTy P f.type x) ∧ (flat ps).length + off = tot ∧ dataAll (flat ps) = true ∧ (flat ps).all leafOk = true ∧
      ∀ (i : Nat) (v : Value) (q : PV), cs[off + i]? = some v → (flat ps)[i]? = some q → R g (κ0 w) v q := by
  intro fs
  induction fs with
  | nil =>
    intro off tot cs hc hl _
    simp only [contig, Option.some.injEq] at hc
    exact ⟨[], rfl, fun i f x h => by simp at h, by simp [flat, hc], rfl, rfl, fun i v q _ h => by simp [flat] at h⟩
  | cons f fs ih =>
    intro off tot cs hc hl hf
    simp only [contig] at hc
    split at hc
    · rename_i ho
      obtain ⟨p, hp⟩ := hf 0 f rfl
      obtain ⟨ps, h1, h2, h3, h4, h5, h6⟩ := ih (off + P.cellsOf f.type) tot cs hc hl (fun i f' h => hf (i + 1) f' h)
      refine ⟨p :: ps, by simp [h1], fun i f' x a b => ?_, ?_, ?_, ?_, fun i v q a b => ?_⟩
      · cases i with
        | zero => simp at a b; subst a b; exact hp.ty
        | succ i => simp at a b; exact h2 i f' x a b
      · have := hp.lt
        simp only [flat, List.flatMap_cons, List.length_append] at h3 ⊢; omega
      · simp only [flat, List.flatMap_cons] at h4 ⊢
        rw [dataAll_append, h4, data_cells hp.dt]; rfl
      · simp only [flat, List.flatMap_cons] at h5 ⊢
        rw [List.all_append, hp.lf, h5]; rfl
      · simp only [flat, List.flatMap_cons] at b
        by_cases hi : i < p.cells.length
        · rw [List.getElem?_append_left hi] at b
          refine hp.rr i v q ?_ b
          rw [List.getElem?_take, if_pos (by rw [← hp.lt]; exact hi), List.getElem?_drop, ho]; exact a
        · rw [List.getElem?_append_right (by omega)] at b
          refine h6 (i - p.cells.length) v q ?_ b
          rw [← hp.lt, show off + p.cells.length + (i - p.cells.length) = off + i by omega]; exact a
    · cases hc

theorem weightsEach_get {H : Type} : ∀ (ts : List TypeId) (ds : List (DataW H)), (DataW.weightsEach P ts ds).all (· ≤ reachBytes) = true → ∀ (i : Nat) (t : TypeId) (d : DataW H), ts[i]? = some t → ds[i]? = some d → (d.weights P t).all (· ≤ reachBytes) = true := by
  intro ts
  induction ts with
  | nil => intro ds _ i t d h; simp at h
  | cons t ts ih =>
    intro ds h i u d a b
    cases ds with
    | nil => simp at b
    | cons e ds =>
      simp only [DataW.weightsEach, List.all_append, Bool.and_eq_true] at h
      cases i with
      | zero => simp at a b; subst a b; exact h.1
      | succ i => simp at a b; exact ih ds h.2 i u d a b
theorem weightsAll_get {H : Type} {e : TypeId} : ∀ (ds : List (DataW H)), (DataW.weightsAll P e ds).all (· ≤ reachBytes) = true → ∀ (i : Nat) (d : DataW H), ds[i]? = some d → (d.weights P e).all (· ≤ reachBytes) = true := by
  intro ds
  induction ds with
  | nil => intro _ i d h; simp at h
  | cons e ds ih =>
    intro h i d b
    simp only [DataW.weightsAll, List.all_append, Bool.and_eq_true] at h
    cases i with
    | zero => simp at b; subst b; exact h.1
    | succ i => simp at b; exact ih h.2 i d b

theorem open_in {H : Type} {enc : TypeId × Value → H} {w : World} {ts us : List TypeId} (hin : ts.all (okIn P ts) = true) (htop : us.all (okTop P ts us) = true) : ∀ (fuel : Nat) (t : TypeId) (cs : List Value) (x : DataW H × List MemPlace), DataW.trod enc P w 0 (fun _ => true) true fuel t cs = some x → (x.1.weights P t).all (· ≤ reachBytes) = true →
    (t ∈ ts ∨ t ∈ us ∧ ∀ a len cap, Value.slice (some a) len cap ∈ cs → a.spot = none) → ∃ p, Opened P g w t cs p := by
  intro fuel
  induction fuel with
  | zero => intro t cs x h; simp [DataW.trod] at h
  | succ fuel ih =>
    intro t cs x h hwt hm
    have hok : okIn P ts t = true ∨ okTop P ts us t = true := by
      rcases hm with hm | hm
      · exact .inl ((List.all_eq_true.1 hin) t hm)
      · exact .inr ((List.all_eq_true.1 htop) t hm.1)
    have hone : (∀ e, P.underlying t ≠ some (.struct e)) → P.cellsOf t = 1 := by
      intro hne
      cases hu : P.underlying t with
      | none => rcases hok with hok | hok <;> simp [okIn, okTop, hu] at hok
      | some d =>
        rcases hok with hok | hok
        · simp only [okIn, hu] at hok
          cases d <;> first | exact (hne _ hu).elim | simp_all
        · simp only [okTop, hu] at hok
          cases d <;> first | exact (hne _ hu).elim | simp_all
    cases hu : P.underlying t with
    | none => rcases hok with hok | hok <;> simp [okIn, okTop, hu] at hok
    | some d =>
      cases d with
      | bool =>
        obtain ⟨b, rfl, _⟩ := DataW.trod_bool hu h
        exact ⟨.bool b, .bool b hu, rfl, (hone (fun e he => by rw [hu] at he; cases he)).symm, rfl, rfl, rfl, one_get (.bool b)⟩
      | int k =>
        obtain ⟨n, rfl, _, hw⟩ := DataW.trod_int hu h
        have hrange : k.min ≤ n ∧ n ≤ k.max := by simpa [Lit.wf] using hw
        by_cases hk : k = .u8
        · subst hk
          have h1 : IntKind.u8.min = 0 := rfl
          have h2 : IntKind.u8.max = 255 := rfl
          rw [h1, h2] at hrange
          refine ⟨.b8 (n.toNat.toUInt8), .u8 _ hu, rfl, (hone (fun e he => by rw [hu] at he; cases he)).symm, rfl, rfl, rfl, one_get (.b8 _ _ ?_)⟩
          simp [Nat.toUInt8]; omega
        · exact ⟨.int k n, .int n hu hk hrange, rfl, (hone (fun e he => by rw [hu] at he; cases he)).symm, rfl, rfl, rfl, one_get (.int k n hk)⟩
      | string =>
        obtain ⟨s, rfl, hxe, hs⟩ := DataW.trod_string hu h
        rw [hxe] at hwt
        simp only [DataW.weights, List.all_cons, List.all_nil, Bool.and_true, decide_eq_true_eq] at hwt
        exact ⟨.str s.data.toList, .str _ hu hwt, rfl, (hone (fun e he => by rw [hu] at he; cases he)).symm, rfl, rfl, rfl, one_get (.str s _ rfl)⟩
      | struct fs =>
        obtain ⟨xs, n, hn, hxe, hcl, hxl, hx⟩ := DataW.trod_struct hu h
        obtain rfl : n = fuel := by omega
        rw [hxe] at hwt
        simp only [DataW.weights, hu] at hwt
        have hc : contig P fs.toList 0 = some (P.cellsOf t) := by
          rcases hok with hok | hok
          · simp only [okIn, hu, Bool.and_eq_true, beq_iff_eq] at hok; exact hok.1
          · simp only [okTop, hu, Bool.and_eq_true, beq_iff_eq] at hok; exact hok.1
        have hmem : ∀ (i : Nat) (f : Field), fs.toList[i]? = some f → (f.type ∈ ts ∨ f.type ∈ us ∧ ∀ a len cap, Value.slice (some a) len cap ∈ cs → a.spot = none) := by
          intro i f hf
          have hfm := List.mem_of_getElem? hf
          rcases hm with hm | hm
          · have hok := (List.all_eq_true.1 hin) t hm
            simp only [okIn, hu, Bool.and_eq_true, List.all_eq_true] at hok
            exact .inl (by simpa using hok.2 f hfm)
          · have hok := (List.all_eq_true.1 htop) t hm.1
            simp only [okTop, hu, Bool.and_eq_true, List.all_eq_true] at hok
            exact .inr ⟨by simpa using hok.2 f hfm, hm.2⟩
        obtain ⟨ps, h1, h2, h3, h4, h5, h6⟩ := open_fields (g := g) (w := w) fs.toList 0 _ cs hc hcl (fun i f hf => by
          have hf' : fs[i]? = some f := by simpa using hf
          have hi : i < xs.length := by rw [hxl]; exact (Array.getElem?_eq_some_iff.1 hf').1
          have := hx i f hf'
          rw [List.getElem?_eq_getElem hi] at this
          refine ih _ _ _ this (weightsEach_get _ _ hwt i _ _ (by simp [hf]) (by simp [hi])) ?_
          rcases hmem i f hf with hm | hm
          · exact .inl hm
          · exact .inr ⟨hm.1, fun a len cap ha => hm.2 a len cap (List.mem_of_mem_drop (List.mem_of_mem_take ha))⟩)
        refine ⟨.agg (flat ps), .agg ps hu (by simpa using h1) (fun i f x a b => h2 i f x (by simpa using a) b), ?_, ?_, h4, rfl, h5, fun i v q a b => h6 i v q (by simpa using a) b⟩
        · show (flat ps).length = _
          omega
        · show (flat ps).length = _
          omega
      | slice e =>
        have hct := hone (fun e he => by rw [hu] at he; cases he)
        rcases DataW.trod_slice hu h with ⟨rfl, _⟩ | ⟨a, len, cap, elems, rest, n, hn, rfl, hxe, _, hl, hmx, hlen, hel, hspare, _⟩
        · exact ⟨.nils, .nils hu, rfl, hct.symm, rfl, rfl, rfl, one_get .nils⟩
        · obtain rfl : n = fuel := by omega
          -- an element's cells
          have hpart : ∀ i, i < len → ∃ cs', w.cells? 0 (a.add (i * P.cellsOf e)) (P.cellsOf e) = some cs' ∧ DataW.trod enc P w 0 (fun _ => true) true n e cs' = elems[i]? := fun i hi => by
            have := hel i hi
            rw [List.getElem?_eq_getElem (by omega)] at this
            obtain ⟨cs', h1, h2⟩ := Option.bind_eq_some_iff.1 this
            exact ⟨cs', h1, by rw [h2, List.getElem?_eq_getElem (by omega)]⟩
          by_cases he : P.underlying e = some (.int .u8)
          · -- bytes
            have hus : t ∈ us ∧ ∀ a' len' cap', Value.slice (some a') len' cap' ∈ [Value.slice (some a) len cap] → a'.spot = none := by
              rcases hm with hm | hm
              · have hok := (List.all_eq_true.1 hin) t hm
                simp [okIn, hu, he] at hok
              · exact hm
            have hce : P.cellsOf e = 1 := by
              have hok := (List.all_eq_true.1 htop) t hus.1
              simp only [okTop, hu, he, Bool.and_eq_true, beq_iff_eq] at hok
              exact hok.2
            have hsp := hus.2 a len cap (by simp)
            obtain ⟨blk, off, sp⟩ := a
            simp only at hsp
            subst hsp
            obtain ⟨f, hf⟩ := choose_lt (α := Int) (p := fun i z => w.cell? ⟨blk, off + i, none⟩ = some (.int .u8 z) ∧ 0 ≤ z ∧ z < 256) (n := len) (fun i hi => by
              obtain ⟨cs', h1, h2⟩ := hpart i hi
              rw [List.getElem?_eq_getElem (by omega)] at h2
              obtain ⟨z, rfl, _, hz⟩ := DataW.trod_int he h2
              rw [hce, Nat.mul_one] at h1
              have := cell_of_cells?_one h1
              rw [add_eq] at this
              exact ⟨z, this, byte_of_wf hz⟩)
            refine ⟨.bys .no ((List.range len).map fun i => (f i).toNat.toUInt8), .bys _ hu he (by simp; omega), rfl, hct.symm, rfl, rfl, rfl, one_get (.bys blk off len cap .no _ (by simp) hl (fun i b hb => ?_) trivial (fun i h => by cases h))⟩
            simp only [List.getElem?_map, Option.map_eq_some_iff] at hb
            obtain ⟨j, hj, rfl⟩ := hb
            have hi : i < len := by
              have := (List.getElem?_eq_some_iff.1 hj).1
              simpa using this
            rw [List.getElem?_range hi] at hj
            cases hj
            obtain ⟨q1, q2, q3⟩ := hf i hi
            show w.cell? ⟨blk, off + i, none⟩ = _
            rw [q1]
            have : (((f i).toNat.toUInt8).toNat : Int) = f i := by
              simp [Nat.toUInt8]; omega
            rw [this]
          · -- other elements
            have hein : e ∈ ts ∧ 0 < P.cellsOf e := by
              rcases hm with hm | hm
              · have hok := (List.all_eq_true.1 hin) t hm
                simp only [okIn, hu, Bool.and_eq_true, decide_eq_true_eq] at hok
                exact ⟨by simpa using hok.1.1.2, hok.1.2⟩
              · have hok := (List.all_eq_true.1 htop) t hm.1
                simp only [okTop, hu, Bool.and_eq_true] at hok
                have h2 := hok.2
                first
                | (split at h2
                   · rename_i h3; exact absurd h3 he
                   · simp only [Bool.and_eq_true, decide_eq_true_eq] at h2
                     exact ⟨by simpa using h2.1, h2.2⟩)
                | (simp only [decide_eq_true_eq] at h2
                   exact ⟨by simpa using h2.1, h2.2⟩)
            by_cases hcap : cap = 0
            · have hl0 : len = 0 := by omega
              subst hcap hl0
              exact ⟨.sl (P.cellsOf e) .no [], .sl [] hu he (Nat.zero_le _) (fun x hx => by simp at hx), rfl, hct.symm, rfl, rfl, rfl, one_get (.sl0 a _ _ (fun i h => by cases h))⟩
            · -- the address is a cell's
              have hsp : a.spot = none := by
                have h0 : ∃ cs', w.cells? 0 (a.add (0 * P.cellsOf e)) (P.cellsOf e) = some cs' := by
                  by_cases hl0 : 0 < len
                  · obtain ⟨cs', h1, _⟩ := hpart 0 hl0
                    exact ⟨cs', h1⟩
                  · obtain ⟨r1, r2⟩ := hspare rfl
                    have := r2 0 (by omega)
                    rw [List.getElem?_eq_getElem (by omega)] at this
                    obtain ⟨cs', h1, h2⟩ := Option.bind_eq_some_iff.1 this
                    rw [show len + 0 = 0 by omega] at h1
                    exact ⟨cs', h1⟩
                obtain ⟨cs', h1⟩ := h0
                obtain ⟨_, h2, h3⟩ := World.cells?_some h1
                have h4 := h3 0 hein.2
                rw [List.getElem?_eq_getElem (by omega)] at h4
                have := spot_of_cell h4
                simpa [Addr.add] using this
              obtain ⟨blk, off, sp⟩ := a
              simp only at hsp
              subst hsp
              obtain ⟨F, hF⟩ := choose_lt (α := List Value × PV) (p := fun i z => w.cells? 0 ((⟨blk, off, none⟩ : Addr).add (i * P.cellsOf e)) (P.cellsOf e) = some z.1 ∧ Opened P g w e z.1 z.2) (n := len) (fun i hi => by
                obtain ⟨cs', h1, h2⟩ := hpart i hi
                rw [List.getElem?_eq_getElem (by omega)] at h2
                rw [hxe] at hwt
                simp only [DataW.weights, hu, List.all_cons, List.all_append, Bool.and_eq_true] at hwt
                obtain ⟨p, hp⟩ := ih _ _ _ h2 (weightsAll_get _ hwt.2.1 i _ (by rw [List.getElem?_map, List.getElem?_eq_getElem (by omega)]; rfl)) (.inl hein.1)
                exact ⟨(cs', p), h1, hp⟩)
              have hflat : flat ((List.range len).map fun i => (F i).2) = (List.range len).flatMap fun i => (F i).2.cells := by simp [flat, List.flatMap_map]
              obtain ⟨v1, v2⟩ := flatMap_get (f := fun i => (F i).1) (c := P.cellsOf e) len (fun i hi => (World.cells?_some (hF i hi).1).2.1)
              obtain ⟨x1, x2⟩ := flatMap_get (f := fun i => (F i).2.cells) (c := P.cellsOf e) len (fun i hi => (hF i hi).2.lt)
              have hdm : ∀ i, i < len * P.cellsOf e → i / P.cellsOf e < len := fun i hi => by
                rw [Nat.div_lt_iff_lt_mul hein.2]; exact hi
              have hmd : ∀ i, i % P.cellsOf e < P.cellsOf e := fun i => Nat.mod_lt _ hein.2
              have hxs : ∀ x ∈ (List.range len).map (fun i => (F i).2), ∃ i, i < len ∧ x = (F i).2 := fun x hx => by
                simp only [List.mem_map, List.mem_range] at hx
                obtain ⟨i, h1, rfl⟩ := hx
                exact ⟨i, h1, rfl⟩
              have hda : ∀ xs : List PV, (∀ x ∈ xs, x.data = true) → dataAll xs = true := by
                intro xs
                induction xs with
                | nil => intro _; rfl
                | cons x xs ih => intro h; simp only [dataAll, h x (by simp), ih (fun y hy => h y (by simp [hy])), Bool.and_self]
              have hd : dataAll ((List.range len).map fun i => (F i).2) = true := hda _ fun x hx => by
                obtain ⟨i, hi, rfl⟩ := hxs x hx
                exact (hF i hi).2.dt
              refine ⟨.sl (P.cellsOf e) .no ((List.range len).map fun i => (F i).2), .sl _ hu he (by simp; omega) (fun x hx => ?_), rfl, hct.symm, by simp [PV.data, Tok.isNo, hd], rfl, rfl,
                one_get (.sl blk off len cap (P.cellsOf e) .no _ ((List.range len).flatMap fun i => (F i).1) (by simp) hl (fun x hx => ?_) (by rw [hflat, v1, x1]) (fun i v hi => ?_) (fun i v q a b => ?_) hd ?_ trivial)⟩
              · obtain ⟨i, hi, rfl⟩ := hxs x hx
                exact (hF i hi).2.ty
              · obtain ⟨i, hi, rfl⟩ := hxs x hx
                exact (hF i hi).2.lt
              · have hlt := (List.getElem?_eq_some_iff.1 hi).1
                rw [v1] at hlt
                rw [v2 i hlt] at hi
                have h3 := (World.cells?_some (hF _ (hdm i hlt)).1).2.2 (i % P.cellsOf e) (hmd i)
                rw [add_eq, add_eq, hi] at h3
                have h4 := Nat.div_add_mod i (P.cellsOf e)
                rw [Nat.mul_comm] at h4
                rw [Nat.add_assoc, h4] at h3
                exact h3
              · have hlt := (List.getElem?_eq_some_iff.1 a).1
                rw [v1] at hlt
                rw [v2 i hlt] at a
                rw [hflat, x2 i hlt] at b
                exact (hF _ (hdm i hlt)).2.rr _ _ _ a b
              · rw [hflat, List.all_eq_true]
                intro y hy
                obtain ⟨i, hi, hy⟩ := List.mem_flatMap.1 hy
                exact (List.all_eq_true.1 (hF i (by simpa using hi)).2.lf) y hy
      | _ => rcases hok with hok | hok <;> simp [okIn, okTop, hu] at hok

theorem cell_spot {w : World} {r : Reach} {base : Nat} {u : TypeId} {a : Addr} {len cap : Nat} (h : Cell.okWide P w r base u (.slice (some a) len cap)) : a.spot = none := by
  unfold Cell.okWide at h
  cases hu : P.underlying u with
  | none => simp [hu, Cell.ok] at h
  | some d =>
    cases d <;> simp [hu, Cell.ok] at h
    exact h.2.2.2.1

theorem open_arg {H : Type} {enc : TypeId × Value → H} {W : World} {base : Nat} {ts us : List TypeId} (hin : ts.all (okIn P ts) = true) (htop : us.all (okTop P ts us) = true) {t : TypeId} (ht : us.contains t = true) {v : Value} {d : DataW H} {p : List MemPlace}
    (hval : Value.okWide P W .any base t v) (h0 : DataW.Trod enc P W 0 (fun _ => true) true t v d p) (hwt : (d.weights P t).all (· ≤ reachBytes) = true) : ∃ q : PV, HasTy P t q ∧ q.data = true ∧ R g (κ0 W) v q := by
  have htm : t ∈ us := by simpa using ht
  obtain ⟨fuel, hf⟩ := h0
  have hok := (List.all_eq_true.1 htop) t htm
  have hsp : ∀ a len cap, Value.slice (some a) len cap ∈ v.cells.toList → a.spot = none := by
    intro a len cap ha
    unfold Value.okWide at hval
    cases hu : P.underlying t with
    | none => simp [okTop, hu] at hok
    | some d =>
      rw [hu] at hval
      cases d with
      | struct fs =>
        obtain ⟨cs, rfl, _, ts', _, _, hr⟩ := hval
        simp only [Value.cells] at ha
        obtain ⟨i, hi⟩ := List.getElem?_of_mem ha
        obtain ⟨u, _, hc⟩ := hr i _ (by simpa using hi)
        exact cell_spot hc
      | bool =>
        obtain ⟨b, rfl⟩ := okWide_bool hu (by unfold Value.okWide; rw [hu]; exact hval)
        simp [Value.cells] at ha
      | int k =>
        obtain ⟨b, rfl⟩ := okWide_int hu (by unfold Value.okWide; rw [hu]; exact hval)
        simp [Value.cells] at ha
      | string =>
        obtain ⟨b, rfl⟩ := okWide_string hu (by unfold Value.okWide; rw [hu]; exact hval)
        simp [Value.cells] at ha
      | slice e =>
        obtain ⟨a', l', c', rfl⟩ := okWide_slice hu (by unfold Value.okWide; rw [hu]; exact hval)
        simp [Value.cells] at ha
        obtain ⟨rfl, rfl, rfl⟩ := ha
        exact cell_spot hval
      | _ => simp [okTop, hu] at hok
  obtain ⟨q, hq⟩ := open_in (g := g) hin htop fuel t _ _ hf hwt (.inr ⟨htm, hsp⟩)
  refine ⟨q, hq.ty, hq.dt, ?_⟩
  have single : v.cells = #[v] → q.cells = [q] → R g (κ0 W) v q := fun h1 h2 => hq.rr 0 v q (by rw [h1]; rfl) (by rw [h2]; rfl)
  cases hu : P.underlying t with
  | none => simp [okTop, hu] at hok
  | some d =>
    cases d with
    | struct fs =>
      obtain ⟨cs, rfl, _⟩ := okWide_struct hu hval
      have hqt := hq.ty
      cases hqt with
      | agg xs ht hl hx =>
        have := hq.lf
        simp only [PV.cells] at this
        refine .agg cs (flat xs) ?_ (leafB_all this) (fun i u q a b => hq.rr i u q (by simpa [Value.cells] using a) b)
        have := hq.ln
        simp [Value.cells, PV.cells] at this; omega
      | _ => simp_all
    | bool =>
      obtain ⟨b, rfl⟩ := okWide_bool hu hval
      refine single rfl ?_
      have hqt := hq.ty
      cases hqt <;> first | rfl | simp_all
    | int k =>
      obtain ⟨b, rfl⟩ := okWide_int hu hval
      refine single rfl ?_
      have hqt := hq.ty
      cases hqt <;> first | rfl | simp_all
    | string =>
      obtain ⟨b, rfl⟩ := okWide_string hu hval
      refine single rfl ?_
      have hqt := hq.ty
      cases hqt <;> first | rfl | simp_all
    | slice e =>
      obtain ⟨a', l', c', rfl⟩ := okWide_slice hu hval
      refine single rfl ?_
      have hqt := hq.ty
      cases hqt <;> first | rfl | simp_all
    | _ => simp [okTop, hu] at hok

theorem HasTy.bytes {t e : TypeId} {q : PV} (h : HasTy P t q) (ht : P.underlying t = some (.slice e)) (he : P.underlying e = some (.int .u8)) : ∃ l, q.by = some l ∧ q.tokLt 0 = true ∧ l.length ≤ maxLen := by
  cases h with
  | nils => exact ⟨[], rfl, rfl, Nat.zero_le _⟩
  | bys l _ _ hl => exact ⟨l, rfl, rfl, hl⟩
  | sl xs h1 h2 _ _ =>
    rw [ht] at h1
    simp only [Option.some.injEq, TypeDesc.slice.injEq] at h1
    subst h1; exact absurd he h2
  | _ => simp_all
theorem HasTy.strR {t : TypeId} {q : PV} (h : HasTy P t q) (ht : P.underlying t = some .string) : ∃ s, q = .str s ∧ s.length ≤ reachBytes := by
  cases h with
  | str s h1 h2 => exact ⟨s, rfl, h2⟩
  | _ => simp_all
theorem HasTy.str' {t : TypeId} {q : PV} (h : HasTy P t q) (ht : P.underlying t = some .string) : ∃ s, q = .str s ∧ s.length ≤ maxLen := by
  obtain ⟨s, h1, h2⟩ := HasTy.strR h ht
  exact ⟨s, h1, Nat.le_trans h2 (by decide)⟩
end Go.Ab
/-
  From the evaluator's answer to a law's row: what all rows share.
-/
namespace Go.Ab
open Go.ChangeShapes Go.WideShapes Go.ChangeAt Go.RowKit
variable {P : Program} {g : GMap} {H : Type} {enc : TypeId × Value → H}

theorem args_open {W : World} {base : Nat} {ts us : List TypeId} (hin : ts.all (okIn P ts) = true) (htop : us.all (okTop P ts us) = true) : ∀ (ps : List TypeId) (vs : List Value) (ds : List (DataW H)) (q : List MemPlace) (us2 : List TypeId) (gs : List (DataW H)), ps.all us.contains = true →
    DataW.TrodAll enc P W 0 (fun _ => true) true ps vs ds q → (DataW.weightsEach P (ps ++ us2) (ds ++ gs)).all (· ≤ reachBytes) = true → (∀ (j : Nat) t v, ps[j]? = some t → vs[j]? = some v → Value.okWide P W .any base t v) →
    ∃ xs : List PV, xs.length = ps.length ∧ vs.length = ps.length ∧ ds.length = ps.length ∧ (∀ (i : Nat) (t : TypeId) (x : PV), ps[i]? = some t → xs[i]? = some x → HasTy P t x ∧ x.data = true) ∧ ∀ (i : Nat) (v : Value) (x : PV), vs[i]? = some v → xs[i]? = some x → R g (κ0 W) v x := by
  intro ps
  induction ps with
  | nil =>
    intro vs ds q us2 gs _ h _ _
    obtain ⟨rfl, rfl, rfl⟩ := trodAll_nil h
    exact ⟨[], rfl, rfl, rfl, fun i t x a => by simp at a, fun i v x a => by simp at a⟩
  | cons t ps ih =>
    intro vs ds q us2 gs hall h hwt hval
    obtain ⟨v, vs', d, ds', p, q', rfl, rfl, rfl, h0, hr⟩ := trodAll_cons h
    simp only [List.cons_append, DataW.weightsEach, List.all_append, Bool.and_eq_true] at hwt
    simp only [List.all_cons, Bool.and_eq_true] at hall
    obtain ⟨x, x1, x2, x3⟩ := open_arg (g := g) hin htop hall.1 (hval 0 t v rfl rfl) h0 hwt.1
    obtain ⟨xs, y1, y2, y3, y4, y5⟩ := ih vs' ds' q' us2 gs hall.2 hr hwt.2 (fun j t' v' a b => hval (j + 1) t' v' (by simpa using a) (by simpa using b))
    refine ⟨x :: xs, by simp [y1], by simp [y2], by simp [y3], fun i t' x' a b => ?_, fun i v' x' a b => ?_⟩
    · cases i with
      | zero => simp at a b; subst a b; exact ⟨x1, x2⟩
      | succ i => simp at a b; exact y4 i t' x' a b
    · cases i with
      | zero => simp at a b; subst a b; exact x3
      | succ i => simp at a b; exact y5 i v' x' a b

theorem trodAll_below {W W' : World} (hl : laidOutB P = true) (hb : Below W.heap.size W W') : ∀ (ps : List TypeId) (vs : List Value) (ds : List (DataW H)) (q : List MemPlace), ps.all (fun t => P.readableRec t && decide (t < P.types.size)) = true →
    DataW.TrodAll enc P W 0 (fun _ => true) true ps vs ds q → (∀ x ∈ q, x.block < W.heap.size) → DataW.TrodAll enc P W' 0 (fun b => decide (b < W.heap.size)) true ps vs ds q := by
  intro ps
  induction ps with
  | nil =>
    intro vs ds q _ h _
    obtain ⟨rfl, rfl, rfl⟩ := trodAll_nil h
    exact trodAll_mk0
  | cons t ps ih =>
    intro vs ds q hall h hlt
    obtain ⟨v, vs', d, ds', p, q', rfl, rfl, rfl, h0, hr⟩ := trodAll_cons h
    simp only [List.all_cons, Bool.and_eq_true, decide_eq_true_eq] at hall
    exact ⟨_, _, (Below.trod hl hall.1.1 hall.1.2 h0 hb (fun x hx => hlt x (by simp [hx]))), (ih vs' ds' q' (by simpa using hall.2) hr (fun x hx => hlt x (by simp [hx]))), rfl⟩

theorem post_of {s : ChangeSpec} {f : Func} {tb : TypeId} {apart : Bool} (hl : laidOutB P = true) (hread : f.params.toList.all (fun t => P.readableRec t && decide (t < P.types.size)) = true) (hres : f.resultTypes = #[tb]) (htb : P.underlying tb = some .bool)
    (hv : s.vars = []) (hfn : ∀ ds : List (DataW H), ds.length = f.params.toList.length → s.fn H ds = { results := [.lit (.bool true)], args := ds }) {W W' : World} {args : Array Value} {ds gs : List (DataW H)} {before : List MemPlace}
    (hW : DataW.Whole enc P f.params.toList s.vars apart W args.toList ds gs before) (hds : ds.length = f.params.toList.length) (hb : Below W.heap.size W W') : s.post enc P f apart true false false W args (.bool true) W' := by
  have hW0 := hW
  obtain ⟨p, q, hA, hV, rfl, hz, hn⟩ := hW
  rw [hv] at hV
  obtain ⟨rfl, rfl⟩ := trodVars_none hV
  simp only [List.append_nil] at hW0
  refine ⟨ds, [], p, [], p, [], hW0, ?_, ?_, ?_, hb.frame _, fun h => by cases h⟩
  · rw [List.append_nil, hfn ds hds, hres]
    exact trodAll_mk1 (shut_bool htb true)
  · rw [List.append_nil, hfn ds hds]
    exact trodAll_below hl hb _ _ _ _ hread hA (fun x hx => hW0.lt x hx)
  · rw [List.append_nil, hfn ds hds, hv]
    rfl
end Go.Ab
/-
  The abstract code of functions, printed by program (abgen.py, abput2.py).
-/
namespace Go.Ab

def F_addr_Right : ACFn := { nt := 28,results := [.tmp 2],body := (.seq (.region [⟨some 1,.box (.tmp 0),none⟩,⟨some 2,.mov (.const (.bool false)),none⟩]) (.seq (.region [⟨some 3,.faddr 1 (.tmp 1),none⟩,⟨some 4,.load false 1 (.tmp 3),none⟩,
 ⟨some 5,.len true (.tmp 4),none⟩,⟨some 6,.bin .leq .no (.tmp 5) (.const (.int .i64 64)),none⟩,⟨some 7,.mov (.tmp 6),none⟩,⟨some 8,.faddr 1 (.tmp 1),some (7,true)⟩,⟨some 9,.load false 1 (.tmp 8),some (7,true)⟩,
 ⟨some 10,.call (.fn 124) [(.tmp 9),(.const (.str [46])),(.fn 125)],some (7,true)⟩,⟨some 11,.pick (.tmp 7) (.tmp 10) (.const (.bool false)),none⟩,⟨some 12,.mov (.tmp 11),none⟩,⟨some 13,.faddr 2 (.tmp 1),some (12,true)⟩,
 ⟨some 14,.load false 1 (.tmp 13),some (12,true)⟩,⟨some 15,.len true (.tmp 14),some (12,true)⟩,⟨some 16,.bin .leq .no (.tmp 15) (.const (.int .i64 253)),some (12,true)⟩,⟨some 17,.pick (.tmp 12) (.tmp 16) (.const (.bool false)),none⟩,
 ⟨some 18,.mov (.tmp 17),none⟩,⟨some 19,.faddr 2 (.tmp 1),some (18,true)⟩,⟨some 20,.load false 1 (.tmp 19),some (18,true)⟩,⟨some 21,.call (.fn 124) [(.tmp 20),(.const (.str [46])),(.fn 126)],some (18,true)⟩,
 ⟨some 22,.pick (.tmp 18) (.tmp 21) (.const (.bool false)),none⟩,⟨some 23,.mov (.tmp 22),none⟩,⟨some 24,.faddr 0 (.tmp 1),some (23,true)⟩,⟨some 25,.load false 1 (.tmp 24),some (23,true)⟩,⟨some 26,.call (.fn 127) [(.tmp 25)],some (23,true)⟩,
 ⟨some 27,.pick (.tmp 23) (.tmp 26) (.const (.bool false)),none⟩,⟨some 2,.mov (.tmp 27),none⟩]) (.ret))) }

def F_addr_Normal : ACFn := { nt := 37,results := [.tmp 2],body := (.seq (.region [⟨some 1,.box (.tmp 0),none⟩,⟨some 2,.mov (.const (.str [])),none⟩]) (.seq (.seq (.region [⟨some 6,.load true 3 (.tmp 1),none⟩,⟨some 7,.call (.fn 111) [(.tmp 6)],none⟩,
 ⟨some 8,.un .not (.tmp 7),none⟩]) (.cond (.tmp 8) (.seq (.region [⟨some 2,.mov (.const (.str [])),none⟩]) (.ret)) (.skip))) (.seq (.region [⟨some 9,.faddr 1 (.tmp 1),none⟩,⟨some 10,.load false 1 (.tmp 9),none⟩,
 ⟨some 11,.bin .add .no (.tmp 10) (.const (.str [64])),none⟩,⟨some 12,.faddr 2 (.tmp 1),none⟩,⟨some 13,.load false 1 (.tmp 12),none⟩,⟨some 14,.bin .add .no (.tmp 11) (.tmp 13),none⟩,⟨some 15,.cS2B true (.tmp 14),none⟩,
 ⟨some 3,.mov (.tmp 15),none⟩]) (.seq (.seq (.region [⟨some 16,.mov (.tmp 3),none⟩,⟨some 17,.len false (.tmp 16),none⟩,⟨some 18,.mov (.const (.int .i64 0)),none⟩]) (.block 0 (.loop (.seq (.region [⟨some 19,.bin .lss .no (.tmp 18) (.tmp 17),none⟩]) (.seq (.cond (.tmp 19) (.skip) (.exit 0)) (.seq (.block 1 (.seq (.region [⟨some 20,.mov (.tmp 18),none⟩,
 ⟨some 21,.iaddr 1 (.tmp 16) (.tmp 18),none⟩,⟨some 22,.load false 1 (.tmp 21),none⟩,⟨some 4,.mov (.tmp 20),none⟩,⟨some 5,.mov (.tmp 22),none⟩]) (.seq (.region [⟨some 23,.mov (.tmp 5),none⟩,⟨some 24,.bin .geq .no (.tmp 23) (.const (.b8 65)),none⟩,
 ⟨some 25,.mov (.tmp 24),none⟩,⟨some 26,.mov (.tmp 5),some (25,true)⟩,⟨some 27,.bin .leq .no (.tmp 26) (.const (.b8 90)),some (25,true)⟩,⟨some 28,.pick (.tmp 25) (.tmp 27) (.const (.bool false)),none⟩]) (.cond (.tmp 28) (.region [⟨some 29,.mov (.tmp 3),none⟩,
 ⟨some 30,.mov (.tmp 4),none⟩,⟨some 31,.mov (.tmp 5),none⟩,⟨some 32,.bin .add .no (.tmp 31) (.const (.b8 32)),none⟩,⟨some 33,.iaddr 1 (.tmp 29) (.tmp 30),none⟩,⟨none,.store 1 (.tmp 33) (.tmp 32),none⟩]) (.skip))))) (.region [⟨some 34,.bin .add .no (.tmp 18) (.const (.int .i64 1)),none⟩,
 ⟨some 18,.mov (.tmp 34),none⟩]))))))) (.seq (.region [⟨some 35,.mov (.tmp 3),none⟩,⟨some 36,.cB2S true (.tmp 35),none⟩,⟨some 2,.mov (.tmp 36),none⟩]) (.ret)))))) }

def F_addr_Plain : ACFn := { nt := 22,results := [.cell 2 true 3,.tmp 3],body := (.seq (.region [⟨some 2,.alloc [.str [],.str [],.str []],none⟩,⟨some 3,.mov (.const (.int .i64 0)),none⟩]) (.seq (.region [⟨some 9,.mov (.tmp 0),none⟩,
 ⟨some 10,.call (.fn 128) [(.tmp 9),(.const (.str [64]))],none⟩,⟨some 8,.mov (.tmp 10),none⟩,⟨some 11,.ext 0 (.tmp 8),none⟩,⟨some 12,.ext 1 (.tmp 8),none⟩,⟨some 13,.ext 2 (.tmp 8),none⟩,⟨some 4,.mov (.tmp 11),none⟩,
 ⟨some 5,.mov (.tmp 12),none⟩,⟨some 6,.mov (.tmp 13),none⟩]) (.seq (.region [⟨some 14,.mov (.tmp 4),none⟩,⟨some 15,.mov (.tmp 5),none⟩,⟨some 16,.build [.str [],.str [],.str []] [(1,1,(.tmp 14)),(2,1,(.tmp 15))],none⟩,
 ⟨some 7,.alloc [.str [],.str [],.str []],none⟩,⟨none,.store 3 (.tmp 7) (.tmp 16),none⟩]) (.seq (.seq (.region [⟨some 17,.load true 3 (.tmp 7),none⟩,⟨some 18,.call (.fn 111) [(.tmp 17)],none⟩,⟨some 19,.un .not (.tmp 18),none⟩]) (.cond (.tmp 19) (.seq (.region [⟨some 20,.build [.str [],.str [],.str []] [],none⟩,
 ⟨none,.store 3 (.tmp 2) (.tmp 20),none⟩,⟨some 3,.mov (.const (.int .i64 60)),none⟩]) (.ret)) (.skip))) (.seq (.region [⟨some 21,.load true 3 (.tmp 7),none⟩,⟨none,.store 3 (.tmp 2) (.tmp 21),none⟩,⟨some 3,.mov (.const (.int .i64 0)),none⟩]) (.ret)))))) }

def F_addr_parts : ACFn := { nt := 22,results := [.tmp 6],body := (.seq (.region [⟨some 6,.mov (.const (.bool false)),none⟩]) (.seq (.seq (.region [⟨some 9,.mov (.tmp 0),none⟩,⟨some 10,.mov (.tmp 1),none⟩,⟨some 11,.call (.fn 133) [(.tmp 9),(.tmp 10)],none⟩,
 ⟨some 12,.len false (.tmp 11),none⟩,⟨some 13,.mov (.const (.int .i64 0)),none⟩]) (.block 0 (.loop (.seq (.region [⟨some 14,.bin .lss .no (.tmp 13) (.tmp 12),none⟩]) (.seq (.cond (.tmp 14) (.skip) (.exit 0)) (.seq (.block 1 (.seq (.region [⟨some 15,.iaddr 1 (.tmp 11) (.tmp 13),none⟩,
 ⟨some 16,.load false 1 (.tmp 15),none⟩,⟨some 8,.mov (.tmp 16),none⟩]) (.seq (.region [⟨some 17,.mov (.tmp 2),none⟩,⟨some 18,.mov (.tmp 8),none⟩,⟨some 19,.call (.tmp 17) [(.tmp 18)],none⟩,⟨some 20,.un .not (.tmp 19),none⟩]) (.cond (.tmp 20) (.seq (.region [⟨some 6,.mov (.const (.bool false)),none⟩]) (.ret)) (.skip))))) (.region [⟨some 21,.bin .add .no (.tmp 13) (.const (.int .i64 1)),none⟩,
 ⟨some 13,.mov (.tmp 21),none⟩]))))))) (.seq (.region [⟨some 6,.mov (.const (.bool true)),none⟩]) (.ret)))) }

def F_addr_isAtom : ACFn := { nt := 24,results := [.tmp 2],body := (.seq (.region [⟨some 2,.mov (.const (.bool false)),none⟩]) (.seq (.seq (.region [⟨some 4,.mov (.tmp 0),none⟩,⟨some 5,.len true (.tmp 4),none⟩,⟨some 6,.mov (.const (.int .i64 0)),none⟩]) (.block 0 (.loop (.seq (.region [⟨some 7,.bin .lss .no (.tmp 6) (.tmp 5),none⟩]) (.seq (.cond (.tmp 7) (.skip) (.exit 0)) (.seq (.block 1 (.seq (.region [⟨some 8,.mov (.tmp 6),none⟩,
 ⟨some 3,.mov (.tmp 8),none⟩]) (.seq (.region [⟨some 9,.mov (.tmp 0),none⟩,⟨some 10,.mov (.tmp 3),none⟩,⟨some 11,.idxS (.tmp 9) (.tmp 10),none⟩,⟨some 12,.call (.fn 134) [(.tmp 11)],none⟩,⟨some 13,.un .not (.tmp 12),none⟩,
 ⟨some 14,.mov (.tmp 13),none⟩,⟨some 15,.mov (.tmp 0),some (14,true)⟩,⟨some 16,.mov (.tmp 3),some (14,true)⟩,⟨some 17,.idxS (.tmp 15) (.tmp 16),some (14,true)⟩,⟨some 18,.call (.fn 78) [(.const (.str [33,35,36,37,38,39,42,43,45,47,61,63,94,95,123,124,125,126,96])),(.tmp 17)],some (14,true)⟩,
 ⟨some 19,.bin .lss .no (.tmp 18) (.const (.int .i64 0)),some (14,true)⟩,⟨some 20,.pick (.tmp 14) (.tmp 19) (.const (.bool false)),none⟩]) (.cond (.tmp 20) (.seq (.region [⟨some 2,.mov (.const (.bool false)),none⟩]) (.ret)) (.skip))))) (.region [⟨some 21,.bin .add .no (.tmp 6) (.const (.int .i64 1)),none⟩,
 ⟨some 6,.mov (.tmp 21),none⟩]))))))) (.seq (.region [⟨some 22,.mov (.tmp 0),none⟩,⟨some 23,.bin .neq .no (.tmp 22) (.const (.str [])),none⟩,⟨some 2,.mov (.tmp 23),none⟩]) (.ret)))) }

def F_addr_isLabel : ACFn := { nt := 41,results := [.tmp 2],body := (.seq (.region [⟨some 2,.mov (.const (.bool false)),none⟩]) (.seq (.seq (.region [⟨some 4,.mov (.tmp 0),none⟩,⟨some 5,.len true (.tmp 4),none⟩,⟨some 6,.mov (.const (.int .i64 0)),none⟩]) (.block 0 (.loop (.seq (.region [⟨some 7,.bin .lss .no (.tmp 6) (.tmp 5),none⟩]) (.seq (.cond (.tmp 7) (.skip) (.exit 0)) (.seq (.block 1 (.seq (.region [⟨some 8,.mov (.tmp 6),none⟩,
 ⟨some 3,.mov (.tmp 8),none⟩]) (.seq (.region [⟨some 9,.mov (.tmp 0),none⟩,⟨some 10,.mov (.tmp 3),none⟩,⟨some 11,.idxS (.tmp 9) (.tmp 10),none⟩,⟨some 12,.call (.fn 134) [(.tmp 11)],none⟩,⟨some 13,.un .not (.tmp 12),none⟩,
 ⟨some 14,.mov (.tmp 13),none⟩,⟨some 15,.mov (.tmp 0),some (14,true)⟩,⟨some 16,.mov (.tmp 3),some (14,true)⟩,⟨some 17,.idxS (.tmp 15) (.tmp 16),some (14,true)⟩,⟨some 18,.bin .neq .no (.tmp 17) (.const (.b8 45)),some (14,true)⟩,
 ⟨some 19,.pick (.tmp 14) (.tmp 18) (.const (.bool false)),none⟩]) (.cond (.tmp 19) (.seq (.region [⟨some 2,.mov (.const (.bool false)),none⟩]) (.ret)) (.skip))))) (.region [⟨some 20,.bin .add .no (.tmp 6) (.const (.int .i64 1)),none⟩,
 ⟨some 6,.mov (.tmp 20),none⟩]))))))) (.seq (.region [⟨some 21,.mov (.tmp 0),none⟩,⟨some 22,.bin .neq .no (.tmp 21) (.const (.str [])),none⟩,⟨some 23,.mov (.tmp 22),none⟩,⟨some 24,.mov (.tmp 0),some (23,true)⟩,
 ⟨some 25,.len true (.tmp 24),some (23,true)⟩,⟨some 26,.bin .leq .no (.tmp 25) (.const (.int .i64 63)),some (23,true)⟩,⟨some 27,.pick (.tmp 23) (.tmp 26) (.const (.bool false)),none⟩,⟨some 28,.mov (.tmp 27),none⟩,
 ⟨some 29,.mov (.tmp 0),some (28,true)⟩,⟨some 30,.idxS (.tmp 29) (.const (.int .i64 0)),some (28,true)⟩,⟨some 31,.bin .neq .no (.tmp 30) (.const (.b8 45)),some (28,true)⟩,⟨some 32,.pick (.tmp 28) (.tmp 31) (.const (.bool false)),none⟩,
 ⟨some 33,.mov (.tmp 32),none⟩,⟨some 34,.mov (.tmp 0),some (33,true)⟩,⟨some 35,.mov (.tmp 0),some (33,true)⟩,⟨some 36,.len true (.tmp 35),some (33,true)⟩,⟨some 37,.bin .sub .no (.tmp 36) (.const (.int .i64 1)),some (33,true)⟩,
 ⟨some 38,.idxS (.tmp 34) (.tmp 37),some (33,true)⟩,⟨some 39,.bin .neq .no (.tmp 38) (.const (.b8 45)),some (33,true)⟩,⟨some 40,.pick (.tmp 33) (.tmp 39) (.const (.bool false)),none⟩,⟨some 2,.mov (.tmp 40),none⟩]) (.ret)))) }

def F_addr_isName : ACFn := { nt := 23,results := [.tmp 2],body := (.seq (.region [⟨some 2,.mov (.const (.bool false)),none⟩]) (.seq (.seq (.region [⟨some 4,.mov (.tmp 0),none⟩,⟨some 5,.len true (.tmp 4),none⟩,⟨some 6,.mov (.const (.int .i64 0)),none⟩]) (.block 0 (.loop (.seq (.region [⟨some 7,.bin .lss .no (.tmp 6) (.tmp 5),none⟩]) (.seq (.cond (.tmp 7) (.skip) (.exit 0)) (.seq (.block 1 (.seq (.region [⟨some 8,.mov (.tmp 6),none⟩,
 ⟨some 3,.mov (.tmp 8),none⟩]) (.seq (.region [⟨some 9,.mov (.tmp 0),none⟩,⟨some 10,.mov (.tmp 3),none⟩,⟨some 11,.idxS (.tmp 9) (.tmp 10),none⟩,⟨some 12,.bin .lss .no (.tmp 11) (.const (.b8 32)),none⟩,⟨some 13,.mov (.tmp 12),none⟩,
 ⟨some 14,.mov (.tmp 0),some (13,false)⟩,⟨some 15,.mov (.tmp 3),some (13,false)⟩,⟨some 16,.idxS (.tmp 14) (.tmp 15),some (13,false)⟩,⟨some 17,.bin .gtr .no (.tmp 16) (.const (.b8 126)),some (13,false)⟩,
 ⟨some 18,.pick (.tmp 13) (.const (.bool true)) (.tmp 17),none⟩]) (.cond (.tmp 18) (.seq (.region [⟨some 2,.mov (.const (.bool false)),none⟩]) (.ret)) (.skip))))) (.region [⟨some 19,.bin .add .no (.tmp 6) (.const (.int .i64 1)),none⟩,
 ⟨some 6,.mov (.tmp 19),none⟩]))))))) (.seq (.region [⟨some 20,.mov (.tmp 0),none⟩,⟨some 21,.len true (.tmp 20),none⟩,⟨some 22,.bin .leq .no (.tmp 21) (.const (.int .i64 128)),none⟩,⟨some 2,.mov (.tmp 22),none⟩]) (.ret)))) }

def F_strings_Cut : ACFn := { nt := 13,results := [.tmp 4,.tmp 5,.tmp 6],body := (.seq (.region [⟨some 4,.mov (.const (.str [])),none⟩,⟨some 5,.mov (.const (.str [])),none⟩,⟨some 6,.mov (.const (.bool false)),none⟩]) (.seq (.region [⟨some 7,.mov (.tmp 0),none⟩,
 ⟨some 8,.mov (.tmp 1),none⟩,⟨some 9,.call (.fn 135) [(.tmp 7),(.tmp 8)],none⟩,⟨some 10,.ext 0 (.tmp 9),none⟩,⟨some 11,.ext 1 (.tmp 9),none⟩,⟨some 12,.ext 2 (.tmp 9),none⟩,⟨some 4,.mov (.tmp 10),none⟩,⟨some 5,.mov (.tmp 11),none⟩,
 ⟨some 6,.mov (.tmp 12),none⟩]) (.ret))) }

def F_addr_alnum : ACFn := { nt := 24,results := [.tmp 2],body := (.seq (.region [⟨some 2,.mov (.const (.bool false)),none⟩]) (.seq (.block 0 (.seq (.block 3 (.block 2 (.block 1 (.seq (.seq (.seq (.region [⟨some 4,.mov (.tmp 0),none⟩,
 ⟨some 5,.bin .geq .no (.tmp 4) (.const (.b8 97)),none⟩,⟨some 6,.mov (.tmp 5),none⟩,⟨some 7,.mov (.tmp 0),some (6,true)⟩,⟨some 8,.bin .leq .no (.tmp 7) (.const (.b8 122)),some (6,true)⟩,⟨some 9,.pick (.tmp 6) (.tmp 8) (.const (.bool false)),none⟩,
 ⟨some 3,.mov (.tmp 9),none⟩]) (.cond (.tmp 3) (.exit 1) (.skip))) (.seq (.seq (.region [⟨some 11,.mov (.tmp 0),none⟩,⟨some 12,.bin .geq .no (.tmp 11) (.const (.b8 65)),none⟩,⟨some 13,.mov (.tmp 12),none⟩,
 ⟨some 14,.mov (.tmp 0),some (13,true)⟩,⟨some 15,.bin .leq .no (.tmp 14) (.const (.b8 90)),some (13,true)⟩,⟨some 16,.pick (.tmp 13) (.tmp 15) (.const (.bool false)),none⟩,⟨some 10,.mov (.tmp 16),none⟩]) (.cond (.tmp 10) (.exit 2) (.skip))) (.seq (.region [⟨some 18,.mov (.tmp 0),none⟩,
 ⟨some 19,.bin .geq .no (.tmp 18) (.const (.b8 48)),none⟩,⟨some 20,.mov (.tmp 19),none⟩,⟨some 21,.mov (.tmp 0),some (20,true)⟩,⟨some 22,.bin .leq .no (.tmp 21) (.const (.b8 57)),some (20,true)⟩,⟨some 23,.pick (.tmp 20) (.tmp 22) (.const (.bool false)),none⟩,
 ⟨some 17,.mov (.tmp 23),none⟩]) (.cond (.tmp 17) (.exit 3) (.skip))))) (.exit 0))))) (.seq (.seq (.region [⟨some 2,.mov (.const (.bool true)),none⟩]) (.ret)) (.exit 0)))) (.seq (.region [⟨some 2,.mov (.const (.bool false)),none⟩]) (.ret)))) }

def F_internal_stringslite_Cut : ACFn := { nt := 23,results := [.tmp 4,.tmp 5,.tmp 6],body := (.seq (.region [⟨some 4,.mov (.const (.str [])),none⟩,⟨some 5,.mov (.const (.str [])),none⟩,⟨some 6,.mov (.const (.bool false)),none⟩]) (.seq (.seq (.region [⟨some 8,.mov (.tmp 0),none⟩,
 ⟨some 9,.mov (.tmp 1),none⟩,⟨some 10,.call (.fn 82) [(.tmp 8),(.tmp 9)],none⟩,⟨some 7,.mov (.tmp 10),none⟩]) (.seq (.region [⟨some 11,.mov (.tmp 7),none⟩,⟨some 12,.bin .geq .no (.tmp 11) (.const (.int .i64 0)),none⟩]) (.cond (.tmp 12) (.seq (.region [⟨some 13,.mov (.tmp 0),none⟩,
 ⟨some 14,.mov (.tmp 7),none⟩,⟨some 15,.slc 0 (.tmp 13) none (some (.tmp 14)) none,none⟩,⟨some 16,.mov (.tmp 0),none⟩,⟨some 17,.mov (.tmp 7),none⟩,⟨some 18,.mov (.tmp 1),none⟩,⟨some 19,.len true (.tmp 18),none⟩,
 ⟨some 20,.bin .add .no (.tmp 17) (.tmp 19),none⟩,⟨some 21,.slc 0 (.tmp 16) (some (.tmp 20)) none none,none⟩,⟨some 4,.mov (.tmp 15),none⟩,⟨some 5,.mov (.tmp 21),none⟩,⟨some 6,.mov (.const (.bool true)),none⟩]) (.ret)) (.skip)))) (.seq (.region [⟨some 22,.mov (.tmp 0),none⟩,
 ⟨some 4,.mov (.tmp 22),none⟩,⟨some 5,.mov (.const (.str [])),none⟩,⟨some 6,.mov (.const (.bool false)),none⟩]) (.ret)))) }

def F_when_Right : ACFn := { nt := 9,results := [.tmp 2],body := (.seq (.region [⟨some 2,.mov (.const (.bool false)),none⟩]) (.seq (.region [⟨some 3,.mov (.tmp 0),none⟩,⟨some 4,.bin .geq .no (.tmp 3) (.const (.int .i64 0)),none⟩,
 ⟨some 5,.mov (.tmp 4),none⟩,⟨some 6,.mov (.tmp 0),some (5,true)⟩,⟨some 7,.bin .leq .no (.tmp 6) (.const (.int .i64 253402300799)),some (5,true)⟩,⟨some 8,.pick (.tmp 5) (.tmp 7) (.const (.bool false)),none⟩,
 ⟨some 2,.mov (.tmp 8),none⟩]) (.ret))) }

end Go.Ab
/-
  The abstract code of functions, printed by program (abgen.py, abput2.py).
-/
namespace Go.Ab

def F_P_strings_Builder_WriteByte : ACFn := { nt := 17,results := [.tmp 4],body := (.seq (.region [⟨some 4,.mov (.const (.nili)),none⟩]) (.seq (.region [⟨some 5,.mov (.tmp 0),none⟩,⟨some 6,.call (.fn 73) [(.tmp 5)],none⟩]) (.seq (.region [⟨some 7,.mov (.tmp 0),none⟩,
 ⟨some 8,.mov (.tmp 0),none⟩,⟨some 9,.nilck (.tmp 8),none⟩,⟨some 10,.faddr 1 (.tmp 9),none⟩,⟨some 11,.load false 1 (.tmp 10),none⟩,⟨some 12,.mov (.tmp 1),none⟩,⟨some 13,.lit8 1 [(0,(.tmp 12))],none⟩,⟨some 14,.app true 1 (.tmp 11) (.tmp 13),none⟩,
 ⟨some 15,.nilck (.tmp 7),none⟩,⟨some 16,.faddr 1 (.tmp 15),none⟩,⟨none,.store 1 (.tmp 16) (.tmp 14),none⟩]) (.seq (.region [⟨some 4,.mov (.const (.nili)),none⟩]) (.ret))))) }

def F_P_strings_Builder_WriteString : ACFn := { nt := 19,results := [.tmp 4,.tmp 5],body := (.seq (.region [⟨some 4,.mov (.const (.int .i64 0)),none⟩,⟨some 5,.mov (.const (.nili)),none⟩]) (.seq (.region [⟨some 6,.mov (.tmp 0),none⟩,⟨some 7,.call (.fn 73) [(.tmp 6)],none⟩]) (.seq (.region [⟨some 8,.mov (.tmp 0),none⟩,
 ⟨some 9,.mov (.tmp 0),none⟩,⟨some 10,.nilck (.tmp 9),none⟩,⟨some 11,.faddr 1 (.tmp 10),none⟩,⟨some 12,.load false 1 (.tmp 11),none⟩,⟨some 13,.mov (.tmp 1),none⟩,⟨some 14,.app true 1 (.tmp 12) (.tmp 13),none⟩,
 ⟨some 15,.nilck (.tmp 8),none⟩,⟨some 16,.faddr 1 (.tmp 15),none⟩,⟨none,.store 1 (.tmp 16) (.tmp 14),none⟩]) (.seq (.region [⟨some 17,.mov (.tmp 1),none⟩,⟨some 18,.len true (.tmp 17),none⟩,⟨some 4,.mov (.tmp 18),none⟩,
 ⟨some 5,.mov (.const (.nili)),none⟩]) (.ret))))) }

def F_strings_HasPrefix : ACFn := { nt := 8,results := [.tmp 4],body := (.seq (.region [⟨some 4,.mov (.const (.bool false)),none⟩]) (.seq (.region [⟨some 5,.mov (.tmp 0),none⟩,⟨some 6,.mov (.tmp 1),none⟩,⟨some 7,.call (.fn 79) [(.tmp 5),(.tmp 6)],none⟩,
 ⟨some 4,.mov (.tmp 7),none⟩]) (.ret))) }

def F_internal_stringslite_HasPrefix : ACFn := { nt := 18,results := [.tmp 4],body := (.seq (.region [⟨some 4,.mov (.const (.bool false)),none⟩]) (.seq (.region [⟨some 5,.mov (.tmp 0),none⟩,⟨some 6,.len true (.tmp 5),none⟩,⟨some 7,.mov (.tmp 1),none⟩,
 ⟨some 8,.len true (.tmp 7),none⟩,⟨some 9,.bin .geq .no (.tmp 6) (.tmp 8),none⟩,⟨some 10,.mov (.tmp 9),none⟩,⟨some 11,.mov (.tmp 0),some (10,true)⟩,⟨some 12,.mov (.tmp 1),some (10,true)⟩,⟨some 13,.len true (.tmp 12),some (10,true)⟩,
 ⟨some 14,.slc 0 (.tmp 11) none (some (.tmp 13)) none,some (10,true)⟩,⟨some 15,.mov (.tmp 1),some (10,true)⟩,⟨some 16,.bin .eql .no (.tmp 14) (.tmp 15),some (10,true)⟩,⟨some 17,.pick (.tmp 10) (.tmp 16) (.const (.bool false)),none⟩,
 ⟨some 4,.mov (.tmp 17),none⟩]) (.ret))) }

def F_internal_stringslite_HasSuffix : ACFn := { nt := 21,results := [.tmp 4],body := (.seq (.region [⟨some 4,.mov (.const (.bool false)),none⟩]) (.seq (.region [⟨some 5,.mov (.tmp 0),none⟩,⟨some 6,.len true (.tmp 5),none⟩,⟨some 7,.mov (.tmp 1),none⟩,
 ⟨some 8,.len true (.tmp 7),none⟩,⟨some 9,.bin .geq .no (.tmp 6) (.tmp 8),none⟩,⟨some 10,.mov (.tmp 9),none⟩,⟨some 11,.mov (.tmp 0),some (10,true)⟩,⟨some 12,.mov (.tmp 0),some (10,true)⟩,⟨some 13,.len true (.tmp 12),some (10,true)⟩,
 ⟨some 14,.mov (.tmp 1),some (10,true)⟩,⟨some 15,.len true (.tmp 14),some (10,true)⟩,⟨some 16,.bin .sub .no (.tmp 13) (.tmp 15),some (10,true)⟩,⟨some 17,.slc 0 (.tmp 11) (some (.tmp 16)) none none,some (10,true)⟩,
 ⟨some 18,.mov (.tmp 1),some (10,true)⟩,⟨some 19,.bin .eql .no (.tmp 17) (.tmp 18),some (10,true)⟩,⟨some 20,.pick (.tmp 10) (.tmp 19) (.const (.bool false)),none⟩,⟨some 4,.mov (.tmp 20),none⟩]) (.ret))) }

def F_fields_Write : ACFn := { nt := 71,results := [.tmp 2,.tmp 3],body := (.seq (.region [⟨some 2,.mov (.const (.nils)),none⟩,⟨some 3,.mov (.const (.int .i64 0)),none⟩]) (.seq (.seq (.region [⟨some 12,.mov (.tmp 0),none⟩,⟨some 13,.len false (.tmp 12),none⟩,
 ⟨some 14,.bin .gtr .no (.tmp 13) (.const (.int .i64 128)),none⟩]) (.cond (.tmp 14) (.seq (.region [⟨some 2,.mov (.const (.nils)),none⟩,⟨some 3,.mov (.const (.int .i64 2)),none⟩]) (.ret)) (.skip))) (.seq (.seq (.region [⟨some 15,.mov (.tmp 0),none⟩,
 ⟨some 16,.len false (.tmp 15),none⟩,⟨some 17,.mov (.const (.int .i64 0)),none⟩]) (.block 0 (.loop (.seq (.region [⟨some 18,.bin .lss .no (.tmp 17) (.tmp 16),none⟩]) (.seq (.cond (.tmp 18) (.skip) (.exit 0)) (.seq (.block 1 (.seq (.region [⟨some 19,.iaddr 2 (.tmp 15) (.tmp 17),none⟩,
 ⟨some 20,.load true 2 (.tmp 19),none⟩,⟨some 5,.alloc [.str [],.str []],none⟩,⟨none,.store 2 (.tmp 5) (.tmp 20),none⟩]) (.seq (.region [⟨some 21,.faddr 0 (.tmp 5),none⟩,⟨some 22,.load false 1 (.tmp 21),none⟩,
 ⟨some 23,.call (.fn 157) [(.tmp 22)],none⟩,⟨some 24,.un .not (.tmp 23),none⟩,⟨some 25,.mov (.tmp 24),none⟩,⟨some 26,.faddr 1 (.tmp 5),some (25,false)⟩,⟨some 27,.load false 1 (.tmp 26),some (25,false)⟩,
 ⟨some 28,.call (.fn 158) [(.tmp 27)],some (25,false)⟩,⟨some 29,.un .not (.tmp 28),some (25,false)⟩,⟨some 30,.pick (.tmp 25) (.const (.bool true)) (.tmp 29),none⟩]) (.cond (.tmp 30) (.seq (.region [⟨some 2,.mov (.const (.nils)),none⟩,
 ⟨some 3,.mov (.const (.int .i64 50)),none⟩]) (.ret)) (.skip))))) (.region [⟨some 31,.bin .add .no (.tmp 17) (.const (.int .i64 1)),none⟩,⟨some 17,.mov (.tmp 31),none⟩]))))))) (.seq (.region [⟨some 6,.mov (.const (.nils)),none⟩]) (.seq (.seq (.region [⟨some 32,.mov (.tmp 0),none⟩,
 ⟨some 33,.len false (.tmp 32),none⟩,⟨some 34,.mov (.const (.int .i64 0)),none⟩]) (.block 2 (.loop (.seq (.region [⟨some 35,.bin .lss .no (.tmp 34) (.tmp 33),none⟩]) (.seq (.cond (.tmp 35) (.skip) (.exit 2)) (.seq (.block 3 (.seq (.region [⟨some 36,.iaddr 2 (.tmp 32) (.tmp 34),none⟩,
 ⟨some 37,.load true 2 (.tmp 36),none⟩,⟨some 8,.alloc [.str [],.str []],none⟩,⟨none,.store 2 (.tmp 8) (.tmp 37),none⟩]) (.seq (.region [⟨some 38,.faddr 0 (.tmp 8),none⟩,⟨some 39,.load false 1 (.tmp 38),none⟩,
 ⟨some 40,.bin .add .no (.tmp 39) (.const (.str [58])),none⟩,⟨some 9,.mov (.tmp 40),none⟩]) (.seq (.seq (.region [⟨some 41,.faddr 1 (.tmp 8),none⟩,⟨some 42,.load false 1 (.tmp 41),none⟩,⟨some 43,.bin .neq .no (.tmp 42) (.const (.str [])),none⟩]) (.cond (.tmp 43) (.region [⟨some 44,.mov (.tmp 9),none⟩,
 ⟨some 45,.faddr 1 (.tmp 8),none⟩,⟨some 46,.load false 1 (.tmp 45),none⟩,⟨some 47,.bin .add .no (.const (.str [32])) (.tmp 46),none⟩,⟨some 48,.bin .add .no (.tmp 44) (.tmp 47),none⟩,⟨some 9,.mov (.tmp 48),none⟩]) (.skip))) (.seq (.region [⟨some 49,.mov (.tmp 9),none⟩,
 ⟨some 50,.faddr 0 (.tmp 8),none⟩,⟨some 51,.load false 1 (.tmp 50),none⟩,⟨some 52,.len true (.tmp 51),none⟩,⟨some 53,.bin .add .no (.tmp 52) (.const (.int .i64 3)),none⟩,⟨some 54,.call (.fn 159) [(.tmp 49),(.tmp 53)],none⟩,
 ⟨some 55,.len false (.tmp 54),none⟩,⟨some 56,.mov (.const (.int .i64 0)),none⟩]) (.block 4 (.loop (.seq (.region [⟨some 57,.bin .lss .no (.tmp 56) (.tmp 55),none⟩]) (.seq (.cond (.tmp 57) (.skip) (.exit 4)) (.seq (.block 5 (.seq (.region [⟨some 58,.iaddr 1 (.tmp 54) (.tmp 56),none⟩,
 ⟨some 59,.load false 1 (.tmp 58),none⟩,⟨some 11,.mov (.tmp 59),none⟩]) (.seq (.seq (.region [⟨some 60,.mov (.tmp 11),none⟩,⟨some 61,.len true (.tmp 60),none⟩,⟨some 62,.bin .gtr .no (.tmp 61) (.const (.int .i64 998)),none⟩]) (.cond (.tmp 62) (.seq (.region [⟨some 2,.mov (.const (.nils)),none⟩,
 ⟨some 3,.mov (.const (.int .i64 40)),none⟩]) (.ret)) (.skip))) (.region [⟨some 63,.mov (.tmp 6),none⟩,⟨some 64,.mov (.tmp 11),none⟩,⟨some 65,.app true 1 (.tmp 63) (.tmp 64),none⟩,⟨some 66,.app true 1 (.tmp 65) (.const (.str [13,10])),none⟩,
 ⟨some 6,.mov (.tmp 66),none⟩])))) (.region [⟨some 67,.bin .add .no (.tmp 56) (.const (.int .i64 1)),none⟩,⟨some 56,.mov (.tmp 67),none⟩]))))))))))) (.region [⟨some 68,.bin .add .no (.tmp 34) (.const (.int .i64 1)),none⟩,
 ⟨some 34,.mov (.tmp 68),none⟩]))))))) (.seq (.region [⟨some 69,.mov (.tmp 6),none⟩,⟨some 70,.app true 1 (.tmp 69) (.const (.str [13,10])),none⟩,⟨some 2,.mov (.tmp 70),none⟩,⟨some 3,.mov (.const (.int .i64 0)),none⟩]) (.ret))))))) }

def F_fields_Parse : ACFn := { nt := 57,results := [.tmp 2,.tmp 3,.cell 4 true 2],body := (.seq (.region [⟨some 2,.mov (.const (.nils)),none⟩,⟨some 3,.mov (.const (.int .i64 0)),none⟩,⟨some 4,.alloc [.int .i64 0,.int .i64 0],none⟩]) (.scope (.seq (.region [⟨some 10,.build [.nils,.str [],.str [],.int .i64 0,.bool false] [],none⟩,
 ⟨some 11,.box (.tmp 10),none⟩,⟨some 5,.alloc [.nilp],none⟩,⟨none,.store 1 (.tmp 5) (.tmp 11),none⟩]) (.seq (.region [⟨some 6,.alloc [.int .i64 0,.int .i64 0],none⟩]) (.seq (.region [⟨some 7,.alloc [.int .i64 0],none⟩,
 ⟨none,.store 1 (.tmp 7) (.const (.int .i64 0)),none⟩]) (.seq (.label 0) (.seq (.seq (.region [⟨some 12,.mov (.tmp 0),none⟩,⟨some 13,.call (.fn 164) [(.tmp 12)],none⟩]) (.block 0 (.rangeFunc (.tmp 13) [14,15] (.seq (.region [⟨some 8,.mov (.tmp 14),none⟩]) (.region [⟨some 9,.mov (.tmp 15),none⟩])) (.block 1 (.seq (.block 2 (.seq (.region [⟨some 26,.mov (.tmp 9),none⟩,
 ⟨some 27,.bin .eql .slice (.tmp 26) (.const (.nils)),none⟩,⟨some 25,.mov (.tmp 27),none⟩]) (.cond (.tmp 25) (.region [⟨some 28,.mov (.tmp 8),none⟩,⟨some 29,.build [.int .i64 0,.int .i64 0] [(0,1,(.tmp 28)),(1,1,(.const (.int .i64 42)))],none⟩,
 ⟨none,.store 2 (.tmp 6) (.tmp 29),none⟩]) (.seq (.region [⟨some 31,.mov (.tmp 9),none⟩,⟨some 32,.len false (.tmp 31),none⟩,⟨some 33,.bin .eql .no (.tmp 32) (.const (.int .i64 2)),none⟩,⟨some 30,.mov (.tmp 33),none⟩]) (.cond (.tmp 30) (.seq (.region [⟨some 34,.load false 1 (.tmp 5),none⟩,
 ⟨some 35,.call (.fn 165) [(.tmp 34)],none⟩,⟨none,.store 2 (.tmp 6) (.tmp 35),none⟩]) (.seq (.region [⟨some 36,.mov (.tmp 8),none⟩,⟨some 37,.bin .add .no (.tmp 36) (.const (.int .i64 2)),none⟩,⟨none,.store 1 (.tmp 7) (.tmp 37),none⟩]) (.exit 0))) (.seq (.region [⟨some 39,.mov (.tmp 9),none⟩,
 ⟨some 40,.len false (.tmp 39),none⟩,⟨some 41,.bin .gtr .no (.tmp 40) (.const (.int .i64 1000)),none⟩,⟨some 38,.mov (.tmp 41),none⟩]) (.cond (.tmp 38) (.region [⟨some 42,.mov (.tmp 8),none⟩,⟨some 43,.build [.int .i64 0,.int .i64 0] [(0,1,(.tmp 42)),(1,1,(.const (.int .i64 40)))],none⟩,
 ⟨none,.store 2 (.tmp 6) (.tmp 43),none⟩]) (.region [⟨some 16,.load false 1 (.tmp 5),none⟩,⟨some 17,.mov (.tmp 8),none⟩,⟨some 18,.mov (.tmp 9),none⟩,⟨some 19,.mov (.tmp 9),none⟩,⟨some 20,.len false (.tmp 19),none⟩,
 ⟨some 21,.bin .sub .no (.tmp 20) (.const (.int .i64 2)),none⟩,⟨some 22,.slc 1 (.tmp 18) none (some (.tmp 21)) none,none⟩,⟨some 23,.cB2S false (.tmp 22),none⟩,⟨some 24,.call (.fn 166) [(.tmp 16),(.tmp 17),(.tmp 23)],none⟩,
 ⟨none,.store 2 (.tmp 6) (.tmp 24),none⟩])))))))) (.seq (.region [⟨some 44,.faddr 1 (.tmp 6),none⟩,⟨some 45,.load false 1 (.tmp 44),none⟩,⟨some 46,.bin .neq .no (.tmp 45) (.const (.int .i64 0)),none⟩]) (.cond (.tmp 46) (.exit 0) (.skip)))))))) (.seq (.seq (.region [⟨some 47,.faddr 1 (.tmp 6),none⟩,
 ⟨some 48,.load false 1 (.tmp 47),none⟩,⟨some 49,.bin .neq .no (.tmp 48) (.const (.int .i64 0)),none⟩]) (.cond (.tmp 49) (.seq (.region [⟨some 50,.load true 2 (.tmp 6),none⟩,⟨some 2,.mov (.const (.nils)),none⟩,
 ⟨some 3,.mov (.const (.int .i64 0)),none⟩,⟨none,.store 2 (.tmp 4) (.tmp 50),none⟩]) (.ret)) (.skip))) (.seq (.region [⟨some 51,.load false 1 (.tmp 5),none⟩,⟨some 52,.nilck (.tmp 51),none⟩,⟨some 53,.faddr 0 (.tmp 52),none⟩,
 ⟨some 54,.load false 1 (.tmp 53),none⟩,⟨some 55,.load false 1 (.tmp 7),none⟩,⟨some 56,.load true 2 (.tmp 6),none⟩,⟨some 2,.mov (.tmp 54),none⟩,⟨some 3,.mov (.tmp 55),none⟩,⟨none,.store 2 (.tmp 4) (.tmp 56),none⟩]) (.ret)))))))))) }

def F_fields_Same : ACFn := { nt := 10,results := [.tmp 4],body := (.seq (.region [⟨some 4,.mov (.const (.bool false)),none⟩]) (.seq (.region [⟨some 5,.mov (.tmp 0),none⟩,⟨some 6,.call (.fn 167) [(.tmp 5)],none⟩,⟨some 7,.mov (.tmp 1),none⟩,
 ⟨some 8,.call (.fn 167) [(.tmp 7)],none⟩,⟨some 9,.bin .eql .no (.tmp 6) (.tmp 8),none⟩,⟨some 4,.mov (.tmp 9),none⟩]) (.ret))) }

def F_fields_isName : ACFn := { nt := 34,results := [.tmp 2],body := (.seq (.region [⟨some 2,.mov (.const (.bool false)),none⟩]) (.seq (.seq (.region [⟨some 4,.mov (.tmp 0),none⟩,⟨some 5,.len true (.tmp 4),none⟩,⟨some 6,.bin .lss .no (.tmp 5) (.const (.int .i64 1)),none⟩,
 ⟨some 7,.mov (.tmp 6),none⟩,⟨some 8,.mov (.tmp 0),some (7,false)⟩,⟨some 9,.len true (.tmp 8),some (7,false)⟩,⟨some 10,.bin .gtr .no (.tmp 9) (.const (.int .i64 64)),some (7,false)⟩,⟨some 11,.pick (.tmp 7) (.const (.bool true)) (.tmp 10),none⟩]) (.cond (.tmp 11) (.seq (.region [⟨some 2,.mov (.const (.bool false)),none⟩]) (.ret)) (.skip))) (.seq (.seq (.region [⟨some 12,.mov (.tmp 0),none⟩,
 ⟨some 13,.len true (.tmp 12),none⟩,⟨some 14,.mov (.const (.int .i64 0)),none⟩]) (.block 0 (.loop (.seq (.region [⟨some 15,.bin .lss .no (.tmp 14) (.tmp 13),none⟩]) (.seq (.cond (.tmp 15) (.skip) (.exit 0)) (.seq (.block 1 (.seq (.region [⟨some 16,.mov (.tmp 14),none⟩,
 ⟨some 3,.mov (.tmp 16),none⟩]) (.seq (.region [⟨some 17,.mov (.tmp 0),none⟩,⟨some 18,.mov (.tmp 3),none⟩,⟨some 19,.idxS (.tmp 17) (.tmp 18),none⟩,⟨some 20,.bin .lss .no (.tmp 19) (.const (.b8 33)),none⟩,
 ⟨some 21,.mov (.tmp 20),none⟩,⟨some 22,.mov (.tmp 0),some (21,false)⟩,⟨some 23,.mov (.tmp 3),some (21,false)⟩,⟨some 24,.idxS (.tmp 22) (.tmp 23),some (21,false)⟩,⟨some 25,.bin .gtr .no (.tmp 24) (.const (.b8 126)),some (21,false)⟩,
 ⟨some 26,.pick (.tmp 21) (.const (.bool true)) (.tmp 25),none⟩,⟨some 27,.mov (.tmp 26),none⟩,⟨some 28,.mov (.tmp 0),some (27,false)⟩,⟨some 29,.mov (.tmp 3),some (27,false)⟩,⟨some 30,.idxS (.tmp 28) (.tmp 29),some (27,false)⟩,
 ⟨some 31,.bin .eql .no (.tmp 30) (.const (.b8 58)),some (27,false)⟩,⟨some 32,.pick (.tmp 27) (.const (.bool true)) (.tmp 31),none⟩]) (.cond (.tmp 32) (.seq (.region [⟨some 2,.mov (.const (.bool false)),none⟩]) (.ret)) (.skip))))) (.region [⟨some 33,.bin .add .no (.tmp 14) (.const (.int .i64 1)),none⟩,
 ⟨some 14,.mov (.tmp 33),none⟩]))))))) (.seq (.region [⟨some 2,.mov (.const (.bool true)),none⟩]) (.ret))))) }

def F_fields_isValue : ACFn := { nt := 35,results := [.tmp 2],body := (.seq (.region [⟨some 2,.mov (.const (.bool false)),none⟩]) (.seq (.seq (.region [⟨some 4,.mov (.tmp 0),none⟩,⟨some 5,.len true (.tmp 4),none⟩,⟨some 6,.mov (.const (.int .i64 0)),none⟩]) (.block 0 (.loop (.seq (.region [⟨some 7,.bin .lss .no (.tmp 6) (.tmp 5),none⟩]) (.seq (.cond (.tmp 7) (.skip) (.exit 0)) (.seq (.block 1 (.seq (.region [⟨some 8,.mov (.tmp 6),none⟩,
 ⟨some 3,.mov (.tmp 8),none⟩]) (.seq (.region [⟨some 9,.mov (.tmp 0),none⟩,⟨some 10,.mov (.tmp 3),none⟩,⟨some 11,.idxS (.tmp 9) (.tmp 10),none⟩,⟨some 12,.bin .neq .no (.tmp 11) (.const (.b8 9)),none⟩,⟨some 13,.mov (.tmp 12),none⟩,
 ⟨some 14,.mov (.tmp 0),some (13,true)⟩,⟨some 15,.mov (.tmp 3),some (13,true)⟩,⟨some 16,.idxS (.tmp 14) (.tmp 15),some (13,true)⟩,⟨some 17,.bin .lss .no (.tmp 16) (.const (.b8 32)),some (13,true)⟩,⟨some 18,.mov (.tmp 17),some (13,true)⟩,
 ⟨some 19,.mov (.tmp 0),some (18,false)⟩,⟨some 20,.mov (.tmp 3),some (18,false)⟩,⟨some 21,.idxS (.tmp 19) (.tmp 20),some (18,false)⟩,⟨some 22,.bin .gtr .no (.tmp 21) (.const (.b8 126)),some (18,false)⟩,
 ⟨some 23,.pick (.tmp 18) (.const (.bool true)) (.tmp 22),some (13,true)⟩,⟨some 24,.pick (.tmp 13) (.tmp 23) (.const (.bool false)),none⟩]) (.cond (.tmp 24) (.seq (.region [⟨some 2,.mov (.const (.bool false)),none⟩]) (.ret)) (.skip))))) (.region [⟨some 25,.bin .add .no (.tmp 6) (.const (.int .i64 1)),none⟩,
 ⟨some 6,.mov (.tmp 25),none⟩]))))))) (.seq (.region [⟨some 26,.mov (.tmp 0),none⟩,⟨some 27,.len true (.tmp 26),none⟩,⟨some 28,.bin .leq .no (.tmp 27) (.const (.int .i64 4096)),none⟩,⟨some 29,.mov (.tmp 28),none⟩,
 ⟨some 30,.mov (.tmp 0),some (29,true)⟩,⟨some 31,.call (.fn 168) [(.tmp 30)],some (29,true)⟩,⟨some 32,.mov (.tmp 0),some (29,true)⟩,⟨some 33,.bin .eql .no (.tmp 31) (.tmp 32),some (29,true)⟩,⟨some 34,.pick (.tmp 29) (.tmp 33) (.const (.bool false)),none⟩,
 ⟨some 2,.mov (.tmp 34),none⟩]) (.ret)))) }

def F_fields_fold : ACFn := { nt := 41,results := [.tmp 4],body := (.seq (.region [⟨some 4,.mov (.const (.nils)),none⟩]) (.seq (.region [⟨some 5,.mov (.const (.nils)),none⟩]) (.seq (.block 0 (.loop (.seq (.seq (.region [⟨some 7,.mov (.tmp 0),none⟩,
 ⟨some 8,.len true (.tmp 7),none⟩,⟨some 9,.bin .gtr .no (.tmp 8) (.const (.int .i64 76)),none⟩]) (.cond (.tmp 9) (.skip) (.exit 0))) (.block 1 (.seq (.region [⟨some 10,.mov (.tmp 0),none⟩,⟨some 11,.slc 0 (.tmp 10) none (some (.const (.int .i64 77))) none,none⟩,
 ⟨some 12,.call (.fn 169) [(.tmp 11),(.const (.b8 32))],none⟩,⟨some 6,.mov (.tmp 12),none⟩]) (.seq (.seq (.region [⟨some 13,.mov (.tmp 6),none⟩,⟨some 14,.mov (.tmp 1),none⟩,⟨some 15,.bin .lss .no (.tmp 13) (.tmp 14),none⟩]) (.cond (.tmp 15) (.seq (.region [⟨some 16,.mov (.tmp 0),none⟩,
 ⟨some 17,.mov (.tmp 1),none⟩,⟨some 18,.mnmx true [(.tmp 17),(.const (.int .i64 77))],none⟩,⟨some 19,.slc 0 (.tmp 16) (some (.tmp 18)) none none,none⟩,⟨some 20,.call (.fn 78) [(.tmp 19),(.const (.b8 32))],none⟩,
 ⟨some 21,.mov (.tmp 1),none⟩,⟨some 22,.mnmx true [(.tmp 21),(.const (.int .i64 77))],none⟩,⟨some 23,.bin .add .no (.tmp 20) (.tmp 22),none⟩,⟨some 6,.mov (.tmp 23),none⟩]) (.seq (.region [⟨some 24,.mov (.tmp 6),none⟩,
 ⟨some 25,.mov (.tmp 1),none⟩,⟨some 26,.mnmx true [(.tmp 25),(.const (.int .i64 77))],none⟩,⟨some 27,.bin .lss .no (.tmp 24) (.tmp 26),none⟩]) (.cond (.tmp 27) (.exit 0) (.skip)))) (.skip))) (.seq (.region [⟨some 28,.mov (.tmp 5),none⟩,
 ⟨some 29,.mov (.tmp 0),none⟩,⟨some 30,.mov (.tmp 6),none⟩,⟨some 31,.slc 0 (.tmp 29) none (some (.tmp 30)) none,none⟩,⟨some 32,.lit 1 (.str []) 1 [(0,(.tmp 31))],none⟩,⟨some 33,.app false 1 (.tmp 28) (.tmp 32),none⟩,
 ⟨some 5,.mov (.tmp 33),none⟩]) (.seq (.region [⟨some 34,.mov (.tmp 0),none⟩,⟨some 35,.mov (.tmp 6),none⟩,⟨some 36,.slc 0 (.tmp 34) (some (.tmp 35)) none none,none⟩,⟨some 0,.mov (.tmp 36),none⟩]) (.region [⟨some 1,.mov (.const (.int .i64 1)),none⟩]))))))))) (.seq (.region [⟨some 37,.mov (.tmp 5),none⟩,
 ⟨some 38,.mov (.tmp 0),none⟩,⟨some 39,.lit 1 (.str []) 1 [(0,(.tmp 38))],none⟩,⟨some 40,.app false 1 (.tmp 37) (.tmp 39),none⟩,⟨some 4,.mov (.tmp 40),none⟩]) (.ret))))) }

def F_fields_lines : ACFn := { nt := 4,results := [.tmp 2],body := (.seq (.region [⟨some 1,.box (.tmp 0),none⟩,⟨some 2,.mov (.const (.nilf)),none⟩]) (.seq (.region [⟨some 3,.mkfn 171 [(.tmp 1)],none⟩,⟨some 2,.mov (.tmp 3),none⟩]) (.ret))) }

def F_P_fields_reader_shut : ACFn := { nt := 56,results := [.cell 2 true 2],body := (.seq (.region [⟨some 2,.alloc [.int .i64 0,.int .i64 0],none⟩]) (.seq (.seq (.region [⟨some 3,.mov (.tmp 0),none⟩,⟨some 4,.nilck (.tmp 3),none⟩,⟨some 5,.faddr 4 (.tmp 4),none⟩,
 ⟨some 6,.load false 1 (.tmp 5),none⟩,⟨some 7,.un .not (.tmp 6),none⟩]) (.cond (.tmp 7) (.seq (.region [⟨some 8,.build [.int .i64 0,.int .i64 0] [],none⟩,⟨none,.store 2 (.tmp 2) (.tmp 8),none⟩]) (.ret)) (.skip))) (.seq (.region [⟨some 9,.mov (.tmp 0),none⟩,
 ⟨some 10,.nilck (.tmp 9),none⟩,⟨some 11,.faddr 4 (.tmp 10),none⟩,⟨none,.store 1 (.tmp 11) (.const (.bool false)),none⟩]) (.seq (.region [⟨some 12,.mov (.tmp 0),none⟩,⟨some 13,.mov (.tmp 0),none⟩,⟨some 14,.nilck (.tmp 13),none⟩,
 ⟨some 15,.faddr 1 (.tmp 14),none⟩,⟨some 16,.faddr 1 (.tmp 15),none⟩,⟨some 17,.load false 1 (.tmp 16),none⟩,⟨some 18,.call (.fn 168) [(.tmp 17)],none⟩,⟨some 19,.nilck (.tmp 12),none⟩,⟨some 20,.faddr 1 (.tmp 19),none⟩,
 ⟨some 21,.faddr 1 (.tmp 20),none⟩,⟨none,.store 1 (.tmp 21) (.tmp 18),none⟩]) (.seq (.seq (.region [⟨some 22,.mov (.tmp 0),none⟩,⟨some 23,.nilck (.tmp 22),none⟩,⟨some 24,.faddr 1 (.tmp 23),none⟩,⟨some 25,.faddr 1 (.tmp 24),none⟩,
 ⟨some 26,.load false 1 (.tmp 25),none⟩,⟨some 27,.call (.fn 158) [(.tmp 26)],none⟩,⟨some 28,.un .not (.tmp 27),none⟩,⟨some 29,.mov (.tmp 28),none⟩,⟨some 30,.mov (.tmp 0),some (29,false)⟩,⟨some 31,.nilck (.tmp 30),some (29,false)⟩,
 ⟨some 32,.faddr 0 (.tmp 31),some (29,false)⟩,⟨some 33,.load false 1 (.tmp 32),some (29,false)⟩,⟨some 34,.len false (.tmp 33),some (29,false)⟩,⟨some 35,.bin .geq .no (.tmp 34) (.const (.int .i64 128)),some (29,false)⟩,
 ⟨some 36,.pick (.tmp 29) (.const (.bool true)) (.tmp 35),none⟩]) (.cond (.tmp 36) (.seq (.region [⟨some 37,.mov (.tmp 0),none⟩,⟨some 38,.nilck (.tmp 37),none⟩,⟨some 39,.faddr 3 (.tmp 38),none⟩,⟨some 40,.load false 1 (.tmp 39),none⟩,
 ⟨some 41,.build [.int .i64 0,.int .i64 0] [(0,1,(.tmp 40)),(1,1,(.const (.int .i64 50)))],none⟩,⟨none,.store 2 (.tmp 2) (.tmp 41),none⟩]) (.ret)) (.skip))) (.seq (.region [⟨some 42,.mov (.tmp 0),none⟩,
 ⟨some 43,.mov (.tmp 0),none⟩,⟨some 44,.nilck (.tmp 43),none⟩,⟨some 45,.faddr 0 (.tmp 44),none⟩,⟨some 46,.load false 1 (.tmp 45),none⟩,⟨some 47,.mov (.tmp 0),none⟩,⟨some 48,.nilck (.tmp 47),none⟩,⟨some 49,.faddr 1 (.tmp 48),none⟩,
 ⟨some 50,.load true 2 (.tmp 49),none⟩,⟨some 51,.lit 2 (.agg [.str [],.str []]) 1 [(0,(.tmp 50))],none⟩,⟨some 52,.app false 2 (.tmp 46) (.tmp 51),none⟩,⟨some 53,.nilck (.tmp 42),none⟩,⟨some 54,.faddr 0 (.tmp 53),none⟩,
 ⟨none,.store 1 (.tmp 54) (.tmp 52),none⟩]) (.seq (.region [⟨some 55,.build [.int .i64 0,.int .i64 0] [],none⟩,⟨none,.store 2 (.tmp 2) (.tmp 55),none⟩]) (.ret)))))))) }

def F_P_fields_reader_line : ACFn := { nt := 72,results := [.cell 6 true 2],body := (.seq (.region [⟨some 6,.alloc [.int .i64 0,.int .i64 0],none⟩]) (.seq (.seq (.region [⟨some 11,.mov (.tmp 2),none⟩,⟨some 12,.idxS (.tmp 11) (.const (.int .i64 0)),none⟩,
 ⟨some 13,.bin .eql .no (.tmp 12) (.const (.b8 32)),none⟩,⟨some 14,.mov (.tmp 13),none⟩,⟨some 15,.mov (.tmp 2),some (14,false)⟩,⟨some 16,.idxS (.tmp 15) (.const (.int .i64 0)),some (14,false)⟩,⟨some 17,.bin .eql .no (.tmp 16) (.const (.b8 9)),some (14,false)⟩,
 ⟨some 18,.pick (.tmp 14) (.const (.bool true)) (.tmp 17),none⟩]) (.cond (.tmp 18) (.seq (.seq (.region [⟨some 19,.mov (.tmp 0),none⟩,⟨some 20,.nilck (.tmp 19),none⟩,⟨some 21,.faddr 4 (.tmp 20),none⟩,⟨some 22,.load false 1 (.tmp 21),none⟩,
 ⟨some 23,.un .not (.tmp 22),none⟩]) (.cond (.tmp 23) (.seq (.region [⟨some 24,.mov (.tmp 1),none⟩,⟨some 25,.build [.int .i64 0,.int .i64 0] [(0,1,(.tmp 24)),(1,1,(.const (.int .i64 50)))],none⟩,⟨none,.store 2 (.tmp 6) (.tmp 25),none⟩]) (.ret)) (.skip))) (.seq (.region [⟨some 26,.mov (.tmp 0),none⟩,
 ⟨some 27,.nilck (.tmp 26),none⟩,⟨some 28,.faddr 1 (.tmp 27),none⟩,⟨some 29,.faddr 1 (.tmp 28),none⟩,⟨some 30,.load false 1 (.tmp 29),none⟩,⟨some 31,.mov (.tmp 2),none⟩,⟨some 32,.bin .add .no (.tmp 30) (.tmp 31),none⟩,
 ⟨some 33,.nilck (.tmp 26),none⟩,⟨some 34,.faddr 1 (.tmp 33),none⟩,⟨some 35,.faddr 1 (.tmp 34),none⟩,⟨none,.store 1 (.tmp 35) (.tmp 32),none⟩]) (.seq (.region [⟨some 36,.build [.int .i64 0,.int .i64 0] [],none⟩,
 ⟨none,.store 2 (.tmp 6) (.tmp 36),none⟩]) (.ret)))) (.skip))) (.seq (.seq (.region [⟨some 37,.mov (.tmp 0),none⟩,⟨some 38,.call (.fn 165) [(.tmp 37)],none⟩,⟨some 7,.alloc [.int .i64 0,.int .i64 0],none⟩,
 ⟨none,.store 2 (.tmp 7) (.tmp 38),none⟩]) (.seq (.region [⟨some 39,.faddr 1 (.tmp 7),none⟩,⟨some 40,.load false 1 (.tmp 39),none⟩,⟨some 41,.bin .neq .no (.tmp 40) (.const (.int .i64 0)),none⟩]) (.cond (.tmp 41) (.seq (.region [⟨some 42,.load true 2 (.tmp 7),none⟩,
 ⟨none,.store 2 (.tmp 6) (.tmp 42),none⟩]) (.ret)) (.skip)))) (.seq (.region [⟨some 44,.mov (.tmp 2),none⟩,⟨some 45,.call (.fn 128) [(.tmp 44),(.const (.str [58]))],none⟩,⟨some 43,.mov (.tmp 45),none⟩,⟨some 46,.ext 0 (.tmp 43),none⟩,
 ⟨some 47,.ext 1 (.tmp 43),none⟩,⟨some 48,.ext 2 (.tmp 43),none⟩,⟨some 8,.mov (.tmp 46),none⟩,⟨some 9,.mov (.tmp 47),none⟩,⟨some 10,.mov (.tmp 48),none⟩]) (.seq (.seq (.region [⟨some 49,.mov (.tmp 10),none⟩,
 ⟨some 50,.un .not (.tmp 49),none⟩,⟨some 51,.mov (.tmp 50),none⟩,⟨some 52,.mov (.tmp 8),some (51,false)⟩,⟨some 53,.call (.fn 157) [(.tmp 52)],some (51,false)⟩,⟨some 54,.un .not (.tmp 53),some (51,false)⟩,
 ⟨some 55,.pick (.tmp 51) (.const (.bool true)) (.tmp 54),none⟩]) (.cond (.tmp 55) (.seq (.region [⟨some 56,.mov (.tmp 1),none⟩,⟨some 57,.build [.int .i64 0,.int .i64 0] [(0,1,(.tmp 56)),(1,1,(.const (.int .i64 50)))],none⟩,
 ⟨none,.store 2 (.tmp 6) (.tmp 57),none⟩]) (.ret)) (.skip))) (.seq (.region [⟨some 58,.mov (.tmp 0),none⟩,⟨some 59,.mov (.tmp 0),none⟩,⟨some 60,.mov (.tmp 0),none⟩,⟨some 61,.mov (.tmp 8),none⟩,⟨some 62,.mov (.tmp 9),none⟩,
 ⟨some 63,.build [.str [],.str []] [(0,1,(.tmp 61)),(1,1,(.tmp 62))],none⟩,⟨some 64,.mov (.tmp 1),none⟩,⟨some 65,.nilck (.tmp 58),none⟩,⟨some 66,.faddr 1 (.tmp 65),none⟩,⟨none,.store 2 (.tmp 66) (.tmp 63),none⟩,
 ⟨some 67,.nilck (.tmp 59),none⟩,⟨some 68,.faddr 3 (.tmp 67),none⟩,⟨none,.store 1 (.tmp 68) (.tmp 64),none⟩,⟨some 69,.nilck (.tmp 60),none⟩,⟨some 70,.faddr 4 (.tmp 69),none⟩,⟨none,.store 1 (.tmp 70) (.const (.bool true)),none⟩]) (.seq (.region [⟨some 71,.build [.int .i64 0,.int .i64 0] [],none⟩,
 ⟨none,.store 2 (.tmp 6) (.tmp 71),none⟩]) (.ret)))))))) }

def F_fields_lower : ACFn := { nt := 29,results := [.tmp 2],body := (.seq (.region [⟨some 2,.mov (.const (.str [])),none⟩]) (.seq (.region [⟨some 6,.mov (.tmp 0),none⟩,⟨some 7,.cS2B true (.tmp 6),none⟩,⟨some 3,.mov (.tmp 7),none⟩]) (.seq (.seq (.region [⟨some 8,.mov (.tmp 3),none⟩,
 ⟨some 9,.len false (.tmp 8),none⟩,⟨some 10,.mov (.const (.int .i64 0)),none⟩]) (.block 0 (.loop (.seq (.region [⟨some 11,.bin .lss .no (.tmp 10) (.tmp 9),none⟩]) (.seq (.cond (.tmp 11) (.skip) (.exit 0)) (.seq (.block 1 (.seq (.region [⟨some 12,.mov (.tmp 10),none⟩,
 ⟨some 13,.iaddr 1 (.tmp 8) (.tmp 10),none⟩,⟨some 14,.load false 1 (.tmp 13),none⟩,⟨some 4,.mov (.tmp 12),none⟩,⟨some 5,.mov (.tmp 14),none⟩]) (.seq (.region [⟨some 15,.mov (.tmp 5),none⟩,⟨some 16,.bin .geq .no (.tmp 15) (.const (.b8 65)),none⟩,
 ⟨some 17,.mov (.tmp 16),none⟩,⟨some 18,.mov (.tmp 5),some (17,true)⟩,⟨some 19,.bin .leq .no (.tmp 18) (.const (.b8 90)),some (17,true)⟩,⟨some 20,.pick (.tmp 17) (.tmp 19) (.const (.bool false)),none⟩]) (.cond (.tmp 20) (.region [⟨some 21,.mov (.tmp 3),none⟩,
 ⟨some 22,.mov (.tmp 4),none⟩,⟨some 23,.mov (.tmp 5),none⟩,⟨some 24,.bin .add .no (.tmp 23) (.const (.b8 32)),none⟩,⟨some 25,.iaddr 1 (.tmp 21) (.tmp 22),none⟩,⟨none,.store 1 (.tmp 25) (.tmp 24),none⟩]) (.skip))))) (.region [⟨some 26,.bin .add .no (.tmp 10) (.const (.int .i64 1)),none⟩,
 ⟨some 10,.mov (.tmp 26),none⟩]))))))) (.seq (.region [⟨some 27,.mov (.tmp 3),none⟩,⟨some 28,.cB2S true (.tmp 27),none⟩,⟨some 2,.mov (.tmp 28),none⟩]) (.ret))))) }

def F_fields_trim : ACFn := { nt := 43,results := [.tmp 2],body := (.seq (.region [⟨some 2,.mov (.const (.str [])),none⟩]) (.seq (.block 0 (.loop (.seq (.seq (.region [⟨some 3,.mov (.tmp 0),none⟩,⟨some 4,.len true (.tmp 3),none⟩,
 ⟨some 5,.bin .gtr .no (.tmp 4) (.const (.int .i64 0)),none⟩,⟨some 6,.mov (.tmp 5),none⟩,⟨some 7,.mov (.tmp 0),some (6,true)⟩,⟨some 8,.idxS (.tmp 7) (.const (.int .i64 0)),some (6,true)⟩,⟨some 9,.bin .eql .no (.tmp 8) (.const (.b8 32)),some (6,true)⟩,
 ⟨some 10,.mov (.tmp 9),some (6,true)⟩,⟨some 11,.mov (.tmp 0),some (10,false)⟩,⟨some 12,.idxS (.tmp 11) (.const (.int .i64 0)),some (10,false)⟩,⟨some 13,.bin .eql .no (.tmp 12) (.const (.b8 9)),some (10,false)⟩,
 ⟨some 14,.pick (.tmp 10) (.const (.bool true)) (.tmp 13),some (6,true)⟩,⟨some 15,.pick (.tmp 6) (.tmp 14) (.const (.bool false)),none⟩]) (.cond (.tmp 15) (.skip) (.exit 0))) (.block 1 (.region [⟨some 16,.mov (.tmp 0),none⟩,
 ⟨some 17,.slc 0 (.tmp 16) (some (.const (.int .i64 1))) none none,none⟩,⟨some 0,.mov (.tmp 17),none⟩]))))) (.seq (.block 2 (.loop (.seq (.seq (.region [⟨some 18,.mov (.tmp 0),none⟩,⟨some 19,.len true (.tmp 18),none⟩,
 ⟨some 20,.bin .gtr .no (.tmp 19) (.const (.int .i64 0)),none⟩,⟨some 21,.mov (.tmp 20),none⟩,⟨some 22,.mov (.tmp 0),some (21,true)⟩,⟨some 23,.mov (.tmp 0),some (21,true)⟩,⟨some 24,.len true (.tmp 23),some (21,true)⟩,
 ⟨some 25,.bin .sub .no (.tmp 24) (.const (.int .i64 1)),some (21,true)⟩,⟨some 26,.idxS (.tmp 22) (.tmp 25),some (21,true)⟩,⟨some 27,.bin .eql .no (.tmp 26) (.const (.b8 32)),some (21,true)⟩,⟨some 28,.mov (.tmp 27),some (21,true)⟩,
 ⟨some 29,.mov (.tmp 0),some (28,false)⟩,⟨some 30,.mov (.tmp 0),some (28,false)⟩,⟨some 31,.len true (.tmp 30),some (28,false)⟩,⟨some 32,.bin .sub .no (.tmp 31) (.const (.int .i64 1)),some (28,false)⟩,⟨some 33,.idxS (.tmp 29) (.tmp 32),some (28,false)⟩,
 ⟨some 34,.bin .eql .no (.tmp 33) (.const (.b8 9)),some (28,false)⟩,⟨some 35,.pick (.tmp 28) (.const (.bool true)) (.tmp 34),some (21,true)⟩,⟨some 36,.pick (.tmp 21) (.tmp 35) (.const (.bool false)),none⟩]) (.cond (.tmp 36) (.skip) (.exit 2))) (.block 3 (.region [⟨some 37,.mov (.tmp 0),none⟩,
 ⟨some 38,.mov (.tmp 0),none⟩,⟨some 39,.len true (.tmp 38),none⟩,⟨some 40,.bin .sub .no (.tmp 39) (.const (.int .i64 1)),none⟩,⟨some 41,.slc 0 (.tmp 37) none (some (.tmp 40)) none,none⟩,⟨some 0,.mov (.tmp 41),none⟩]))))) (.seq (.region [⟨some 42,.mov (.tmp 0),none⟩,
 ⟨some 2,.mov (.tmp 42),none⟩]) (.ret))))) }

def F_strings_LastIndexByte : ACFn := { nt := 8,results := [.tmp 4],body := (.seq (.region [⟨some 4,.mov (.const (.int .i64 0)),none⟩]) (.seq (.region [⟨some 5,.mov (.tmp 0),none⟩,⟨some 6,.mov (.tmp 1),none⟩,⟨some 7,.call (.fn 172) [(.tmp 5),(.tmp 6)],none⟩,
 ⟨some 4,.mov (.tmp 7),none⟩]) (.ret))) }

def F_fields_lines_c1 : ACFn := { nt := 31,results := [],body := (.seq (.region [⟨some 3,.mov (.const (.int .i64 0)),none⟩]) (.block 0 (.loop (.block 1 (.seq (.region [⟨some 5,.load false 1 (.tmp 1),none⟩,⟨some 6,.mov (.tmp 3),none⟩,
 ⟨some 7,.slc 1 (.tmp 5) (some (.tmp 6)) none none,none⟩,⟨some 8,.lit8 2 [(0,(.const (.b8 13))),(1,(.const (.b8 10)))],none⟩,⟨some 9,.cSame (.tmp 8),none⟩,⟨some 10,.call (.fn 32) [(.tmp 7),(.tmp 9)],none⟩,
 ⟨some 4,.mov (.tmp 10),none⟩]) (.seq (.seq (.region [⟨some 11,.mov (.tmp 4),none⟩,⟨some 12,.bin .lss .no (.tmp 11) (.const (.int .i64 0)),none⟩]) (.cond (.tmp 12) (.seq (.region [⟨some 13,.mov (.tmp 0),none⟩,
 ⟨some 14,.mov (.tmp 3),none⟩,⟨some 15,.call (.tmp 13) [(.tmp 14),(.const (.nils))],none⟩]) (.ret)) (.skip))) (.seq (.seq (.region [⟨some 16,.mov (.tmp 0),none⟩,⟨some 17,.mov (.tmp 3),none⟩,⟨some 18,.load false 1 (.tmp 1),none⟩,
 ⟨some 19,.mov (.tmp 3),none⟩,⟨some 20,.mov (.tmp 3),none⟩,⟨some 21,.mov (.tmp 4),none⟩,⟨some 22,.bin .add .no (.tmp 20) (.tmp 21),none⟩,⟨some 23,.bin .add .no (.tmp 22) (.const (.int .i64 2)),none⟩,⟨some 24,.slc 1 (.tmp 18) (some (.tmp 19)) (some (.tmp 23)) none,none⟩,
 ⟨some 25,.call (.tmp 16) [(.tmp 17),(.tmp 24)],none⟩,⟨some 26,.un .not (.tmp 25),none⟩]) (.cond (.tmp 26) (.ret) (.skip))) (.region [⟨some 27,.mov (.tmp 3),none⟩,⟨some 28,.mov (.tmp 4),none⟩,⟨some 29,.bin .add .no (.tmp 28) (.const (.int .i64 2)),none⟩,
 ⟨some 30,.bin .add .no (.tmp 27) (.tmp 29),none⟩,⟨some 3,.mov (.tmp 30),none⟩])))))))) }

def F_internal_bytealg_LastIndexByteString : ACFn := { nt := 19,results := [.tmp 4],body := (.seq (.region [⟨some 4,.mov (.const (.int .i64 0)),none⟩]) (.seq (.seq (.region [⟨some 6,.mov (.tmp 0),none⟩,⟨some 7,.len true (.tmp 6),none⟩,⟨some 8,.bin .sub .no (.tmp 7) (.const (.int .i64 1)),none⟩,
 ⟨some 5,.mov (.tmp 8),none⟩]) (.block 0 (.loop (.seq (.seq (.region [⟨some 9,.mov (.tmp 5),none⟩,⟨some 10,.bin .geq .no (.tmp 9) (.const (.int .i64 0)),none⟩]) (.cond (.tmp 10) (.skip) (.exit 0))) (.seq (.block 1 (.seq (.region [⟨some 13,.mov (.tmp 0),none⟩,
 ⟨some 14,.mov (.tmp 5),none⟩,⟨some 15,.idxS (.tmp 13) (.tmp 14),none⟩,⟨some 16,.mov (.tmp 1),none⟩,⟨some 17,.bin .eql .no (.tmp 15) (.tmp 16),none⟩]) (.cond (.tmp 17) (.seq (.region [⟨some 18,.mov (.tmp 5),none⟩,
 ⟨some 4,.mov (.tmp 18),none⟩]) (.ret)) (.skip)))) (.region [⟨some 11,.mov (.tmp 5),none⟩,⟨some 12,.bin .sub .no (.tmp 11) (.const (.int .i64 1)),none⟩,⟨some 5,.mov (.tmp 12),none⟩])))))) (.seq (.region [⟨some 4,.mov (.const (.int .i64 (-1))),none⟩]) (.ret)))) }

def F_date_Print : ACFn := { nt := 101,results := [.tmp 4,.tmp 5],body := (.seq (.region [⟨some 4,.mov (.const (.str [])),none⟩,⟨some 5,.mov (.const (.int .i64 0)),none⟩]) (.seq (.seq (.region [⟨some 16,.mov (.tmp 0),none⟩,⟨some 17,.call (.fn 199) [(.tmp 16)],none⟩,
 ⟨some 18,.un .not (.tmp 17),none⟩,⟨some 19,.mov (.tmp 18),none⟩,⟨some 20,.mov (.tmp 1),some (19,false)⟩,⟨some 21,.call (.fn 274) [(.tmp 20)],some (19,false)⟩,⟨some 22,.un .not (.tmp 21),some (19,false)⟩,
 ⟨some 23,.pick (.tmp 19) (.const (.bool true)) (.tmp 22),none⟩,⟨some 24,.mov (.tmp 23),none⟩,⟨some 25,.mov (.tmp 0),some (24,false)⟩,⟨some 26,.mov (.tmp 1),some (24,false)⟩,⟨some 27,.bin .add .no (.tmp 25) (.tmp 26),some (24,false)⟩,
 ⟨some 28,.call (.fn 199) [(.tmp 27)],some (24,false)⟩,⟨some 29,.un .not (.tmp 28),some (24,false)⟩,⟨some 30,.pick (.tmp 24) (.const (.bool true)) (.tmp 29),none⟩]) (.cond (.tmp 30) (.seq (.region [⟨some 4,.mov (.const (.str [])),none⟩,
 ⟨some 5,.mov (.const (.int .i64 110)),none⟩]) (.ret)) (.skip))) (.seq (.region [⟨some 31,.mov (.tmp 0),none⟩,⟨some 32,.mov (.tmp 1),none⟩,⟨some 33,.bin .add .no (.tmp 31) (.tmp 32),none⟩,⟨some 6,.mov (.tmp 33),none⟩]) (.seq (.region [⟨some 35,.mov (.tmp 6),none⟩,
 ⟨some 36,.bin .quo .no (.tmp 35) (.const (.int .i64 86400)),none⟩,⟨some 37,.call (.fn 275) [(.tmp 36)],none⟩,⟨some 34,.mov (.tmp 37),none⟩,⟨some 38,.ext 0 (.tmp 34),none⟩,⟨some 39,.ext 1 (.tmp 34),none⟩,
 ⟨some 40,.ext 2 (.tmp 34),none⟩,⟨some 41,.ext 3 (.tmp 34),none⟩,⟨some 7,.mov (.tmp 38),none⟩,⟨some 8,.mov (.tmp 39),none⟩,⟨some 9,.mov (.tmp 40),none⟩,⟨some 10,.mov (.tmp 41),none⟩]) (.seq (.region [⟨some 43,.mov (.tmp 6),none⟩,
 ⟨some 44,.bin .quo .no (.tmp 43) (.const (.int .i64 86400)),none⟩,⟨some 45,.call (.fn 258) [(.tmp 44)],none⟩,⟨some 42,.mov (.tmp 45),none⟩,⟨some 46,.ext 0 (.tmp 42),none⟩,⟨some 47,.ext 1 (.tmp 42),none⟩,
 ⟨some 11,.mov (.tmp 46),none⟩,⟨some 12,.mov (.tmp 47),none⟩]) (.seq (.region [⟨some 48,.mov (.tmp 6),none⟩,⟨some 49,.bin .rem .no (.tmp 48) (.const (.int .i64 86400)),none⟩,⟨some 13,.mov (.tmp 49),none⟩]) (.seq (.region [⟨some 14,.mov (.const (.str [43])),none⟩]) (.seq (.seq (.region [⟨some 50,.mov (.tmp 1),none⟩,
 ⟨some 51,.bin .lss .no (.tmp 50) (.const (.int .i64 0)),none⟩]) (.cond (.tmp 51) (.region [⟨some 52,.mov (.tmp 1),none⟩,⟨some 53,.un .neg (.tmp 52),none⟩,⟨some 14,.mov (.const (.str [45])),none⟩,⟨some 1,.mov (.tmp 53),none⟩]) (.skip))) (.seq (.region [⟨some 54,.mov (.tmp 13),none⟩,
 ⟨some 55,.bin .quo .no (.tmp 54) (.const (.int .i64 3600)),none⟩,⟨some 56,.call (.fn 276) [(.tmp 55)],none⟩,⟨some 57,.bin .add .no (.tmp 56) (.const (.str [58])),none⟩,⟨some 58,.mov (.tmp 13),none⟩,⟨some 59,.bin .quo .no (.tmp 58) (.const (.int .i64 60)),none⟩,
 ⟨some 60,.bin .rem .no (.tmp 59) (.const (.int .i64 60)),none⟩,⟨some 61,.call (.fn 276) [(.tmp 60)],none⟩,⟨some 62,.bin .add .no (.tmp 57) (.tmp 61),none⟩,⟨some 63,.bin .add .no (.tmp 62) (.const (.str [58])),none⟩,
 ⟨some 64,.mov (.tmp 13),none⟩,⟨some 65,.bin .rem .no (.tmp 64) (.const (.int .i64 60)),none⟩,⟨some 66,.call (.fn 276) [(.tmp 65)],none⟩,⟨some 67,.bin .add .no (.tmp 63) (.tmp 66),none⟩,⟨some 15,.mov (.tmp 67),none⟩]) (.seq (.region [⟨some 68,.mov (.tmp 11),none⟩,
 ⟨some 69,.call (.fn 277) [(.tmp 68)],none⟩,⟨some 70,.bin .add .no (.tmp 69) (.const (.str [44,32])),none⟩,⟨some 71,.mov (.tmp 9),none⟩,⟨some 72,.call (.fn 276) [(.tmp 71)],none⟩,⟨some 73,.bin .add .no (.tmp 70) (.tmp 72),none⟩,
 ⟨some 74,.bin .add .no (.tmp 73) (.const (.str [32])),none⟩,⟨some 75,.mov (.tmp 8),none⟩,⟨some 76,.call (.fn 278) [(.tmp 75)],none⟩,⟨some 77,.bin .add .no (.tmp 74) (.tmp 76),none⟩,⟨some 78,.bin .add .no (.tmp 77) (.const (.str [32])),none⟩,
 ⟨some 79,.mov (.tmp 7),none⟩,⟨some 80,.bin .quo .no (.tmp 79) (.const (.int .i64 100)),none⟩,⟨some 81,.call (.fn 276) [(.tmp 80)],none⟩,⟨some 82,.bin .add .no (.tmp 78) (.tmp 81),none⟩,⟨some 83,.mov (.tmp 7),none⟩,
 ⟨some 84,.call (.fn 276) [(.tmp 83)],none⟩,⟨some 85,.bin .add .no (.tmp 82) (.tmp 84),none⟩,⟨some 86,.bin .add .no (.tmp 85) (.const (.str [32])),none⟩,⟨some 87,.mov (.tmp 15),none⟩,⟨some 88,.bin .add .no (.tmp 86) (.tmp 87),none⟩,
 ⟨some 89,.bin .add .no (.tmp 88) (.const (.str [32])),none⟩,⟨some 90,.mov (.tmp 14),none⟩,⟨some 91,.bin .add .no (.tmp 89) (.tmp 90),none⟩,⟨some 92,.mov (.tmp 1),none⟩,⟨some 93,.bin .quo .no (.tmp 92) (.const (.int .i64 3600)),none⟩,
 ⟨some 94,.call (.fn 276) [(.tmp 93)],none⟩,⟨some 95,.bin .add .no (.tmp 91) (.tmp 94),none⟩,⟨some 96,.mov (.tmp 1),none⟩,⟨some 97,.bin .quo .no (.tmp 96) (.const (.int .i64 60)),none⟩,⟨some 98,.bin .rem .no (.tmp 97) (.const (.int .i64 60)),none⟩,
 ⟨some 99,.call (.fn 276) [(.tmp 98)],none⟩,⟨some 100,.bin .add .no (.tmp 95) (.tmp 99),none⟩,⟨some 4,.mov (.tmp 100),none⟩,⟨some 5,.mov (.const (.int .i64 0)),none⟩]) (.ret))))))))))) }

def F_date_Weekday : ACFn := { nt := 13,results := [.tmp 2,.tmp 3],body := (.seq (.region [⟨some 2,.mov (.const (.int .i64 0)),none⟩,⟨some 3,.mov (.const (.int .i64 0)),none⟩]) (.seq (.seq (.region [⟨some 4,.mov (.tmp 0),none⟩,⟨some 5,.bin .lss .no (.tmp 4) (.const (.int .i64 0)),none⟩,
 ⟨some 6,.mov (.tmp 5),none⟩,⟨some 7,.mov (.tmp 0),some (6,false)⟩,⟨some 8,.bin .gtr .no (.tmp 7) (.const (.int .i64 2932896)),some (6,false)⟩,⟨some 9,.pick (.tmp 6) (.const (.bool true)) (.tmp 8),none⟩]) (.cond (.tmp 9) (.seq (.region [⟨some 2,.mov (.const (.int .i64 0)),none⟩,
 ⟨some 3,.mov (.const (.int .i64 110)),none⟩]) (.ret)) (.skip))) (.seq (.region [⟨some 10,.mov (.tmp 0),none⟩,⟨some 11,.bin .add .no (.tmp 10) (.const (.int .i64 3)),none⟩,⟨some 12,.bin .rem .no (.tmp 11) (.const (.int .i64 7)),none⟩,
 ⟨some 2,.mov (.tmp 12),none⟩,⟨some 3,.mov (.const (.int .i64 0)),none⟩]) (.ret)))) }

def F_date_Parse : ACFn := { nt := 114,results := [.tmp 2,.tmp 3,.tmp 4],body := (.seq (.region [⟨some 2,.mov (.const (.int .i64 0)),none⟩,⟨some 3,.mov (.const (.int .i64 0)),none⟩,⟨some 4,.mov (.const (.int .i64 0)),none⟩]) (.seq (.region [⟨some 5,.alloc [.nils],none⟩]) (.seq (.seq (.region [⟨some 20,.mov (.tmp 0),none⟩,
 ⟨some 21,.call (.fn 284) [(.tmp 20)],none⟩,⟨some 22,.call (.fn 285) [(.tmp 21)],none⟩]) (.block 0 (.rangeFunc (.tmp 22) [23] (.region [⟨some 6,.mov (.tmp 23),none⟩]) (.block 1 (.region [⟨some 24,.load false 1 (.tmp 5),none⟩,
 ⟨some 25,.mov (.tmp 6),none⟩,⟨some 26,.lit 1 (.str []) 1 [(0,(.tmp 25))],none⟩,⟨some 27,.app false 1 (.tmp 24) (.tmp 26),none⟩,⟨none,.store 1 (.tmp 5) (.tmp 27),none⟩]))))) (.seq (.region [⟨some 29,.load false 1 (.tmp 5),none⟩,
 ⟨some 30,.call (.fn 286) [(.tmp 29)],none⟩,⟨some 28,.mov (.tmp 30),none⟩,⟨some 31,.ext 0 (.tmp 28),none⟩,⟨some 32,.ext 1 (.tmp 28),none⟩,⟨some 7,.mov (.tmp 31),none⟩,⟨none,.store 1 (.tmp 5) (.tmp 32),none⟩]) (.seq (.seq (.region [⟨some 33,.mov (.tmp 7),none⟩,
 ⟨some 34,.bin .eql .no (.tmp 33) (.const (.int .i64 (-2))),none⟩,⟨some 35,.mov (.tmp 34),none⟩,⟨some 36,.load false 1 (.tmp 5),some (35,false)⟩,⟨some 37,.len false (.tmp 36),some (35,false)⟩,⟨some 38,.bin .lss .no (.tmp 37) (.const (.int .i64 4)),some (35,false)⟩,
 ⟨some 39,.pick (.tmp 35) (.const (.bool true)) (.tmp 38),none⟩,⟨some 40,.mov (.tmp 39),none⟩,⟨some 41,.load false 1 (.tmp 5),some (40,false)⟩,⟨some 42,.len false (.tmp 41),some (40,false)⟩,⟨some 43,.bin .gtr .no (.tmp 42) (.const (.int .i64 5)),some (40,false)⟩,
 ⟨some 44,.pick (.tmp 40) (.const (.bool true)) (.tmp 43),none⟩]) (.cond (.tmp 44) (.seq (.region [⟨some 2,.mov (.const (.int .i64 0)),none⟩,⟨some 3,.mov (.const (.int .i64 0)),none⟩,⟨some 4,.mov (.const (.int .i64 110)),none⟩]) (.ret)) (.skip))) (.seq (.region [⟨some 45,.load false 1 (.tmp 5),none⟩,
 ⟨some 46,.iaddr 1 (.tmp 45) (.const (.int .i64 0)),none⟩,⟨some 47,.loadc false 1 (.tmp 46),none⟩,⟨some 48,.callk (.fn 287) [(.tmp 47),(.const (.int .i64 1)),(.const (.int .i64 2))],none⟩,⟨some 49,.load false 1 (.tmp 5),none⟩,
 ⟨some 50,.iaddr 1 (.tmp 49) (.const (.int .i64 1)),none⟩,⟨some 51,.loadc false 1 (.tmp 50),none⟩,⟨some 52,.callk (.fn 288) [(.tmp 51),(.const (.int .i64 13)),(.fn 278)],none⟩,⟨some 53,.load false 1 (.tmp 5),none⟩,
 ⟨some 54,.iaddr 1 (.tmp 53) (.const (.int .i64 2)),none⟩,⟨some 55,.loadc false 1 (.tmp 54),none⟩,⟨some 56,.callk (.fn 289) [(.tmp 55)],none⟩,⟨some 57,.load false 1 (.tmp 5),none⟩,⟨some 58,.iaddr 1 (.tmp 57) (.const (.int .i64 3)),none⟩,
 ⟨some 59,.loadc false 1 (.tmp 58),none⟩,⟨some 60,.callk (.fn 290) [(.tmp 59)],none⟩,⟨some 8,.mov (.tmp 48),none⟩,⟨some 9,.mov (.tmp 52),none⟩,⟨some 10,.mov (.tmp 56),none⟩,⟨some 11,.mov (.tmp 60),none⟩]) (.seq (.region [⟨some 12,.mov (.const (.str [])),none⟩]) (.seq (.seq (.region [⟨some 61,.load false 1 (.tmp 5),none⟩,
 ⟨some 62,.len false (.tmp 61),none⟩,⟨some 63,.bin .eql .no (.tmp 62) (.const (.int .i64 5)),none⟩]) (.cond (.tmp 63) (.region [⟨some 64,.load false 1 (.tmp 5),none⟩,⟨some 65,.iaddr 1 (.tmp 64) (.const (.int .i64 4)),none⟩,
 ⟨some 66,.loadc false 1 (.tmp 65),none⟩,⟨some 12,.mov (.tmp 66),none⟩]) (.skip))) (.seq (.region [⟨some 68,.mov (.tmp 12),none⟩,⟨some 69,.call (.fn 291) [(.tmp 68)],none⟩,⟨some 67,.mov (.tmp 69),none⟩,
 ⟨some 70,.ext 0 (.tmp 67),none⟩,⟨some 71,.ext 1 (.tmp 67),none⟩,⟨some 13,.mov (.tmp 70),none⟩,⟨some 14,.mov (.tmp 71),none⟩]) (.seq (.region [⟨some 73,.mov (.tmp 10),none⟩,⟨some 74,.mov (.tmp 9),none⟩,
 ⟨some 75,.mov (.tmp 8),none⟩,⟨some 76,.call (.fn 292) [(.tmp 73),(.tmp 74),(.tmp 75)],none⟩,⟨some 72,.mov (.tmp 76),none⟩,⟨some 77,.ext 0 (.tmp 72),none⟩,⟨some 78,.ext 1 (.tmp 72),none⟩,⟨some 15,.mov (.tmp 77),none⟩,
 ⟨some 16,.mov (.tmp 78),none⟩]) (.seq (.region [⟨some 79,.mov (.tmp 15),none⟩,⟨some 80,.bin .mul .no (.tmp 79) (.const (.int .i64 86400)),none⟩,⟨some 81,.mov (.tmp 11),none⟩,⟨some 82,.bin .add .no (.tmp 80) (.tmp 81),none⟩,
 ⟨some 83,.mov (.tmp 13),none⟩,⟨some 84,.bin .sub .no (.tmp 82) (.tmp 83),none⟩,⟨some 17,.mov (.tmp 84),none⟩]) (.seq (.seq (.region [⟨some 85,.mov (.tmp 16),none⟩,⟨some 86,.bin .neq .no (.tmp 85) (.const (.int .i64 0)),none⟩,
 ⟨some 87,.mov (.tmp 86),none⟩,⟨some 88,.mov (.tmp 11),some (87,false)⟩,⟨some 89,.bin .lss .no (.tmp 88) (.const (.int .i64 0)),some (87,false)⟩,⟨some 90,.pick (.tmp 87) (.const (.bool true)) (.tmp 89),none⟩,
 ⟨some 91,.mov (.tmp 90),none⟩,⟨some 92,.mov (.tmp 14),some (91,false)⟩,⟨some 93,.un .not (.tmp 92),some (91,false)⟩,⟨some 94,.pick (.tmp 91) (.const (.bool true)) (.tmp 93),none⟩,⟨some 95,.mov (.tmp 94),none⟩,
 ⟨some 96,.mov (.tmp 17),some (95,false)⟩,⟨some 97,.call (.fn 199) [(.tmp 96)],some (95,false)⟩,⟨some 98,.un .not (.tmp 97),some (95,false)⟩,⟨some 99,.pick (.tmp 95) (.const (.bool true)) (.tmp 98),none⟩]) (.cond (.tmp 99) (.seq (.region [⟨some 2,.mov (.const (.int .i64 0)),none⟩,
 ⟨some 3,.mov (.const (.int .i64 0)),none⟩,⟨some 4,.mov (.const (.int .i64 110)),none⟩]) (.ret)) (.skip))) (.seq (.seq (.region [⟨some 101,.mov (.tmp 15),none⟩,⟨some 102,.call (.fn 258) [(.tmp 101)],none⟩,
 ⟨some 100,.mov (.tmp 102),none⟩,⟨some 103,.ext 0 (.tmp 100),none⟩,⟨some 104,.ext 1 (.tmp 100),none⟩,⟨some 18,.mov (.tmp 103),none⟩,⟨some 19,.mov (.tmp 104),none⟩]) (.seq (.region [⟨some 105,.mov (.tmp 7),none⟩,
 ⟨some 106,.bin .geq .no (.tmp 105) (.const (.int .i64 0)),none⟩,⟨some 107,.mov (.tmp 106),none⟩,⟨some 108,.mov (.tmp 18),some (107,true)⟩,⟨some 109,.mov (.tmp 7),some (107,true)⟩,⟨some 110,.bin .neq .no (.tmp 108) (.tmp 109),some (107,true)⟩,
 ⟨some 111,.pick (.tmp 107) (.tmp 110) (.const (.bool false)),none⟩]) (.cond (.tmp 111) (.seq (.region [⟨some 2,.mov (.const (.int .i64 0)),none⟩,⟨some 3,.mov (.const (.int .i64 0)),none⟩,⟨some 4,.mov (.const (.int .i64 110)),none⟩]) (.ret)) (.skip)))) (.seq (.region [⟨some 112,.mov (.tmp 17),none⟩,
 ⟨some 113,.mov (.tmp 13),none⟩,⟨some 2,.mov (.tmp 112),none⟩,⟨some 3,.mov (.tmp 113),none⟩,⟨some 4,.mov (.const (.int .i64 0)),none⟩]) (.ret))))))))))))))) }

def F_date_isShift : ACFn := { nt := 14,results := [.tmp 2],body := (.seq (.region [⟨some 2,.mov (.const (.bool false)),none⟩]) (.seq (.region [⟨some 3,.mov (.tmp 0),none⟩,⟨some 4,.bin .geq .no (.tmp 3) (.const (.int .i64 (-86340))),none⟩,
 ⟨some 5,.mov (.tmp 4),none⟩,⟨some 6,.mov (.tmp 0),some (5,true)⟩,⟨some 7,.bin .leq .no (.tmp 6) (.const (.int .i64 86340)),some (5,true)⟩,⟨some 8,.pick (.tmp 5) (.tmp 7) (.const (.bool false)),none⟩,⟨some 9,.mov (.tmp 8),none⟩,
 ⟨some 10,.mov (.tmp 0),some (9,true)⟩,⟨some 11,.bin .rem .no (.tmp 10) (.const (.int .i64 60)),some (9,true)⟩,⟨some 12,.bin .eql .no (.tmp 11) (.const (.int .i64 0)),some (9,true)⟩,⟨some 13,.pick (.tmp 9) (.tmp 12) (.const (.bool false)),none⟩,
 ⟨some 2,.mov (.tmp 13),none⟩]) (.ret))) }

def F_when_Civil : ACFn := { nt := 49,results := [.tmp 2,.tmp 3,.tmp 4,.tmp 5],body := (.seq (.region [⟨some 2,.mov (.const (.int .i64 0)),none⟩,⟨some 3,.mov (.const (.int .i64 0)),none⟩,⟨some 4,.mov (.const (.int .i64 0)),none⟩,
 ⟨some 5,.mov (.const (.int .i64 0)),none⟩]) (.seq (.seq (.region [⟨some 9,.mov (.tmp 0),none⟩,⟨some 10,.bin .lss .no (.tmp 9) (.const (.int .i64 0)),none⟩,⟨some 11,.mov (.tmp 10),none⟩,⟨some 12,.mov (.tmp 0),some (11,false)⟩,
 ⟨some 13,.bin .gtr .no (.tmp 12) (.const (.int .i64 2932896)),some (11,false)⟩,⟨some 14,.pick (.tmp 11) (.const (.bool true)) (.tmp 13),none⟩]) (.cond (.tmp 14) (.seq (.region [⟨some 2,.mov (.const (.int .i64 0)),none⟩,
 ⟨some 3,.mov (.const (.int .i64 0)),none⟩,⟨some 4,.mov (.const (.int .i64 0)),none⟩,⟨some 5,.mov (.const (.int .i64 110)),none⟩]) (.ret)) (.skip))) (.seq (.region [⟨some 15,.mov (.tmp 0),none⟩,⟨some 16,.bin .quo .no (.tmp 15) (.const (.int .i64 366)),none⟩,
 ⟨some 17,.bin .add .no (.const (.int .i64 1970)) (.tmp 16),none⟩,⟨some 6,.mov (.tmp 17),none⟩]) (.seq (.block 0 (.loop (.seq (.seq (.region [⟨some 18,.mov (.tmp 6),none⟩,⟨some 19,.bin .lss .no (.tmp 18) (.const (.int .i64 9999)),none⟩,
 ⟨some 20,.mov (.tmp 19),none⟩,⟨some 21,.mov (.tmp 6),some (20,true)⟩,⟨some 22,.bin .add .no (.tmp 21) (.const (.int .i64 1)),some (20,true)⟩,⟨some 23,.call (.fn 306) [(.tmp 22)],some (20,true)⟩,⟨some 24,.mov (.tmp 0),some (20,true)⟩,
 ⟨some 25,.bin .leq .no (.tmp 23) (.tmp 24),some (20,true)⟩,⟨some 26,.pick (.tmp 20) (.tmp 25) (.const (.bool false)),none⟩]) (.cond (.tmp 26) (.skip) (.exit 0))) (.block 1 (.region [⟨some 27,.mov (.tmp 6),none⟩,
 ⟨some 28,.bin .add .no (.tmp 27) (.const (.int .i64 1)),none⟩,⟨some 6,.mov (.tmp 28),none⟩]))))) (.seq (.region [⟨some 29,.mov (.tmp 0),none⟩,⟨some 30,.mov (.tmp 6),none⟩,⟨some 31,.call (.fn 306) [(.tmp 30)],none⟩,
 ⟨some 32,.bin .sub .no (.tmp 29) (.tmp 31),none⟩,⟨some 7,.mov (.tmp 32),none⟩]) (.seq (.region [⟨some 8,.mov (.const (.int .i64 1)),none⟩]) (.seq (.block 2 (.loop (.seq (.seq (.region [⟨some 33,.mov (.tmp 7),none⟩,
 ⟨some 34,.mov (.tmp 6),none⟩,⟨some 35,.mov (.tmp 8),none⟩,⟨some 36,.call (.fn 307) [(.tmp 34),(.tmp 35)],none⟩,⟨some 37,.bin .geq .no (.tmp 33) (.tmp 36),none⟩]) (.cond (.tmp 37) (.skip) (.exit 2))) (.block 3 (.seq (.region [⟨some 38,.mov (.tmp 7),none⟩,
 ⟨some 39,.mov (.tmp 6),none⟩,⟨some 40,.mov (.tmp 8),none⟩,⟨some 41,.call (.fn 307) [(.tmp 39),(.tmp 40)],none⟩,⟨some 42,.bin .sub .no (.tmp 38) (.tmp 41),none⟩,⟨some 7,.mov (.tmp 42),none⟩]) (.region [⟨some 43,.mov (.tmp 8),none⟩,
 ⟨some 44,.bin .add .no (.tmp 43) (.const (.int .i64 1)),none⟩,⟨some 8,.mov (.tmp 44),none⟩])))))) (.seq (.region [⟨some 45,.mov (.tmp 6),none⟩,⟨some 46,.mov (.tmp 8),none⟩,⟨some 47,.mov (.tmp 7),none⟩,
 ⟨some 48,.bin .add .no (.tmp 47) (.const (.int .i64 1)),none⟩,⟨some 2,.mov (.tmp 45),none⟩,⟨some 3,.mov (.tmp 46),none⟩,⟨some 4,.mov (.tmp 48),none⟩,⟨some 5,.mov (.const (.int .i64 0)),none⟩]) (.ret))))))))) }

def F_date_two : ACFn := { nt := 14,results := [.tmp 2],body := (.seq (.region [⟨some 2,.mov (.const (.str [])),none⟩]) (.seq (.region [⟨some 3,.mov (.tmp 0),none⟩,⟨some 4,.bin .quo .no (.tmp 3) (.const (.int .i64 10)),none⟩,⟨some 5,.bin .rem .no (.tmp 4) (.const (.int .i64 10)),none⟩,
 ⟨some 6,.bin .add .no (.const (.int .i64 48)) (.tmp 5),none⟩,⟨some 7,.cInt .u8 (.tmp 6),none⟩,⟨some 8,.mov (.tmp 0),none⟩,⟨some 9,.bin .rem .no (.tmp 8) (.const (.int .i64 10)),none⟩,⟨some 10,.bin .add .no (.const (.int .i64 48)) (.tmp 9),none⟩,
 ⟨some 11,.cInt .u8 (.tmp 10),none⟩,⟨some 12,.lit8 2 [(0,(.tmp 7)),(1,(.tmp 11))],none⟩,⟨some 13,.cB2S false (.tmp 12),none⟩,⟨some 2,.mov (.tmp 13),none⟩]) (.ret))) }

def F_date_dayName : ACFn := { nt := 8,results := [.tmp 2],body := (.seq (.region [⟨some 2,.mov (.const (.str [])),none⟩]) (.seq (.region [⟨some 4,.build [.str [],.str [],.str [],.str [],.str [],.str [],.str []] [(0,1,(.const (.str [77,111,110]))),(1,1,(.const (.str [84,117,101]))),(2,1,(.const (.str [87,101,100]))),(3,1,(.const (.str [84,104,117]))),(4,1,(.const (.str [70,114,105]))),(5,1,(.const (.str [83,97,116]))),(6,1,(.const (.str [83,117,110])))],none⟩,
 ⟨some 3,.alloc [.str [],.str [],.str [],.str [],.str [],.str [],.str []],none⟩,⟨none,.store 7 (.tmp 3) (.tmp 4),none⟩]) (.seq (.region [⟨some 5,.mov (.tmp 0),none⟩,⟨some 6,.iaddrA 7 1 (.tmp 3) (.tmp 5),none⟩,
 ⟨some 7,.load false 1 (.tmp 6),none⟩,⟨some 2,.mov (.tmp 7),none⟩]) (.ret)))) }

def F_date_monthName : ACFn := { nt := 8,results := [.tmp 2],body := (.seq (.region [⟨some 2,.mov (.const (.str [])),none⟩]) (.seq (.region [⟨some 4,.build [.str [],.str [],.str [],.str [],.str [],.str [],.str [],.str [],.str [],.str [],.str [],.str [],.str []] [(0,1,(.const (.str []))),(1,1,(.const (.str [74,97,110]))),(2,1,(.const (.str [70,101,98]))),(3,1,(.const (.str [77,97,114]))),(4,1,(.const (.str [65,112,114]))),(5,1,(.const (.str [77,97,121]))),(6,1,(.const (.str [74,117,110]))),(7,1,(.const (.str [74,117,108]))),(8,1,(.const (.str [65,117,103]))),(9,1,(.const (.str [83,101,112]))),(10,1,(.const (.str [79,99,116]))),(11,1,(.const (.str [78,111,118]))),(12,1,(.const (.str [68,101,99])))],none⟩,
 ⟨some 3,.alloc [.str [],.str [],.str [],.str [],.str [],.str [],.str [],.str [],.str [],.str [],.str [],.str [],.str []],none⟩,⟨none,.store 13 (.tmp 3) (.tmp 4),none⟩]) (.seq (.region [⟨some 5,.mov (.tmp 0),none⟩,
 ⟨some 6,.iaddrA 13 1 (.tmp 3) (.tmp 5),none⟩,⟨some 7,.load false 1 (.tmp 6),none⟩,⟨some 2,.mov (.tmp 7),none⟩]) (.ret)))) }

def F_date_bare : ACFn := { nt := 29,results := [.tmp 2],body := (.seq (.region [⟨some 2,.mov (.const (.str [])),none⟩]) (.seq (.region [⟨some 3,.alloc [.bslot,.nils],none⟩]) (.block 0 (.loop (.block 1 (.seq (.region [⟨some 8,.mov (.tmp 0),none⟩,
 ⟨some 9,.call (.fn 128) [(.tmp 8),(.const (.str [40]))],none⟩,⟨some 7,.mov (.tmp 9),none⟩,⟨some 10,.ext 0 (.tmp 7),none⟩,⟨some 11,.ext 1 (.tmp 7),none⟩,⟨some 12,.ext 2 (.tmp 7),none⟩,⟨some 4,.mov (.tmp 10),none⟩,
 ⟨some 5,.mov (.tmp 11),none⟩,⟨some 6,.mov (.tmp 12),none⟩]) (.seq (.region [⟨some 13,.mov (.tmp 4),none⟩,⟨some 14,.call (.fn 58) [(.tmp 3),(.tmp 13)],none⟩]) (.seq (.seq (.region [⟨some 15,.mov (.tmp 6),none⟩,
 ⟨some 16,.un .not (.tmp 15),none⟩]) (.cond (.tmp 16) (.seq (.region [⟨some 17,.call (.fn 59) [(.tmp 3)],none⟩,⟨some 2,.mov (.tmp 17),none⟩]) (.ret)) (.skip))) (.seq (.region [⟨some 19,.mov (.tmp 5),none⟩,
 ⟨some 20,.call (.fn 128) [(.tmp 19),(.const (.str [41]))],none⟩,⟨some 18,.mov (.tmp 20),none⟩,⟨some 21,.ext 0 (.tmp 18),none⟩,⟨some 22,.ext 1 (.tmp 18),none⟩,⟨some 23,.ext 2 (.tmp 18),none⟩,⟨some 0,.mov (.tmp 22),none⟩,
 ⟨some 6,.mov (.tmp 23),none⟩]) (.seq (.seq (.region [⟨some 24,.mov (.tmp 6),none⟩,⟨some 25,.un .not (.tmp 24),none⟩]) (.cond (.tmp 25) (.seq (.region [⟨some 26,.call (.fn 59) [(.tmp 3)],none⟩,⟨some 27,.bin .add .no (.tmp 26) (.const (.str [40])),none⟩,
 ⟨some 2,.mov (.tmp 27),none⟩]) (.ret)) (.skip))) (.region [⟨some 28,.call (.fn 57) [(.tmp 3),(.const (.b8 32))],none⟩]))))))))))) }

def F_date_words : ACFn := { nt := 4,results := [.tmp 2],body := (.seq (.region [⟨some 1,.box (.tmp 0),none⟩,⟨some 2,.mov (.const (.nilf)),none⟩]) (.seq (.region [⟨some 3,.mkfn 310 [(.tmp 1)],none⟩,⟨some 2,.mov (.tmp 3),none⟩]) (.ret))) }

def F_date_weekday : ACFn := { nt := 58,results := [.tmp 2,.tmp 3],body := (.seq (.region [⟨some 2,.mov (.const (.int .i64 0)),none⟩,⟨some 3,.mov (.const (.nils)),none⟩]) (.seq (.seq (.region [⟨some 8,.mov (.tmp 0),none⟩,⟨some 9,.len false (.tmp 8),none⟩,
 ⟨some 10,.bin .eql .no (.tmp 9) (.const (.int .i64 0)),none⟩]) (.cond (.tmp 10) (.seq (.region [⟨some 2,.mov (.const (.int .i64 (-2))),none⟩,⟨some 3,.mov (.const (.nils)),none⟩]) (.ret)) (.skip))) (.seq (.region [⟨some 12,.mov (.tmp 0),none⟩,
 ⟨some 13,.iaddr 1 (.tmp 12) (.const (.int .i64 0)),none⟩,⟨some 14,.load false 1 (.tmp 13),none⟩,⟨some 15,.call (.fn 128) [(.tmp 14),(.const (.str [44]))],none⟩,⟨some 11,.mov (.tmp 15),none⟩,⟨some 16,.ext 0 (.tmp 11),none⟩,
 ⟨some 17,.ext 1 (.tmp 11),none⟩,⟨some 18,.ext 2 (.tmp 11),none⟩,⟨some 4,.mov (.tmp 16),none⟩,⟨some 5,.mov (.tmp 17),none⟩,⟨some 6,.mov (.tmp 18),none⟩]) (.seq (.seq (.region [⟨some 19,.mov (.tmp 6),none⟩,
 ⟨some 20,.un .not (.tmp 19),none⟩,⟨some 21,.mov (.tmp 20),none⟩,⟨some 22,.mov (.tmp 0),some (21,true)⟩,⟨some 23,.len false (.tmp 22),some (21,true)⟩,⟨some 24,.bin .gtr .no (.tmp 23) (.const (.int .i64 1)),some (21,true)⟩,
 ⟨some 25,.pick (.tmp 21) (.tmp 24) (.const (.bool false)),none⟩,⟨some 26,.mov (.tmp 25),none⟩,⟨some 27,.mov (.tmp 0),some (26,true)⟩,⟨some 28,.iaddr 1 (.tmp 27) (.const (.int .i64 1)),some (26,true)⟩,⟨some 29,.load false 1 (.tmp 28),some (26,true)⟩,
 ⟨some 30,.call (.fn 72) [(.tmp 29),(.const (.str [44]))],some (26,true)⟩,⟨some 31,.pick (.tmp 26) (.tmp 30) (.const (.bool false)),none⟩]) (.cond (.tmp 31) (.seq (.region [⟨some 32,.mov (.tmp 0),none⟩,
 ⟨some 33,.iaddr 1 (.tmp 32) (.const (.int .i64 0)),none⟩,⟨some 34,.load false 1 (.tmp 33),none⟩,⟨some 35,.mov (.tmp 0),none⟩,⟨some 36,.iaddr 1 (.tmp 35) (.const (.int .i64 1)),none⟩,⟨some 37,.load false 1 (.tmp 36),none⟩,
 ⟨some 38,.slc 0 (.tmp 37) (some (.const (.int .i64 1))) none none,none⟩,⟨some 4,.mov (.tmp 34),none⟩,⟨some 5,.mov (.tmp 38),none⟩,⟨some 6,.mov (.const (.bool true)),none⟩]) (.region [⟨some 39,.mov (.tmp 0),none⟩,
 ⟨some 40,.slc 1 (.tmp 39) (some (.const (.int .i64 1))) none none,none⟩,⟨some 0,.mov (.tmp 40),none⟩])) (.skip))) (.seq (.seq (.region [⟨some 41,.mov (.tmp 6),none⟩,⟨some 42,.un .not (.tmp 41),none⟩]) (.cond (.tmp 42) (.seq (.region [⟨some 43,.mov (.tmp 0),none⟩,
 ⟨some 2,.mov (.const (.int .i64 (-1))),none⟩,⟨some 3,.mov (.tmp 43),none⟩]) (.ret)) (.skip))) (.seq (.region [⟨some 44,.mov (.tmp 4),none⟩,⟨some 45,.call (.fn 288) [(.tmp 44),(.const (.int .i64 7)),(.fn 277)],none⟩,
 ⟨some 7,.mov (.tmp 45),none⟩]) (.seq (.seq (.region [⟨some 46,.mov (.tmp 7),none⟩,⟨some 47,.bin .lss .no (.tmp 46) (.const (.int .i64 0)),none⟩]) (.cond (.tmp 47) (.seq (.region [⟨some 2,.mov (.const (.int .i64 (-2))),none⟩,
 ⟨some 3,.mov (.const (.nils)),none⟩]) (.ret)) (.skip))) (.seq (.region [⟨some 48,.mov (.tmp 0),none⟩,⟨some 49,.slc 1 (.tmp 48) (some (.const (.int .i64 1))) none none,none⟩,⟨some 0,.mov (.tmp 49),none⟩]) (.seq (.seq (.region [⟨some 50,.mov (.tmp 5),none⟩,
 ⟨some 51,.bin .neq .no (.tmp 50) (.const (.str [])),none⟩]) (.cond (.tmp 51) (.region [⟨some 52,.mov (.tmp 5),none⟩,⟨some 53,.lit 1 (.str []) 1 [(0,(.tmp 52))],none⟩,⟨some 54,.mov (.tmp 0),none⟩,⟨some 55,.app false 1 (.tmp 53) (.tmp 54),none⟩,
 ⟨some 0,.mov (.tmp 55),none⟩]) (.skip))) (.seq (.region [⟨some 56,.mov (.tmp 7),none⟩,⟨some 57,.mov (.tmp 0),none⟩,⟨some 2,.mov (.tmp 56),none⟩,⟨some 3,.mov (.tmp 57),none⟩]) (.ret))))))))))) }

def F_date_digits : ACFn := { nt := 41,results := [.tmp 6],body := (.seq (.region [⟨some 6,.mov (.const (.int .i64 0)),none⟩]) (.seq (.region [⟨some 7,.mov (.const (.int .i64 0)),none⟩]) (.seq (.seq (.region [⟨some 9,.mov (.tmp 0),none⟩,
 ⟨some 10,.len true (.tmp 9),none⟩,⟨some 11,.mov (.const (.int .i64 0)),none⟩]) (.block 0 (.loop (.seq (.region [⟨some 12,.bin .lss .no (.tmp 11) (.tmp 10),none⟩]) (.seq (.cond (.tmp 12) (.skip) (.exit 0)) (.seq (.block 1 (.seq (.region [⟨some 13,.mov (.tmp 11),none⟩,
 ⟨some 8,.mov (.tmp 13),none⟩]) (.seq (.seq (.region [⟨some 14,.mov (.tmp 0),none⟩,⟨some 15,.mov (.tmp 8),none⟩,⟨some 16,.idxS (.tmp 14) (.tmp 15),none⟩,⟨some 17,.bin .lss .no (.tmp 16) (.const (.b8 48)),none⟩,
 ⟨some 18,.mov (.tmp 17),none⟩,⟨some 19,.mov (.tmp 0),some (18,false)⟩,⟨some 20,.mov (.tmp 8),some (18,false)⟩,⟨some 21,.idxS (.tmp 19) (.tmp 20),some (18,false)⟩,⟨some 22,.bin .gtr .no (.tmp 21) (.const (.b8 57)),some (18,false)⟩,
 ⟨some 23,.pick (.tmp 18) (.const (.bool true)) (.tmp 22),none⟩]) (.cond (.tmp 23) (.seq (.region [⟨some 6,.mov (.const (.int .i64 (-1))),none⟩]) (.ret)) (.skip))) (.seq (.region [⟨some 24,.mov (.tmp 7),none⟩,
 ⟨some 25,.bin .mul .no (.const (.int .i64 10)) (.tmp 24),none⟩,⟨some 26,.mov (.tmp 0),none⟩,⟨some 27,.mov (.tmp 8),none⟩,⟨some 28,.idxS (.tmp 26) (.tmp 27),none⟩,⟨some 29,.bin .sub .no (.tmp 28) (.const (.b8 48)),none⟩,
 ⟨some 30,.cInt .i64 (.tmp 29),none⟩,⟨some 31,.bin .add .no (.tmp 25) (.tmp 30),none⟩,⟨some 7,.mov (.tmp 31),none⟩]) (.seq (.region [⟨some 32,.mov (.tmp 8),none⟩,⟨some 33,.mov (.tmp 2),none⟩,⟨some 34,.bin .geq .no (.tmp 32) (.tmp 33),none⟩]) (.cond (.tmp 34) (.seq (.region [⟨some 6,.mov (.const (.int .i64 (-1))),none⟩]) (.ret)) (.skip))))))) (.region [⟨some 35,.bin .add .no (.tmp 11) (.const (.int .i64 1)),none⟩,
 ⟨some 11,.mov (.tmp 35),none⟩]))))))) (.seq (.seq (.region [⟨some 36,.mov (.tmp 0),none⟩,⟨some 37,.len true (.tmp 36),none⟩,⟨some 38,.mov (.tmp 1),none⟩,⟨some 39,.bin .lss .no (.tmp 37) (.tmp 38),none⟩]) (.cond (.tmp 39) (.seq (.region [⟨some 6,.mov (.const (.int .i64 (-1))),none⟩]) (.ret)) (.skip))) (.seq (.region [⟨some 40,.mov (.tmp 7),none⟩,
 ⟨some 6,.mov (.tmp 40),none⟩]) (.ret)))))) }

def F_date_name : ACFn := { nt := 25,results := [.tmp 6],body := (.seq (.region [⟨some 6,.mov (.const (.int .i64 0)),none⟩]) (.seq (.seq (.region [⟨some 8,.mov (.tmp 1),none⟩,⟨some 9,.mov (.const (.int .i64 0)),none⟩]) (.block 0 (.loop (.seq (.region [⟨some 10,.bin .lss .no (.tmp 9) (.tmp 8),none⟩]) (.seq (.cond (.tmp 10) (.skip) (.exit 0)) (.seq (.block 1 (.seq (.region [⟨some 11,.mov (.tmp 9),none⟩,
 ⟨some 7,.mov (.tmp 11),none⟩]) (.seq (.region [⟨some 12,.mov (.tmp 2),none⟩,⟨some 13,.mov (.tmp 7),none⟩,⟨some 14,.call (.tmp 12) [(.tmp 13)],none⟩,⟨some 15,.call (.fn 311) [(.tmp 14)],none⟩,⟨some 16,.mov (.tmp 0),none⟩,
 ⟨some 17,.call (.fn 311) [(.tmp 16)],none⟩,⟨some 18,.bin .eql .no (.tmp 15) (.tmp 17),none⟩,⟨some 19,.mov (.tmp 18),none⟩,⟨some 20,.mov (.tmp 0),some (19,true)⟩,⟨some 21,.bin .neq .no (.tmp 20) (.const (.str [])),some (19,true)⟩,
 ⟨some 22,.pick (.tmp 19) (.tmp 21) (.const (.bool false)),none⟩]) (.cond (.tmp 22) (.seq (.region [⟨some 23,.mov (.tmp 7),none⟩,⟨some 6,.mov (.tmp 23),none⟩]) (.ret)) (.skip))))) (.region [⟨some 24,.bin .add .no (.tmp 9) (.const (.int .i64 1)),none⟩,
 ⟨some 9,.mov (.tmp 24),none⟩]))))))) (.seq (.region [⟨some 6,.mov (.const (.int .i64 (-1))),none⟩]) (.ret)))) }

def F_date_year : ACFn := { nt := 21,results := [.tmp 2],body := (.seq (.region [⟨some 2,.mov (.const (.int .i64 0)),none⟩]) (.seq (.seq (.region [⟨some 4,.mov (.tmp 0),none⟩,⟨some 5,.len true (.tmp 4),none⟩,⟨some 6,.bin .eql .no (.tmp 5) (.const (.int .i64 4)),none⟩]) (.cond (.tmp 6) (.seq (.region [⟨some 7,.mov (.tmp 0),none⟩,
 ⟨some 8,.call (.fn 287) [(.tmp 7),(.const (.int .i64 4)),(.const (.int .i64 4))],none⟩,⟨some 2,.mov (.tmp 8),none⟩]) (.ret)) (.skip))) (.seq (.region [⟨some 9,.mov (.tmp 0),none⟩,⟨some 10,.call (.fn 287) [(.tmp 9),(.const (.int .i64 2)),(.const (.int .i64 2))],none⟩,
 ⟨some 3,.mov (.tmp 10),none⟩]) (.seq (.block 0 (.seq (.region [⟨some 12,.mov (.tmp 3),none⟩,⟨some 13,.bin .lss .no (.tmp 12) (.const (.int .i64 0)),none⟩,⟨some 11,.mov (.tmp 13),none⟩]) (.cond (.tmp 11) (.seq (.region [⟨some 2,.mov (.const (.int .i64 (-1))),none⟩]) (.ret)) (.seq (.region [⟨some 15,.mov (.tmp 3),none⟩,
 ⟨some 16,.bin .lss .no (.tmp 15) (.const (.int .i64 50)),none⟩,⟨some 14,.mov (.tmp 16),none⟩]) (.cond (.tmp 14) (.seq (.region [⟨some 17,.mov (.tmp 3),none⟩,⟨some 18,.bin .add .no (.const (.int .i64 2000)) (.tmp 17),none⟩,
 ⟨some 2,.mov (.tmp 18),none⟩]) (.ret)) (.skip)))))) (.seq (.region [⟨some 19,.mov (.tmp 3),none⟩,⟨some 20,.bin .add .no (.const (.int .i64 1900)) (.tmp 19),none⟩,⟨some 2,.mov (.tmp 20),none⟩]) (.ret)))))) }

def F_date_clock : ACFn := { nt := 62,results := [.tmp 2],body := (.seq (.region [⟨some 2,.mov (.const (.int .i64 0)),none⟩]) (.seq (.region [⟨some 7,.mov (.tmp 0),none⟩,⟨some 8,.call (.fn 133) [(.tmp 7),(.const (.str [58]))],none⟩,
 ⟨some 3,.mov (.tmp 8),none⟩]) (.seq (.seq (.region [⟨some 9,.mov (.tmp 3),none⟩,⟨some 10,.len false (.tmp 9),none⟩,⟨some 11,.bin .lss .no (.tmp 10) (.const (.int .i64 2)),none⟩,⟨some 12,.mov (.tmp 11),none⟩,
 ⟨some 13,.mov (.tmp 3),some (12,false)⟩,⟨some 14,.len false (.tmp 13),some (12,false)⟩,⟨some 15,.bin .gtr .no (.tmp 14) (.const (.int .i64 3)),some (12,false)⟩,⟨some 16,.pick (.tmp 12) (.const (.bool true)) (.tmp 15),none⟩]) (.cond (.tmp 16) (.seq (.region [⟨some 2,.mov (.const (.int .i64 (-1))),none⟩]) (.ret)) (.skip))) (.seq (.region [⟨some 17,.mov (.tmp 3),none⟩,
 ⟨some 18,.iaddr 1 (.tmp 17) (.const (.int .i64 0)),none⟩,⟨some 19,.loadc false 1 (.tmp 18),none⟩,⟨some 20,.call (.fn 287) [(.tmp 19),(.const (.int .i64 2)),(.const (.int .i64 2))],none⟩,⟨some 21,.mov (.tmp 3),none⟩,
 ⟨some 22,.iaddr 1 (.tmp 21) (.const (.int .i64 1)),none⟩,⟨some 23,.loadc false 1 (.tmp 22),none⟩,⟨some 24,.call (.fn 287) [(.tmp 23),(.const (.int .i64 2)),(.const (.int .i64 2))],none⟩,⟨some 4,.mov (.tmp 20),none⟩,
 ⟨some 5,.mov (.tmp 24),none⟩,⟨some 6,.mov (.const (.int .i64 0)),none⟩]) (.seq (.seq (.region [⟨some 25,.mov (.tmp 3),none⟩,⟨some 26,.len false (.tmp 25),none⟩,⟨some 27,.bin .eql .no (.tmp 26) (.const (.int .i64 3)),none⟩]) (.cond (.tmp 27) (.region [⟨some 28,.mov (.tmp 3),none⟩,
 ⟨some 29,.iaddr 1 (.tmp 28) (.const (.int .i64 2)),none⟩,⟨some 30,.loadc false 1 (.tmp 29),none⟩,⟨some 31,.call (.fn 287) [(.tmp 30),(.const (.int .i64 2)),(.const (.int .i64 2))],none⟩,⟨some 6,.mov (.tmp 31),none⟩]) (.skip))) (.seq (.seq (.region [⟨some 32,.mov (.tmp 4),none⟩,
 ⟨some 33,.bin .lss .no (.tmp 32) (.const (.int .i64 0)),none⟩,⟨some 34,.mov (.tmp 33),none⟩,⟨some 35,.mov (.tmp 4),some (34,false)⟩,⟨some 36,.bin .gtr .no (.tmp 35) (.const (.int .i64 23)),some (34,false)⟩,
 ⟨some 37,.pick (.tmp 34) (.const (.bool true)) (.tmp 36),none⟩,⟨some 38,.mov (.tmp 37),none⟩,⟨some 39,.mov (.tmp 5),some (38,false)⟩,⟨some 40,.bin .lss .no (.tmp 39) (.const (.int .i64 0)),some (38,false)⟩,
 ⟨some 41,.pick (.tmp 38) (.const (.bool true)) (.tmp 40),none⟩,⟨some 42,.mov (.tmp 41),none⟩,⟨some 43,.mov (.tmp 5),some (42,false)⟩,⟨some 44,.bin .gtr .no (.tmp 43) (.const (.int .i64 59)),some (42,false)⟩,
 ⟨some 45,.pick (.tmp 42) (.const (.bool true)) (.tmp 44),none⟩,⟨some 46,.mov (.tmp 45),none⟩,⟨some 47,.mov (.tmp 6),some (46,false)⟩,⟨some 48,.bin .lss .no (.tmp 47) (.const (.int .i64 0)),some (46,false)⟩,
 ⟨some 49,.pick (.tmp 46) (.const (.bool true)) (.tmp 48),none⟩,⟨some 50,.mov (.tmp 49),none⟩,⟨some 51,.mov (.tmp 6),some (50,false)⟩,⟨some 52,.bin .gtr .no (.tmp 51) (.const (.int .i64 60)),some (50,false)⟩,
 ⟨some 53,.pick (.tmp 50) (.const (.bool true)) (.tmp 52),none⟩]) (.cond (.tmp 53) (.seq (.region [⟨some 2,.mov (.const (.int .i64 (-1))),none⟩]) (.ret)) (.skip))) (.seq (.region [⟨some 54,.mov (.tmp 4),none⟩,
 ⟨some 55,.bin .mul .no (.tmp 54) (.const (.int .i64 3600)),none⟩,⟨some 56,.mov (.tmp 5),none⟩,⟨some 57,.bin .mul .no (.tmp 56) (.const (.int .i64 60)),none⟩,⟨some 58,.bin .add .no (.tmp 55) (.tmp 57),none⟩,
 ⟨some 59,.mov (.tmp 6),none⟩,⟨some 60,.mnmx false [(.tmp 59),(.const (.int .i64 59))],none⟩,⟨some 61,.bin .add .no (.tmp 58) (.tmp 60),none⟩,⟨some 2,.mov (.tmp 61),none⟩]) (.ret)))))))) }

def F_date_zone : ACFn := { nt := 64,results := [.tmp 2,.tmp 3],body := (.seq (.region [⟨some 2,.mov (.const (.int .i64 0)),none⟩,⟨some 3,.mov (.const (.bool false)),none⟩]) (.seq (.seq (.region [⟨some 7,.mov (.tmp 0),none⟩,⟨some 8,.call (.fn 311) [(.tmp 7)],none⟩]) (.block 0 (.seq (.seq (.region [⟨some 10,.bin .eql .no (.tmp 8) (.const (.str [117,116])),none⟩,
 ⟨some 9,.mov (.tmp 10),none⟩]) (.cond (.tmp 9) (.skip) (.seq (.region [⟨some 11,.bin .eql .no (.tmp 8) (.const (.str [103,109,116])),none⟩,⟨some 9,.mov (.tmp 11),none⟩]) (.cond (.tmp 9) (.skip) (.seq (.region [⟨some 12,.bin .eql .no (.tmp 8) (.const (.str [122])),none⟩,
 ⟨some 9,.mov (.tmp 12),none⟩]) (.cond (.tmp 9) (.skip) (.region [⟨some 13,.bin .eql .no (.tmp 8) (.const (.str [])),none⟩,⟨some 9,.mov (.tmp 13),none⟩]))))))) (.cond (.tmp 9) (.seq (.region [⟨some 2,.mov (.const (.int .i64 0)),none⟩,
 ⟨some 3,.mov (.const (.bool true)),none⟩]) (.ret)) (.seq (.region [⟨some 15,.bin .eql .no (.tmp 8) (.const (.str [101,100,116])),none⟩,⟨some 14,.mov (.tmp 15),none⟩]) (.cond (.tmp 14) (.seq (.region [⟨some 2,.mov (.const (.int .i64 (-14400))),none⟩,
 ⟨some 3,.mov (.const (.bool true)),none⟩]) (.ret)) (.seq (.seq (.region [⟨some 17,.bin .eql .no (.tmp 8) (.const (.str [101,115,116])),none⟩,⟨some 16,.mov (.tmp 17),none⟩]) (.cond (.tmp 16) (.skip) (.region [⟨some 18,.bin .eql .no (.tmp 8) (.const (.str [99,100,116])),none⟩,
 ⟨some 16,.mov (.tmp 18),none⟩]))) (.cond (.tmp 16) (.seq (.region [⟨some 2,.mov (.const (.int .i64 (-18000))),none⟩,⟨some 3,.mov (.const (.bool true)),none⟩]) (.ret)) (.seq (.seq (.region [⟨some 20,.bin .eql .no (.tmp 8) (.const (.str [99,115,116])),none⟩,
 ⟨some 19,.mov (.tmp 20),none⟩]) (.cond (.tmp 19) (.skip) (.region [⟨some 21,.bin .eql .no (.tmp 8) (.const (.str [109,100,116])),none⟩,⟨some 19,.mov (.tmp 21),none⟩]))) (.cond (.tmp 19) (.seq (.region [⟨some 2,.mov (.const (.int .i64 (-21600))),none⟩,
 ⟨some 3,.mov (.const (.bool true)),none⟩]) (.ret)) (.seq (.seq (.region [⟨some 23,.bin .eql .no (.tmp 8) (.const (.str [109,115,116])),none⟩,⟨some 22,.mov (.tmp 23),none⟩]) (.cond (.tmp 22) (.skip) (.region [⟨some 24,.bin .eql .no (.tmp 8) (.const (.str [112,100,116])),none⟩,
 ⟨some 22,.mov (.tmp 24),none⟩]))) (.cond (.tmp 22) (.seq (.region [⟨some 2,.mov (.const (.int .i64 (-25200))),none⟩,⟨some 3,.mov (.const (.bool true)),none⟩]) (.ret)) (.seq (.region [⟨some 26,.bin .eql .no (.tmp 8) (.const (.str [112,115,116])),none⟩,
 ⟨some 25,.mov (.tmp 26),none⟩]) (.cond (.tmp 25) (.seq (.region [⟨some 2,.mov (.const (.int .i64 (-28800))),none⟩,⟨some 3,.mov (.const (.bool true)),none⟩]) (.ret)) (.skip))))))))))))))) (.seq (.seq (.region [⟨some 27,.mov (.tmp 0),none⟩,
 ⟨some 28,.idxS (.tmp 27) (.const (.int .i64 0)),none⟩,⟨some 29,.bin .neq .no (.tmp 28) (.const (.b8 43)),none⟩,⟨some 30,.mov (.tmp 29),none⟩,⟨some 31,.mov (.tmp 0),some (30,true)⟩,⟨some 32,.idxS (.tmp 31) (.const (.int .i64 0)),some (30,true)⟩,
 ⟨some 33,.bin .neq .no (.tmp 32) (.const (.b8 45)),some (30,true)⟩,⟨some 34,.pick (.tmp 30) (.tmp 33) (.const (.bool false)),none⟩,⟨some 35,.mov (.tmp 34),none⟩,⟨some 36,.mov (.tmp 0),some (35,false)⟩,
 ⟨some 37,.slc 0 (.tmp 36) (some (.const (.int .i64 1))) none none,some (35,false)⟩,⟨some 38,.call (.fn 287) [(.tmp 37),(.const (.int .i64 4)),(.const (.int .i64 4))],some (35,false)⟩,⟨some 39,.bin .lss .no (.tmp 38) (.const (.int .i64 0)),some (35,false)⟩,
 ⟨some 40,.pick (.tmp 35) (.const (.bool true)) (.tmp 39),none⟩]) (.cond (.tmp 40) (.seq (.region [⟨some 2,.mov (.const (.int .i64 0)),none⟩,⟨some 3,.mov (.const (.bool false)),none⟩]) (.ret)) (.skip))) (.seq (.region [⟨some 41,.mov (.tmp 0),none⟩,
 ⟨some 42,.slc 0 (.tmp 41) (some (.const (.int .i64 1))) (some (.const (.int .i64 3))) none,none⟩,⟨some 43,.call (.fn 287) [(.tmp 42),(.const (.int .i64 2)),(.const (.int .i64 2))],none⟩,⟨some 44,.mov (.tmp 0),none⟩,
 ⟨some 45,.slc 0 (.tmp 44) (some (.const (.int .i64 3))) none none,none⟩,⟨some 46,.call (.fn 287) [(.tmp 45),(.const (.int .i64 2)),(.const (.int .i64 2))],none⟩,⟨some 4,.mov (.tmp 43),none⟩,⟨some 5,.mov (.tmp 46),none⟩]) (.seq (.region [⟨some 47,.mov (.tmp 4),none⟩,
 ⟨some 48,.bin .mul .no (.tmp 47) (.const (.int .i64 3600)),none⟩,⟨some 49,.mov (.tmp 5),none⟩,⟨some 50,.bin .mul .no (.tmp 49) (.const (.int .i64 60)),none⟩,⟨some 51,.bin .add .no (.tmp 48) (.tmp 50),none⟩,
 ⟨some 6,.mov (.tmp 51),none⟩]) (.seq (.seq (.region [⟨some 52,.mov (.tmp 0),none⟩,⟨some 53,.idxS (.tmp 52) (.const (.int .i64 0)),none⟩,⟨some 54,.bin .eql .no (.tmp 53) (.const (.b8 45)),none⟩]) (.cond (.tmp 54) (.region [⟨some 55,.mov (.tmp 6),none⟩,
 ⟨some 56,.un .neg (.tmp 55),none⟩,⟨some 6,.mov (.tmp 56),none⟩]) (.skip))) (.seq (.region [⟨some 57,.mov (.tmp 6),none⟩,⟨some 58,.mov (.tmp 4),none⟩,⟨some 59,.bin .lss .no (.tmp 58) (.const (.int .i64 24)),none⟩,
 ⟨some 60,.mov (.tmp 59),none⟩,⟨some 61,.mov (.tmp 5),some (60,true)⟩,⟨some 62,.bin .lss .no (.tmp 61) (.const (.int .i64 60)),some (60,true)⟩,⟨some 63,.pick (.tmp 60) (.tmp 62) (.const (.bool false)),none⟩,
 ⟨some 2,.mov (.tmp 57),none⟩,⟨some 3,.mov (.tmp 63),none⟩]) (.ret)))))))) }

def F_when_Days : ACFn := { nt := 53,results := [.tmp 6,.tmp 7],body := (.seq (.region [⟨some 6,.mov (.const (.int .i64 0)),none⟩,⟨some 7,.mov (.const (.int .i64 0)),none⟩]) (.seq (.seq (.region [⟨some 10,.mov (.tmp 0),none⟩,⟨some 11,.bin .lss .no (.tmp 10) (.const (.int .i64 1970)),none⟩,
 ⟨some 12,.mov (.tmp 11),none⟩,⟨some 13,.mov (.tmp 0),some (12,false)⟩,⟨some 14,.bin .gtr .no (.tmp 13) (.const (.int .i64 9999)),some (12,false)⟩,⟨some 15,.pick (.tmp 12) (.const (.bool true)) (.tmp 14),none⟩,
 ⟨some 16,.mov (.tmp 15),none⟩,⟨some 17,.mov (.tmp 1),some (16,false)⟩,⟨some 18,.bin .lss .no (.tmp 17) (.const (.int .i64 1)),some (16,false)⟩,⟨some 19,.pick (.tmp 16) (.const (.bool true)) (.tmp 18),none⟩,
 ⟨some 20,.mov (.tmp 19),none⟩,⟨some 21,.mov (.tmp 1),some (20,false)⟩,⟨some 22,.bin .gtr .no (.tmp 21) (.const (.int .i64 12)),some (20,false)⟩,⟨some 23,.pick (.tmp 20) (.const (.bool true)) (.tmp 22),none⟩,
 ⟨some 24,.mov (.tmp 23),none⟩,⟨some 25,.mov (.tmp 2),some (24,false)⟩,⟨some 26,.bin .lss .no (.tmp 25) (.const (.int .i64 1)),some (24,false)⟩,⟨some 27,.pick (.tmp 24) (.const (.bool true)) (.tmp 26),none⟩,
 ⟨some 28,.mov (.tmp 27),none⟩,⟨some 29,.mov (.tmp 2),some (28,false)⟩,⟨some 30,.mov (.tmp 0),some (28,false)⟩,⟨some 31,.mov (.tmp 1),some (28,false)⟩,⟨some 32,.call (.fn 307) [(.tmp 30),(.tmp 31)],some (28,false)⟩,
 ⟨some 33,.bin .gtr .no (.tmp 29) (.tmp 32),some (28,false)⟩,⟨some 34,.pick (.tmp 28) (.const (.bool true)) (.tmp 33),none⟩]) (.cond (.tmp 34) (.seq (.region [⟨some 6,.mov (.const (.int .i64 0)),none⟩,⟨some 7,.mov (.const (.int .i64 110)),none⟩]) (.ret)) (.skip))) (.seq (.region [⟨some 35,.mov (.tmp 0),none⟩,
 ⟨some 36,.call (.fn 306) [(.tmp 35)],none⟩,⟨some 37,.mov (.tmp 2),none⟩,⟨some 38,.bin .add .no (.tmp 36) (.tmp 37),none⟩,⟨some 39,.bin .sub .no (.tmp 38) (.const (.int .i64 1)),none⟩,⟨some 8,.mov (.tmp 39),none⟩]) (.seq (.seq (.region [⟨some 40,.mov (.tmp 1),none⟩,
 ⟨some 41,.mov (.const (.int .i64 0)),none⟩]) (.block 0 (.loop (.seq (.region [⟨some 42,.bin .lss .no (.tmp 41) (.tmp 40),none⟩]) (.seq (.cond (.tmp 42) (.skip) (.exit 0)) (.seq (.block 1 (.seq (.region [⟨some 43,.mov (.tmp 41),none⟩,
 ⟨some 9,.mov (.tmp 43),none⟩]) (.seq (.region [⟨some 44,.mov (.tmp 9),none⟩,⟨some 45,.bin .gtr .no (.tmp 44) (.const (.int .i64 0)),none⟩]) (.cond (.tmp 45) (.region [⟨some 46,.mov (.tmp 8),none⟩,⟨some 47,.mov (.tmp 0),none⟩,
 ⟨some 48,.mov (.tmp 9),none⟩,⟨some 49,.call (.fn 307) [(.tmp 47),(.tmp 48)],none⟩,⟨some 50,.bin .add .no (.tmp 46) (.tmp 49),none⟩,⟨some 8,.mov (.tmp 50),none⟩]) (.skip))))) (.region [⟨some 51,.bin .add .no (.tmp 41) (.const (.int .i64 1)),none⟩,
 ⟨some 41,.mov (.tmp 51),none⟩]))))))) (.seq (.region [⟨some 52,.mov (.tmp 8),none⟩,⟨some 6,.mov (.tmp 52),none⟩,⟨some 7,.mov (.const (.int .i64 0)),none⟩]) (.ret)))))) }

def F_strings_CutPrefix : ACFn := { nt := 11,results := [.tmp 4,.tmp 5],body := (.seq (.region [⟨some 4,.mov (.const (.str [])),none⟩,⟨some 5,.mov (.const (.bool false)),none⟩]) (.seq (.region [⟨some 6,.mov (.tmp 0),none⟩,⟨some 7,.mov (.tmp 1),none⟩,
 ⟨some 8,.call (.fn 314) [(.tmp 6),(.tmp 7)],none⟩,⟨some 9,.ext 0 (.tmp 8),none⟩,⟨some 10,.ext 1 (.tmp 8),none⟩,⟨some 4,.mov (.tmp 9),none⟩,⟨some 5,.mov (.tmp 10),none⟩]) (.ret))) }

def F_when_before : ACFn := { nt := 19,results := [.tmp 2],body := (.seq (.region [⟨some 2,.mov (.const (.int .i64 0)),none⟩]) (.seq (.region [⟨some 4,.mov (.tmp 0),none⟩,⟨some 5,.bin .sub .no (.tmp 4) (.const (.int .i64 1)),none⟩,
 ⟨some 3,.mov (.tmp 5),none⟩]) (.seq (.region [⟨some 6,.mov (.tmp 3),none⟩,⟨some 7,.bin .sub .no (.tmp 6) (.const (.int .i64 1969)),none⟩,⟨some 8,.bin .mul .no (.const (.int .i64 365)) (.tmp 7),none⟩,⟨some 9,.mov (.tmp 3),none⟩,
 ⟨some 10,.bin .quo .no (.tmp 9) (.const (.int .i64 4)),none⟩,⟨some 11,.bin .add .no (.tmp 8) (.tmp 10),none⟩,⟨some 12,.mov (.tmp 3),none⟩,⟨some 13,.bin .quo .no (.tmp 12) (.const (.int .i64 100)),none⟩,
 ⟨some 14,.bin .sub .no (.tmp 11) (.tmp 13),none⟩,⟨some 15,.mov (.tmp 3),none⟩,⟨some 16,.bin .quo .no (.tmp 15) (.const (.int .i64 400)),none⟩,⟨some 17,.bin .add .no (.tmp 14) (.tmp 16),none⟩,⟨some 18,.bin .sub .no (.tmp 17) (.const (.int .i64 477)),none⟩,
 ⟨some 2,.mov (.tmp 18),none⟩]) (.ret)))) }

def F_when_month : ACFn := { nt := 16,results := [.tmp 4],body := (.seq (.region [⟨some 4,.mov (.const (.int .i64 0)),none⟩]) (.seq (.region [⟨some 6,.build [.int .i64 0,.int .i64 0,.int .i64 0,.int .i64 0,.int .i64 0,.int .i64 0,.int .i64 0,.int .i64 0,.int .i64 0,.int .i64 0,.int .i64 0,.int .i64 0,.int .i64 0] [(0,1,(.const (.int .i64 0))),(1,1,(.const (.int .i64 31))),(2,1,(.const (.int .i64 28))),(3,1,(.const (.int .i64 31))),(4,1,(.const (.int .i64 30))),(5,1,(.const (.int .i64 31))),(6,1,(.const (.int .i64 30))),(7,1,(.const (.int .i64 31))),(8,1,(.const (.int .i64 31))),(9,1,(.const (.int .i64 30))),(10,1,(.const (.int .i64 31))),(11,1,(.const (.int .i64 30))),(12,1,(.const (.int .i64 31)))],none⟩,
 ⟨some 5,.alloc [.int .i64 0,.int .i64 0,.int .i64 0,.int .i64 0,.int .i64 0,.int .i64 0,.int .i64 0,.int .i64 0,.int .i64 0,.int .i64 0,.int .i64 0,.int .i64 0,.int .i64 0],none⟩,⟨none,.store 13 (.tmp 5) (.tmp 6),none⟩]) (.seq (.seq (.region [⟨some 7,.mov (.tmp 1),none⟩,
 ⟨some 8,.bin .eql .no (.tmp 7) (.const (.int .i64 2)),none⟩,⟨some 9,.mov (.tmp 8),none⟩,⟨some 10,.mov (.tmp 0),some (9,true)⟩,⟨some 11,.call (.fn 315) [(.tmp 10)],some (9,true)⟩,⟨some 12,.pick (.tmp 9) (.tmp 11) (.const (.bool false)),none⟩]) (.cond (.tmp 12) (.seq (.region [⟨some 4,.mov (.const (.int .i64 29)),none⟩]) (.ret)) (.skip))) (.seq (.region [⟨some 13,.mov (.tmp 1),none⟩,
 ⟨some 14,.iaddrA 13 1 (.tmp 5) (.tmp 13),none⟩,⟨some 15,.load false 1 (.tmp 14),none⟩,⟨some 4,.mov (.tmp 15),none⟩]) (.ret))))) }

def F_date_words_c1 : ACFn := { nt := 41,results := [],body := (.seq (.region [⟨some 3,.mov (.const (.str [])),none⟩]) (.seq (.seq (.region [⟨some 5,.load false 1 (.tmp 1),none⟩,⟨some 6,.len true (.tmp 5),none⟩,⟨some 7,.mov (.const (.int .i64 0)),none⟩]) (.block 0 (.loop (.seq (.region [⟨some 8,.bin .lss .no (.tmp 7) (.tmp 6),none⟩]) (.seq (.cond (.tmp 8) (.skip) (.exit 0)) (.seq (.block 1 (.seq (.region [⟨some 9,.mov (.tmp 7),none⟩,
 ⟨some 4,.mov (.tmp 9),none⟩]) (.seq (.seq (.region [⟨some 10,.load false 1 (.tmp 1),none⟩,⟨some 11,.mov (.tmp 4),none⟩,⟨some 12,.idxS (.tmp 10) (.tmp 11),none⟩,⟨some 13,.bin .neq .no (.tmp 12) (.const (.b8 32)),none⟩,
 ⟨some 14,.mov (.tmp 13),none⟩,⟨some 15,.load false 1 (.tmp 1),some (14,true)⟩,⟨some 16,.mov (.tmp 4),some (14,true)⟩,⟨some 17,.idxS (.tmp 15) (.tmp 16),some (14,true)⟩,⟨some 18,.bin .neq .no (.tmp 17) (.const (.b8 9)),some (14,true)⟩,
 ⟨some 19,.pick (.tmp 14) (.tmp 18) (.const (.bool false)),none⟩]) (.cond (.tmp 19) (.seq (.region [⟨some 20,.mov (.tmp 3),none⟩,⟨some 21,.load false 1 (.tmp 1),none⟩,⟨some 22,.mov (.tmp 4),none⟩,⟨some 23,.mov (.tmp 4),none⟩,
 ⟨some 24,.bin .add .no (.tmp 23) (.const (.int .i64 1)),none⟩,⟨some 25,.slc 0 (.tmp 21) (some (.tmp 22)) (some (.tmp 24)) none,none⟩,⟨some 26,.bin .add .no (.tmp 20) (.tmp 25),none⟩,⟨some 3,.mov (.tmp 26),none⟩]) (.exit 1)) (.skip))) (.seq (.seq (.region [⟨some 27,.mov (.tmp 3),none⟩,
 ⟨some 28,.bin .neq .no (.tmp 27) (.const (.str [])),none⟩,⟨some 29,.mov (.tmp 28),none⟩,⟨some 30,.mov (.tmp 0),some (29,true)⟩,⟨some 31,.mov (.tmp 3),some (29,true)⟩,⟨some 32,.call (.tmp 30) [(.tmp 31)],some (29,true)⟩,
 ⟨some 33,.un .not (.tmp 32),some (29,true)⟩,⟨some 34,.pick (.tmp 29) (.tmp 33) (.const (.bool false)),none⟩]) (.cond (.tmp 34) (.ret) (.skip))) (.region [⟨some 3,.mov (.const (.str [])),none⟩]))))) (.region [⟨some 35,.bin .add .no (.tmp 7) (.const (.int .i64 1)),none⟩,
 ⟨some 7,.mov (.tmp 35),none⟩]))))))) (.seq (.region [⟨some 36,.mov (.tmp 3),none⟩,⟨some 37,.bin .neq .no (.tmp 36) (.const (.str [])),none⟩]) (.cond (.tmp 37) (.region [⟨some 38,.mov (.tmp 0),none⟩,⟨some 39,.mov (.tmp 3),none⟩,
 ⟨some 40,.call (.tmp 38) [(.tmp 39)],none⟩]) (.skip))))) }

def F_date_lower : ACFn := { nt := 29,results := [.tmp 2],body := (.seq (.region [⟨some 2,.mov (.const (.str [])),none⟩]) (.seq (.region [⟨some 6,.mov (.tmp 0),none⟩,⟨some 7,.cS2B true (.tmp 6),none⟩,⟨some 3,.mov (.tmp 7),none⟩]) (.seq (.seq (.region [⟨some 8,.mov (.tmp 3),none⟩,
 ⟨some 9,.len false (.tmp 8),none⟩,⟨some 10,.mov (.const (.int .i64 0)),none⟩]) (.block 0 (.loop (.seq (.region [⟨some 11,.bin .lss .no (.tmp 10) (.tmp 9),none⟩]) (.seq (.cond (.tmp 11) (.skip) (.exit 0)) (.seq (.block 1 (.seq (.region [⟨some 12,.mov (.tmp 10),none⟩,
 ⟨some 13,.iaddr 1 (.tmp 8) (.tmp 10),none⟩,⟨some 14,.load false 1 (.tmp 13),none⟩,⟨some 4,.mov (.tmp 12),none⟩,⟨some 5,.mov (.tmp 14),none⟩]) (.seq (.region [⟨some 15,.mov (.tmp 5),none⟩,⟨some 16,.bin .geq .no (.tmp 15) (.const (.b8 65)),none⟩,
 ⟨some 17,.mov (.tmp 16),none⟩,⟨some 18,.mov (.tmp 5),some (17,true)⟩,⟨some 19,.bin .leq .no (.tmp 18) (.const (.b8 90)),some (17,true)⟩,⟨some 20,.pick (.tmp 17) (.tmp 19) (.const (.bool false)),none⟩]) (.cond (.tmp 20) (.region [⟨some 21,.mov (.tmp 3),none⟩,
 ⟨some 22,.mov (.tmp 4),none⟩,⟨some 23,.mov (.tmp 5),none⟩,⟨some 24,.bin .add .no (.tmp 23) (.const (.b8 32)),none⟩,⟨some 25,.iaddr 1 (.tmp 21) (.tmp 22),none⟩,⟨none,.store 1 (.tmp 25) (.tmp 24),none⟩]) (.skip))))) (.region [⟨some 26,.bin .add .no (.tmp 10) (.const (.int .i64 1)),none⟩,
 ⟨some 10,.mov (.tmp 26),none⟩]))))))) (.seq (.region [⟨some 27,.mov (.tmp 3),none⟩,⟨some 28,.cB2S true (.tmp 27),none⟩,⟨some 2,.mov (.tmp 28),none⟩]) (.ret))))) }

def F_internal_stringslite_CutPrefix : ACFn := { nt := 15,results := [.tmp 4,.tmp 5],body := (.seq (.region [⟨some 4,.mov (.const (.str [])),none⟩,⟨some 5,.mov (.const (.bool false)),none⟩]) (.seq (.seq (.region [⟨some 6,.mov (.tmp 0),none⟩,⟨some 7,.mov (.tmp 1),none⟩,
 ⟨some 8,.call (.fn 79) [(.tmp 6),(.tmp 7)],none⟩,⟨some 9,.un .not (.tmp 8),none⟩]) (.cond (.tmp 9) (.seq (.region [⟨some 10,.mov (.tmp 0),none⟩,⟨some 4,.mov (.tmp 10),none⟩,⟨some 5,.mov (.const (.bool false)),none⟩]) (.ret)) (.skip))) (.seq (.region [⟨some 11,.mov (.tmp 0),none⟩,
 ⟨some 12,.mov (.tmp 1),none⟩,⟨some 13,.len true (.tmp 12),none⟩,⟨some 14,.slc 0 (.tmp 11) (some (.tmp 13)) none none,none⟩,⟨some 4,.mov (.tmp 14),none⟩,⟨some 5,.mov (.const (.bool true)),none⟩]) (.ret)))) }

def F_when_leap : ACFn := { nt := 16,results := [.tmp 2],body := (.seq (.region [⟨some 2,.mov (.const (.bool false)),none⟩]) (.seq (.region [⟨some 3,.mov (.tmp 0),none⟩,⟨some 4,.bin .rem .no (.tmp 3) (.const (.int .i64 4)),none⟩,
 ⟨some 5,.bin .eql .no (.tmp 4) (.const (.int .i64 0)),none⟩,⟨some 6,.mov (.tmp 5),none⟩,⟨some 7,.mov (.tmp 0),some (6,true)⟩,⟨some 8,.bin .rem .no (.tmp 7) (.const (.int .i64 100)),some (6,true)⟩,⟨some 9,.bin .neq .no (.tmp 8) (.const (.int .i64 0)),some (6,true)⟩,
 ⟨some 10,.pick (.tmp 6) (.tmp 9) (.const (.bool false)),none⟩,⟨some 11,.mov (.tmp 10),none⟩,⟨some 12,.mov (.tmp 0),some (11,false)⟩,⟨some 13,.bin .rem .no (.tmp 12) (.const (.int .i64 400)),some (11,false)⟩,
 ⟨some 14,.bin .eql .no (.tmp 13) (.const (.int .i64 0)),some (11,false)⟩,⟨some 15,.pick (.tmp 11) (.const (.bool true)) (.tmp 14),none⟩,⟨some 2,.mov (.tmp 15),none⟩]) (.ret))) }

def F_posthornlaw25_alive : ACFn := { nt := 82,results := [.tmp 0],body := (.seq (.region [⟨some 0,.mov (.const (.bool false)),none⟩]) (.seq (.region [⟨some 12,.callp (.fn 370) [],none⟩,⟨some 13,.call (.fn 358) [(.tmp 12)],none⟩,⟨some 11,.mov (.tmp 13),none⟩,
 ⟨some 14,.ext 0 (.tmp 11),none⟩,⟨some 15,.ext 1 (.tmp 11),none⟩,⟨some 1,.mov (.tmp 14),none⟩,⟨some 2,.mov (.tmp 15),none⟩]) (.seq (.region [⟨some 17,.callp (.fn 359) [(.const (.str [70,82,79,77,32,120,32,32,98,121,32,121,32,119,105,116,104,32,115,109,116,112,32,105,100,32,49,32,102,111,114,32,60,65,64,98,62,32,59,32,49,32,74,97,110,32,55,48,32,48,48,58,48,48]))],none⟩,
 ⟨some 16,.mov (.tmp 17),none⟩,⟨some 18,.ext 0 (.tmp 16),none⟩,⟨some 19,.ext 1 (.tmp 16),none⟩,⟨some 3,.alloc [.str [],.str [],.str [],.str [],.int .i64 0,.int .i64 0],none⟩,⟨none,.store 6 (.tmp 3) (.tmp 18),none⟩,
 ⟨some 4,.mov (.tmp 19),none⟩]) (.seq (.region [⟨some 21,.lit8 10 [(0,(.const (.b8 84))),(1,(.const (.b8 111))),(2,(.const (.b8 58))),(3,(.const (.b8 32))),(4,(.const (.b8 122))),(5,(.const (.b8 13))),(6,(.const (.b8 10))),(7,(.const (.b8 13))),(8,(.const (.b8 10))),(9,(.const (.b8 116)))],none⟩,
 ⟨some 22,.cSame (.tmp 21),none⟩,⟨some 23,.callp (.fn 370) [],none⟩,⟨some 24,.call (.fn 362) [(.tmp 22),(.tmp 23),(.const (.str []))],none⟩,⟨some 20,.mov (.tmp 24),none⟩,⟨some 25,.ext 0 (.tmp 20),none⟩,
 ⟨some 26,.ext 1 (.tmp 20),none⟩,⟨some 5,.mov (.tmp 25),none⟩,⟨some 6,.mov (.tmp 26),none⟩]) (.seq (.region [⟨some 28,.lit8 2 [(0,(.const (.b8 13))),(1,(.const (.b8 10)))],none⟩,⟨some 29,.cSame (.tmp 28),none⟩,
 ⟨some 30,.call (.fn 352) [(.tmp 29)],none⟩,⟨some 27,.mov (.tmp 30),none⟩,⟨some 31,.ext 0 (.tmp 27),none⟩,⟨some 32,.ext 1 (.tmp 27),none⟩,⟨some 7,.mov (.tmp 31),none⟩,⟨some 8,.mov (.tmp 32),none⟩]) (.seq (.region [⟨some 34,.mov (.tmp 5),none⟩,
 ⟨some 35,.call (.fn 350) [(.tmp 34),(.const (.str [65,64,66]))],none⟩,⟨some 33,.mov (.tmp 35),none⟩,⟨some 36,.ext 0 (.tmp 33),none⟩,⟨some 37,.ext 1 (.tmp 33),none⟩,⟨some 9,.mov (.tmp 36),none⟩,⟨some 10,.mov (.tmp 37),none⟩]) (.seq (.region [⟨some 38,.mov (.tmp 1),none⟩,
 ⟨some 39,.bin .eql .no (.tmp 38) (.const (.str [102,114,111,109,32,120,32,98,121,32,121,32,119,105,116,104,32,69,83,77,84,80,32,105,100,32,49,32,102,111,114,32,60,97,64,98,62,59,32,84,104,117,44,32,48,49,32,74,97,110,32,49,57,55,48,32,48,48,58,48,48,58,48,48,32,43,48,48,48,48])),none⟩,
 ⟨some 40,.mov (.tmp 39),none⟩,⟨some 41,.mov (.tmp 2),some (40,true)⟩,⟨some 42,.bin .eql .no (.tmp 41) (.const (.int .i64 0)),some (40,true)⟩,⟨some 43,.pick (.tmp 40) (.tmp 42) (.const (.bool false)),none⟩,
 ⟨some 44,.mov (.tmp 43),none⟩,⟨some 45,.load true 6 (.tmp 3),some (44,true)⟩,⟨some 46,.callp (.fn 370) [],some (44,true)⟩,⟨some 47,.bin .eql (.struct [.s,.s,.s,.s,.i,.i]) (.tmp 45) (.tmp 46),some (44,true)⟩,
 ⟨some 48,.pick (.tmp 44) (.tmp 47) (.const (.bool false)),none⟩,⟨some 49,.mov (.tmp 48),none⟩,⟨some 50,.mov (.tmp 4),some (49,true)⟩,⟨some 51,.bin .eql .no (.tmp 50) (.const (.int .i64 0)),some (49,true)⟩,
 ⟨some 52,.pick (.tmp 49) (.tmp 51) (.const (.bool false)),none⟩,⟨some 53,.mov (.tmp 52),none⟩,⟨some 54,.mov (.tmp 6),some (53,true)⟩,⟨some 55,.bin .eql .no (.tmp 54) (.const (.int .i64 0)),some (53,true)⟩,
 ⟨some 56,.pick (.tmp 53) (.tmp 55) (.const (.bool false)),none⟩,⟨some 57,.mov (.tmp 56),none⟩,⟨some 58,.mov (.tmp 8),some (57,true)⟩,⟨some 59,.bin .eql .no (.tmp 58) (.const (.int .i64 4)),some (57,true)⟩,
 ⟨some 60,.pick (.tmp 57) (.tmp 59) (.const (.bool false)),none⟩,⟨some 61,.mov (.tmp 60),none⟩,⟨some 62,.mov (.tmp 9),some (61,true)⟩,⟨some 63,.pick (.tmp 61) (.tmp 62) (.const (.bool false)),none⟩,⟨some 64,.mov (.tmp 63),none⟩,
 ⟨some 65,.mov (.tmp 10),some (64,true)⟩,⟨some 66,.bin .eql .no (.tmp 65) (.const (.int .i64 0)),some (64,true)⟩,⟨some 67,.pick (.tmp 64) (.tmp 66) (.const (.bool false)),none⟩,⟨some 68,.mov (.tmp 67),none⟩,
 ⟨some 69,.mov (.tmp 5),some (68,true)⟩,⟨some 70,.len false (.tmp 69),some (68,true)⟩,⟨some 71,.bin .gtr .no (.tmp 70) (.const (.int .i64 60)),some (68,true)⟩,⟨some 72,.pick (.tmp 68) (.tmp 71) (.const (.bool false)),none⟩,
 ⟨some 73,.mov (.tmp 72),none⟩,⟨some 74,.mov (.tmp 5),some (73,true)⟩,⟨some 75,.mov (.tmp 5),some (73,true)⟩,⟨some 76,.len false (.tmp 75),some (73,true)⟩,⟨some 77,.bin .sub .no (.tmp 76) (.const (.int .i64 3)),some (73,true)⟩,
 ⟨some 78,.slc 1 (.tmp 74) (some (.tmp 77)) none none,some (73,true)⟩,⟨some 79,.cB2S false (.tmp 78),some (73,true)⟩,⟨some 80,.bin .eql .no (.tmp 79) (.const (.str [13,10,116])),some (73,true)⟩,⟨some 81,.pick (.tmp 73) (.tmp 80) (.const (.bool false)),none⟩,
 ⟨some 0,.mov (.tmp 81),none⟩]) (.ret)))))))) }

def F_trace_Hops : ACFn := { nt := 42,results := [.tmp 2,.tmp 3],body := (.seq (.region [⟨some 2,.mov (.const (.nils)),none⟩,⟨some 3,.mov (.const (.int .i64 0)),none⟩]) (.seq (.region [⟨some 13,.mov (.tmp 0),none⟩,⟨some 14,.call (.fn 371) [(.tmp 13)],none⟩,
 ⟨some 12,.mov (.tmp 14),none⟩,⟨some 15,.ext 0 (.tmp 12),none⟩,⟨some 16,.ext 1 (.tmp 12),none⟩,⟨some 17,.ext 2 (.tmp 12),none⟩,⟨some 4,.mov (.tmp 15),none⟩,⟨some 5,.mov (.tmp 16),none⟩,⟨some 6,.mov (.tmp 17),none⟩]) (.seq (.seq (.region [⟨some 18,.mov (.tmp 6),none⟩,
 ⟨some 19,.bin .neq .no (.tmp 18) (.const (.int .i64 0)),none⟩]) (.cond (.tmp 19) (.seq (.region [⟨some 20,.mov (.tmp 6),none⟩,⟨some 2,.mov (.const (.nils)),none⟩,⟨some 3,.mov (.tmp 20),none⟩]) (.ret)) (.skip))) (.seq (.region [⟨some 7,.mov (.const (.nils)),none⟩]) (.seq (.seq (.region [⟨some 21,.mov (.tmp 4),none⟩,
 ⟨some 22,.call (.fn 372) [(.tmp 21),(.const (.str [82,101,99,101,105,118,101,100]))],none⟩,⟨some 23,.len false (.tmp 22),none⟩,⟨some 24,.mov (.const (.int .i64 0)),none⟩]) (.block 0 (.loop (.seq (.region [⟨some 25,.bin .lss .no (.tmp 24) (.tmp 23),none⟩]) (.seq (.cond (.tmp 25) (.skip) (.exit 0)) (.seq (.block 1 (.seq (.region [⟨some 26,.iaddr 1 (.tmp 22) (.tmp 24),none⟩,
 ⟨some 27,.load false 1 (.tmp 26),none⟩,⟨some 9,.mov (.tmp 27),none⟩]) (.seq (.region [⟨some 29,.mov (.tmp 9),none⟩,⟨some 30,.call (.fn 359) [(.tmp 29)],none⟩,⟨some 28,.mov (.tmp 30),none⟩,⟨some 31,.ext 0 (.tmp 28),none⟩,
 ⟨some 32,.ext 1 (.tmp 28),none⟩,⟨some 10,.alloc [.str [],.str [],.str [],.str [],.int .i64 0,.int .i64 0],none⟩,⟨none,.store 6 (.tmp 10) (.tmp 31),none⟩,⟨some 11,.mov (.tmp 32),none⟩]) (.seq (.seq (.region [⟨some 33,.mov (.tmp 11),none⟩,
 ⟨some 34,.bin .neq .no (.tmp 33) (.const (.int .i64 0)),none⟩]) (.cond (.tmp 34) (.seq (.region [⟨some 35,.mov (.tmp 11),none⟩,⟨some 2,.mov (.const (.nils)),none⟩,⟨some 3,.mov (.tmp 35),none⟩]) (.ret)) (.skip))) (.region [⟨some 36,.mov (.tmp 7),none⟩,
 ⟨some 37,.load true 6 (.tmp 10),none⟩,⟨some 38,.lit 6 (.agg [.str [],.str [],.str [],.str [],.int .i64 0,.int .i64 0]) 1 [(0,(.tmp 37))],none⟩,⟨some 39,.app false 6 (.tmp 36) (.tmp 38),none⟩,⟨some 7,.mov (.tmp 39),none⟩]))))) (.region [⟨some 40,.bin .add .no (.tmp 24) (.const (.int .i64 1)),none⟩,
 ⟨some 24,.mov (.tmp 40),none⟩]))))))) (.seq (.region [⟨some 41,.mov (.tmp 7),none⟩,⟨some 2,.mov (.tmp 41),none⟩,⟨some 3,.mov (.const (.int .i64 0)),none⟩]) (.ret))))))) }

def F_trace_Round : ACFn := { nt := 35,results := [.tmp 4,.tmp 5],body := (.seq (.region [⟨some 3,.box (.tmp 1),none⟩,⟨some 4,.mov (.const (.bool false)),none⟩,⟨some 5,.mov (.const (.int .i64 0)),none⟩]) (.seq (.region [⟨some 11,.mov (.tmp 0),none⟩,
 ⟨some 12,.call (.fn 371) [(.tmp 11)],none⟩,⟨some 10,.mov (.tmp 12),none⟩,⟨some 13,.ext 0 (.tmp 10),none⟩,⟨some 14,.ext 1 (.tmp 10),none⟩,⟨some 15,.ext 2 (.tmp 10),none⟩,⟨some 6,.mov (.tmp 13),none⟩,⟨some 7,.mov (.tmp 14),none⟩,
 ⟨some 8,.mov (.tmp 15),none⟩]) (.seq (.seq (.region [⟨some 16,.mov (.tmp 8),none⟩,⟨some 17,.bin .neq .no (.tmp 16) (.const (.int .i64 0)),none⟩]) (.cond (.tmp 17) (.seq (.region [⟨some 18,.mov (.tmp 8),none⟩,
 ⟨some 4,.mov (.const (.bool false)),none⟩,⟨some 5,.mov (.tmp 18),none⟩]) (.ret)) (.skip))) (.seq (.region [⟨some 20,.mov (.tmp 0),none⟩,⟨some 21,.call (.fn 348) [(.tmp 20)],none⟩,⟨some 19,.mov (.tmp 21),none⟩,
 ⟨some 22,.ext 0 (.tmp 19),none⟩,⟨some 23,.ext 1 (.tmp 19),none⟩,⟨some 9,.mov (.tmp 22),none⟩,⟨some 8,.mov (.tmp 23),none⟩]) (.seq (.seq (.region [⟨some 24,.mov (.tmp 8),none⟩,⟨some 25,.bin .neq .no (.tmp 24) (.const (.int .i64 0)),none⟩,
 ⟨some 26,.mov (.tmp 25),none⟩,⟨some 27,.mov (.tmp 9),some (26,false)⟩,⟨some 28,.len false (.tmp 27),some (26,false)⟩,⟨some 29,.bin .geq .no (.tmp 28) (.const (.int .i64 25)),some (26,false)⟩,⟨some 30,.pick (.tmp 26) (.const (.bool true)) (.tmp 29),none⟩]) (.cond (.tmp 30) (.seq (.region [⟨some 4,.mov (.const (.bool true)),none⟩,
 ⟨some 5,.mov (.const (.int .i64 0)),none⟩]) (.ret)) (.skip))) (.seq (.region [⟨some 31,.mov (.tmp 6),none⟩,⟨some 32,.call (.fn 372) [(.tmp 31),(.const (.str [68,101,108,105,118,101,114,101,100,45,84,111]))],none⟩,
 ⟨some 33,.mkfn 376 [(.tmp 3)],none⟩,⟨some 34,.call (.fn 377) [(.tmp 32),(.tmp 33)],none⟩,⟨some 4,.mov (.tmp 34),none⟩,⟨some 5,.mov (.const (.int .i64 0)),none⟩]) (.ret))))))) }

def F_trace_Back : ACFn := { nt := 50,results := [.tmp 2,.tmp 3],body := (.seq (.region [⟨some 2,.mov (.const (.str [])),none⟩,⟨some 3,.mov (.const (.int .i64 0)),none⟩]) (.seq (.region [⟨some 11,.mov (.tmp 0),none⟩,⟨some 12,.call (.fn 371) [(.tmp 11)],none⟩,
 ⟨some 10,.mov (.tmp 12),none⟩,⟨some 13,.ext 0 (.tmp 10),none⟩,⟨some 14,.ext 1 (.tmp 10),none⟩,⟨some 15,.ext 2 (.tmp 10),none⟩,⟨some 4,.mov (.tmp 13),none⟩,⟨some 5,.mov (.tmp 14),none⟩,⟨some 6,.mov (.tmp 15),none⟩]) (.seq (.seq (.region [⟨some 16,.mov (.tmp 6),none⟩,
 ⟨some 17,.bin .neq .no (.tmp 16) (.const (.int .i64 0)),none⟩]) (.cond (.tmp 17) (.seq (.region [⟨some 18,.mov (.tmp 6),none⟩,⟨some 2,.mov (.const (.str [])),none⟩,⟨some 3,.mov (.tmp 18),none⟩]) (.ret)) (.skip))) (.seq (.region [⟨some 19,.mov (.tmp 4),none⟩,
 ⟨some 20,.call (.fn 372) [(.tmp 19),(.const (.str [82,101,116,117,114,110,45,80,97,116,104]))],none⟩,⟨some 7,.mov (.tmp 20),none⟩]) (.seq (.block 0 (.seq (.region [⟨some 22,.mov (.tmp 7),none⟩,⟨some 23,.len false (.tmp 22),none⟩,
 ⟨some 24,.bin .eql .no (.tmp 23) (.const (.int .i64 0)),none⟩,⟨some 21,.mov (.tmp 24),none⟩]) (.cond (.tmp 21) (.seq (.region [⟨some 2,.mov (.const (.str [])),none⟩,⟨some 3,.mov (.const (.int .i64 4)),none⟩]) (.ret)) (.seq (.region [⟨some 26,.mov (.tmp 7),none⟩,
 ⟨some 27,.len false (.tmp 26),none⟩,⟨some 28,.bin .eql .no (.tmp 27) (.const (.int .i64 1)),none⟩,⟨some 29,.mov (.tmp 28),none⟩,⟨some 30,.mov (.tmp 7),some (29,true)⟩,⟨some 31,.iaddr 1 (.tmp 30) (.const (.int .i64 0)),some (29,true)⟩,
 ⟨some 32,.load false 1 (.tmp 31),some (29,true)⟩,⟨some 33,.bin .eql .no (.tmp 32) (.const (.str [60,62])),some (29,true)⟩,⟨some 34,.pick (.tmp 29) (.tmp 33) (.const (.bool false)),none⟩,⟨some 25,.mov (.tmp 34),none⟩]) (.cond (.tmp 25) (.seq (.region [⟨some 2,.mov (.const (.str [])),none⟩,
 ⟨some 3,.mov (.const (.int .i64 0)),none⟩]) (.ret)) (.skip)))))) (.seq (.region [⟨some 36,.mov (.tmp 7),none⟩,⟨some 37,.iaddr 1 (.tmp 36) (.const (.int .i64 0)),none⟩,⟨some 38,.load false 1 (.tmp 37),none⟩,
 ⟨some 39,.call (.fn 378) [(.tmp 38)],none⟩,⟨some 35,.mov (.tmp 39),none⟩,⟨some 40,.ext 0 (.tmp 35),none⟩,⟨some 41,.ext 1 (.tmp 35),none⟩,⟨some 8,.mov (.tmp 40),none⟩,⟨some 9,.mov (.tmp 41),none⟩]) (.seq (.seq (.region [⟨some 42,.mov (.tmp 7),none⟩,
 ⟨some 43,.len false (.tmp 42),none⟩,⟨some 44,.bin .gtr .no (.tmp 43) (.const (.int .i64 1)),none⟩,⟨some 45,.mov (.tmp 44),none⟩,⟨some 46,.mov (.tmp 9),some (45,false)⟩,⟨some 47,.un .not (.tmp 46),some (45,false)⟩,
 ⟨some 48,.pick (.tmp 45) (.const (.bool true)) (.tmp 47),none⟩]) (.cond (.tmp 48) (.seq (.region [⟨some 2,.mov (.const (.str [])),none⟩,⟨some 3,.mov (.const (.int .i64 3)),none⟩]) (.ret)) (.skip))) (.seq (.region [⟨some 49,.mov (.tmp 8),none⟩,
 ⟨some 2,.mov (.tmp 49),none⟩,⟨some 3,.mov (.const (.int .i64 0)),none⟩]) (.ret))))))))) }

def F_trace_Write : ACFn := { nt := 42,results := [.tmp 2,.tmp 3],body := (.seq (.region [⟨some 1,.boxc (.tmp 0),none⟩,⟨some 2,.mov (.const (.str [])),none⟩,⟨some 3,.mov (.const (.int .i64 0)),none⟩]) (.seq (.seq (.region [⟨some 7,.loadc true 6 (.tmp 1),none⟩,
 ⟨some 8,.call (.fn 360) [(.tmp 7)],none⟩,⟨some 9,.un .not (.tmp 8),none⟩]) (.cond (.tmp 9) (.seq (.region [⟨some 2,.mov (.const (.str [])),none⟩,⟨some 3,.mov (.const (.int .i64 3)),none⟩]) (.ret)) (.skip))) (.seq (.region [⟨some 11,.faddr 4 (.tmp 1),none⟩,
 ⟨some 12,.loadc false 1 (.tmp 11),none⟩,⟨some 13,.faddr 5 (.tmp 1),none⟩,⟨some 14,.loadc false 1 (.tmp 13),none⟩,⟨some 15,.call (.fn 256) [(.tmp 12),(.tmp 14)],none⟩,⟨some 10,.mov (.tmp 15),none⟩,⟨some 16,.ext 0 (.tmp 10),none⟩,
 ⟨some 17,.ext 1 (.tmp 10),none⟩,⟨some 4,.mov (.tmp 16),none⟩,⟨some 5,.mov (.tmp 17),none⟩]) (.seq (.region [⟨some 18,.faddr 0 (.tmp 1),none⟩,⟨some 19,.loadc false 1 (.tmp 18),none⟩,⟨some 20,.bin .add .no (.const (.str [102,114,111,109,32])) (.tmp 19),none⟩,
 ⟨some 21,.bin .add .no (.tmp 20) (.const (.str [32,98,121,32])),none⟩,⟨some 22,.faddr 1 (.tmp 1),none⟩,⟨some 23,.loadc false 1 (.tmp 22),none⟩,⟨some 24,.bin .add .no (.tmp 21) (.tmp 23),none⟩,⟨some 25,.bin .add .no (.tmp 24) (.const (.str [32,119,105,116,104,32,69,83,77,84,80,32,105,100,32])),none⟩,
 ⟨some 26,.faddr 2 (.tmp 1),none⟩,⟨some 27,.loadc false 1 (.tmp 26),none⟩,⟨some 28,.bin .add .no (.tmp 25) (.tmp 27),none⟩,⟨some 6,.mov (.tmp 28),none⟩]) (.seq (.seq (.region [⟨some 29,.faddr 3 (.tmp 1),none⟩,
 ⟨some 30,.loadc false 1 (.tmp 29),none⟩,⟨some 31,.bin .neq .no (.tmp 30) (.const (.str [])),none⟩]) (.cond (.tmp 31) (.region [⟨some 32,.mov (.tmp 6),none⟩,⟨some 33,.faddr 3 (.tmp 1),none⟩,⟨some 34,.loadc false 1 (.tmp 33),none⟩,
 ⟨some 35,.bin .add .no (.const (.str [32,102,111,114,32,60])) (.tmp 34),none⟩,⟨some 36,.bin .add .no (.tmp 35) (.const (.str [62])),none⟩,⟨some 37,.bin .add .no (.tmp 32) (.tmp 36),none⟩,⟨some 6,.mov (.tmp 37),none⟩]) (.skip))) (.seq (.region [⟨some 38,.mov (.tmp 6),none⟩,
 ⟨some 39,.bin .add .no (.tmp 38) (.const (.str [59,32])),none⟩,⟨some 40,.mov (.tmp 4),none⟩,⟨some 41,.bin .add .no (.tmp 39) (.tmp 40),none⟩,⟨some 2,.mov (.tmp 41),none⟩,⟨some 3,.mov (.const (.int .i64 0)),none⟩]) (.ret))))))) }

def F_trace_Read : ACFn := { nt := 131,results := [.cell 2 true 6,.tmp 3],body := (.seq (.region [⟨some 2,.alloc [.str [],.str [],.str [],.str [],.int .i64 0,.int .i64 0],none⟩,⟨some 3,.mov (.const (.int .i64 0)),none⟩]) (.scope (.seq (.region [⟨some 18,.mov (.tmp 0),none⟩,
 ⟨some 19,.call (.fn 128) [(.tmp 18),(.const (.str [59]))],none⟩,⟨some 17,.mov (.tmp 19),none⟩,⟨some 20,.ext 0 (.tmp 17),none⟩,⟨some 21,.ext 1 (.tmp 17),none⟩,⟨some 22,.ext 2 (.tmp 17),none⟩,⟨some 4,.mov (.tmp 20),none⟩,
 ⟨some 5,.mov (.tmp 21),none⟩,⟨some 6,.mov (.tmp 22),none⟩]) (.seq (.region [⟨some 24,.mov (.tmp 5),none⟩,⟨some 25,.call (.fn 262) [(.tmp 24)],none⟩,⟨some 23,.mov (.tmp 25),none⟩,⟨some 26,.ext 0 (.tmp 23),none⟩,
 ⟨some 27,.ext 1 (.tmp 23),none⟩,⟨some 28,.ext 2 (.tmp 23),none⟩,⟨some 7,.mov (.tmp 26),none⟩,⟨some 8,.mov (.tmp 27),none⟩,⟨some 9,.mov (.tmp 28),none⟩]) (.seq (.region [⟨some 10,.alloc [.nils],none⟩]) (.seq (.label 0) (.seq (.seq (.region [⟨some 29,.mov (.tmp 4),none⟩,
 ⟨some 30,.call (.fn 380) [(.tmp 29)],none⟩]) (.block 0 (.rangeFunc (.tmp 30) [31] (.region [⟨some 11,.mov (.tmp 31),none⟩]) (.block 1 (.seq (.region [⟨some 32,.load false 1 (.tmp 10),none⟩,⟨some 33,.mov (.tmp 11),none⟩,
 ⟨some 34,.lit 1 (.str []) 1 [(0,(.tmp 33))],none⟩,⟨some 35,.app false 1 (.tmp 32) (.tmp 34),none⟩,⟨none,.store 1 (.tmp 10) (.tmp 35),none⟩]) (.seq (.region [⟨some 36,.load false 1 (.tmp 10),none⟩,⟨some 37,.len false (.tmp 36),none⟩,
 ⟨some 38,.bin .gtr .no (.tmp 37) (.const (.int .i64 10)),none⟩]) (.cond (.tmp 38) (.exit 0) (.skip)))))))) (.seq (.seq (.region [⟨some 39,.mov (.tmp 6),none⟩,⟨some 40,.un .not (.tmp 39),none⟩,⟨some 41,.mov (.tmp 40),none⟩,
 ⟨some 42,.mov (.tmp 9),some (41,false)⟩,⟨some 43,.bin .neq .no (.tmp 42) (.const (.int .i64 0)),some (41,false)⟩,⟨some 44,.pick (.tmp 41) (.const (.bool true)) (.tmp 43),none⟩,⟨some 45,.mov (.tmp 44),none⟩,
 ⟨some 46,.load false 1 (.tmp 10),some (45,false)⟩,⟨some 47,.len false (.tmp 46),some (45,false)⟩,⟨some 48,.bin .neq .no (.tmp 47) (.const (.int .i64 8)),some (45,false)⟩,⟨some 49,.mov (.tmp 48),some (45,false)⟩,
 ⟨some 50,.load false 1 (.tmp 10),some (49,true)⟩,⟨some 51,.len false (.tmp 50),some (49,true)⟩,⟨some 52,.bin .neq .no (.tmp 51) (.const (.int .i64 10)),some (49,true)⟩,⟨some 53,.pick (.tmp 49) (.tmp 52) (.const (.bool false)),some (45,false)⟩,
 ⟨some 54,.pick (.tmp 45) (.const (.bool true)) (.tmp 53),none⟩]) (.cond (.tmp 54) (.seq (.region [⟨some 55,.build [.str [],.str [],.str [],.str [],.int .i64 0,.int .i64 0] [],none⟩,⟨none,.store 6 (.tmp 2) (.tmp 55),none⟩,
 ⟨some 3,.mov (.const (.int .i64 3)),none⟩]) (.ret)) (.skip))) (.seq (.region [⟨some 56,.load false 1 (.tmp 10),none⟩,⟨some 57,.iaddr 1 (.tmp 56) (.const (.int .i64 1)),none⟩,⟨some 58,.load false 1 (.tmp 57),none⟩,
 ⟨some 59,.load false 1 (.tmp 10),none⟩,⟨some 60,.iaddr 1 (.tmp 59) (.const (.int .i64 3)),none⟩,⟨some 61,.load false 1 (.tmp 60),none⟩,⟨some 62,.load false 1 (.tmp 10),none⟩,⟨some 63,.iaddr 1 (.tmp 62) (.const (.int .i64 7)),none⟩,
 ⟨some 64,.load false 1 (.tmp 63),none⟩,⟨some 65,.mov (.tmp 7),none⟩,⟨some 66,.mov (.tmp 8),none⟩,⟨some 67,.build [.str [],.str [],.str [],.str [],.int .i64 0,.int .i64 0] [(0,1,(.tmp 58)),(1,1,(.tmp 61)),(2,1,(.tmp 64)),(4,1,(.tmp 65)),(5,1,(.tmp 66))],none⟩,
 ⟨some 12,.alloc [.str [],.str [],.str [],.str [],.int .i64 0,.int .i64 0],none⟩,⟨none,.store 6 (.tmp 12) (.tmp 67),none⟩]) (.seq (.region [⟨some 68,.load false 1 (.tmp 10),none⟩,⟨some 69,.iaddr 1 (.tmp 68) (.const (.int .i64 5)),none⟩,
 ⟨some 70,.load false 1 (.tmp 69),none⟩,⟨some 71,.call (.fn 381) [(.tmp 70)],none⟩,⟨some 13,.mov (.tmp 71),none⟩]) (.seq (.region [⟨some 72,.mov (.tmp 13),none⟩,⟨some 73,.bin .eql .no (.tmp 72) (.const (.str [115,109,116,112])),none⟩,
 ⟨some 74,.mov (.tmp 73),none⟩,⟨some 75,.mov (.tmp 13),some (74,false)⟩,⟨some 76,.bin .eql .no (.tmp 75) (.const (.str [101,115,109,116,112])),some (74,false)⟩,⟨some 77,.pick (.tmp 74) (.const (.bool true)) (.tmp 76),none⟩,
 ⟨some 78,.mov (.tmp 77),none⟩,⟨some 79,.mov (.tmp 13),some (78,false)⟩,⟨some 80,.bin .eql .no (.tmp 79) (.const (.str [101,115,109,116,112,115])),some (78,false)⟩,⟨some 81,.pick (.tmp 78) (.const (.bool true)) (.tmp 80),none⟩,
 ⟨some 14,.mov (.tmp 81),none⟩]) (.seq (.seq (.region [⟨some 82,.build [.str [],.str [],.str [],.str []] [(0,1,(.const (.str [102,114,111,109]))),(1,1,(.const (.str [98,121]))),(2,1,(.const (.str [119,105,116,104]))),(3,1,(.const (.str [105,100])))],none⟩,
 ⟨some 83,.mov (.const (.int .i64 0)),none⟩]) (.block 2 (.loop (.seq (.region [⟨some 84,.bin .lss .no (.tmp 83) (.const (.int .i64 4)),none⟩]) (.seq (.cond (.tmp 84) (.skip) (.exit 2)) (.seq (.block 3 (.seq (.region [⟨some 85,.mov (.tmp 83),none⟩,
 ⟨some 86,.idx 4 false 1 (.tmp 82) (.tmp 83),none⟩,⟨some 15,.mov (.tmp 85),none⟩,⟨some 16,.mov (.tmp 86),none⟩]) (.region [⟨some 87,.mov (.tmp 14),none⟩,⟨some 88,.mov (.tmp 87),none⟩,⟨some 89,.load false 1 (.tmp 10),some (88,true)⟩,
 ⟨some 90,.mov (.tmp 15),some (88,true)⟩,⟨some 91,.bin .mul .no (.const (.int .i64 2)) (.tmp 90),some (88,true)⟩,⟨some 92,.iaddr 1 (.tmp 89) (.tmp 91),some (88,true)⟩,⟨some 93,.load false 1 (.tmp 92),some (88,true)⟩,
 ⟨some 94,.call (.fn 381) [(.tmp 93)],some (88,true)⟩,⟨some 95,.mov (.tmp 16),some (88,true)⟩,⟨some 96,.bin .eql .no (.tmp 94) (.tmp 95),some (88,true)⟩,⟨some 97,.pick (.tmp 88) (.tmp 96) (.const (.bool false)),none⟩,
 ⟨some 14,.mov (.tmp 97),none⟩]))) (.region [⟨some 98,.bin .add .no (.tmp 83) (.const (.int .i64 1)),none⟩,⟨some 83,.mov (.tmp 98),none⟩]))))))) (.seq (.seq (.region [⟨some 99,.load false 1 (.tmp 10),none⟩,
 ⟨some 100,.len false (.tmp 99),none⟩,⟨some 101,.bin .eql .no (.tmp 100) (.const (.int .i64 10)),none⟩]) (.cond (.tmp 101) (.seq (.region [⟨some 103,.load false 1 (.tmp 10),none⟩,⟨some 104,.iaddr 1 (.tmp 103) (.const (.int .i64 9)),none⟩,
 ⟨some 105,.load false 1 (.tmp 104),none⟩,⟨some 106,.call (.fn 378) [(.tmp 105)],none⟩,⟨some 102,.mov (.tmp 106),none⟩,⟨some 107,.ext 0 (.tmp 102),none⟩,⟨some 108,.ext 1 (.tmp 102),none⟩,⟨some 109,.faddr 3 (.tmp 12),none⟩,
 ⟨none,.store 1 (.tmp 109) (.tmp 107),none⟩,⟨some 6,.mov (.tmp 108),none⟩]) (.region [⟨some 110,.mov (.tmp 6),none⟩,⟨some 111,.mov (.tmp 110),none⟩,⟨some 112,.load false 1 (.tmp 10),some (111,true)⟩,⟨some 113,.iaddr 1 (.tmp 112) (.const (.int .i64 8)),some (111,true)⟩,
 ⟨some 114,.load false 1 (.tmp 113),some (111,true)⟩,⟨some 115,.call (.fn 381) [(.tmp 114)],some (111,true)⟩,⟨some 116,.bin .eql .no (.tmp 115) (.const (.str [102,111,114])),some (111,true)⟩,⟨some 117,.pick (.tmp 111) (.tmp 116) (.const (.bool false)),none⟩,
 ⟨some 6,.mov (.tmp 117),none⟩])) (.skip))) (.seq (.seq (.region [⟨some 118,.mov (.tmp 14),none⟩,⟨some 119,.un .not (.tmp 118),none⟩,⟨some 120,.mov (.tmp 119),none⟩,⟨some 121,.mov (.tmp 6),some (120,false)⟩,
 ⟨some 122,.un .not (.tmp 121),some (120,false)⟩,⟨some 123,.pick (.tmp 120) (.const (.bool true)) (.tmp 122),none⟩,⟨some 124,.mov (.tmp 123),none⟩,⟨some 125,.load true 6 (.tmp 12),some (124,false)⟩,⟨some 126,.call (.fn 360) [(.tmp 125)],some (124,false)⟩,
 ⟨some 127,.un .not (.tmp 126),some (124,false)⟩,⟨some 128,.pick (.tmp 124) (.const (.bool true)) (.tmp 127),none⟩]) (.cond (.tmp 128) (.seq (.region [⟨some 129,.build [.str [],.str [],.str [],.str [],.int .i64 0,.int .i64 0] [],none⟩,
 ⟨none,.store 6 (.tmp 2) (.tmp 129),none⟩,⟨some 3,.mov (.const (.int .i64 3)),none⟩]) (.ret)) (.skip))) (.seq (.region [⟨some 130,.load true 6 (.tmp 12),none⟩,⟨none,.store 6 (.tmp 2) (.tmp 130),none⟩,⟨some 3,.mov (.const (.int .i64 0)),none⟩]) (.ret)))))))))))))))) }

def F_trace_Right : ACFn := { nt := 40,results := [.tmp 2],body := (.seq (.region [⟨some 1,.boxc (.tmp 0),none⟩,⟨some 2,.mov (.const (.bool false)),none⟩]) (.seq (.region [⟨some 6,.faddr 4 (.tmp 1),none⟩,⟨some 7,.loadc false 1 (.tmp 6),none⟩,
 ⟨some 8,.faddr 5 (.tmp 1),none⟩,⟨some 9,.loadc false 1 (.tmp 8),none⟩,⟨some 10,.call (.fn 256) [(.tmp 7),(.tmp 9)],none⟩,⟨some 5,.mov (.tmp 10),none⟩,⟨some 11,.ext 0 (.tmp 5),none⟩,⟨some 12,.ext 1 (.tmp 5),none⟩,
 ⟨some 3,.mov (.tmp 11),none⟩,⟨some 4,.mov (.tmp 12),none⟩]) (.seq (.region [⟨some 13,.mov (.tmp 4),none⟩,⟨some 14,.bin .eql .no (.tmp 13) (.const (.int .i64 0)),none⟩,⟨some 15,.mov (.tmp 14),none⟩,⟨some 16,.faddr 0 (.tmp 1),some (15,true)⟩,
 ⟨some 17,.loadc false 1 (.tmp 16),some (15,true)⟩,⟨some 18,.call (.fn 382) [(.tmp 17)],some (15,true)⟩,⟨some 19,.pick (.tmp 15) (.tmp 18) (.const (.bool false)),none⟩,⟨some 20,.mov (.tmp 19),none⟩,⟨some 21,.faddr 1 (.tmp 1),some (20,true)⟩,
 ⟨some 22,.loadc false 1 (.tmp 21),some (20,true)⟩,⟨some 23,.call (.fn 382) [(.tmp 22)],some (20,true)⟩,⟨some 24,.pick (.tmp 20) (.tmp 23) (.const (.bool false)),none⟩,⟨some 25,.mov (.tmp 24),none⟩,⟨some 26,.faddr 2 (.tmp 1),some (25,true)⟩,
 ⟨some 27,.loadc false 1 (.tmp 26),some (25,true)⟩,⟨some 28,.call (.fn 383) [(.tmp 27)],some (25,true)⟩,⟨some 29,.pick (.tmp 25) (.tmp 28) (.const (.bool false)),none⟩,⟨some 30,.mov (.tmp 29),none⟩,⟨some 31,.faddr 3 (.tmp 1),some (30,true)⟩,
 ⟨some 32,.loadc false 1 (.tmp 31),some (30,true)⟩,⟨some 33,.bin .eql .no (.tmp 32) (.const (.str [])),some (30,true)⟩,⟨some 34,.mov (.tmp 33),some (30,true)⟩,⟨some 35,.faddr 3 (.tmp 1),some (34,false)⟩,
 ⟨some 36,.loadc false 1 (.tmp 35),some (34,false)⟩,⟨some 37,.call (.fn 384) [(.tmp 36)],some (34,false)⟩,⟨some 38,.pick (.tmp 34) (.const (.bool true)) (.tmp 37),some (30,true)⟩,⟨some 39,.pick (.tmp 30) (.tmp 38) (.const (.bool false)),none⟩,
 ⟨some 2,.mov (.tmp 39),none⟩]) (.ret)))) }

def F_trace_Stamp : ACFn := { nt := 66,results := [.tmp 6,.tmp 7],body := (.seq (.region [⟨some 4,.boxc (.tmp 1),none⟩,⟨some 6,.mov (.const (.nils)),none⟩,⟨some 7,.mov (.const (.int .i64 0)),none⟩]) (.seq (.region [⟨some 14,.mov (.tmp 0),none⟩,
 ⟨some 15,.call (.fn 371) [(.tmp 14)],none⟩,⟨some 13,.mov (.tmp 15),none⟩,⟨some 16,.ext 0 (.tmp 13),none⟩,⟨some 17,.ext 1 (.tmp 13),none⟩,⟨some 18,.ext 2 (.tmp 13),none⟩,⟨some 8,.mov (.tmp 16),none⟩,⟨some 9,.mov (.tmp 17),none⟩,
 ⟨some 10,.mov (.tmp 18),none⟩]) (.seq (.seq (.region [⟨some 19,.mov (.tmp 10),none⟩,⟨some 20,.bin .neq .no (.tmp 19) (.const (.int .i64 0)),none⟩]) (.cond (.tmp 20) (.seq (.region [⟨some 21,.mov (.tmp 10),none⟩,
 ⟨some 6,.mov (.const (.nils)),none⟩,⟨some 7,.mov (.tmp 21),none⟩]) (.ret)) (.skip))) (.seq (.region [⟨some 23,.loadc true 6 (.tmp 4),none⟩,⟨some 24,.call (.fn 358) [(.tmp 23)],none⟩,⟨some 22,.mov (.tmp 24),none⟩,
 ⟨some 25,.ext 0 (.tmp 22),none⟩,⟨some 26,.ext 1 (.tmp 22),none⟩,⟨some 11,.mov (.tmp 25),none⟩,⟨some 10,.mov (.tmp 26),none⟩]) (.seq (.seq (.region [⟨some 27,.mov (.tmp 10),none⟩,⟨some 28,.bin .neq .no (.tmp 27) (.const (.int .i64 0)),none⟩,
 ⟨some 29,.mov (.tmp 28),none⟩,⟨some 30,.mov (.tmp 2),some (29,false)⟩,⟨some 31,.bin .neq .no (.tmp 30) (.const (.str [])),some (29,false)⟩,⟨some 32,.mov (.tmp 31),some (29,false)⟩,⟨some 33,.mov (.tmp 2),some (32,true)⟩,
 ⟨some 34,.call (.fn 384) [(.tmp 33)],some (32,true)⟩,⟨some 35,.un .not (.tmp 34),some (32,true)⟩,⟨some 36,.pick (.tmp 32) (.tmp 35) (.const (.bool false)),some (29,false)⟩,⟨some 37,.pick (.tmp 29) (.const (.bool true)) (.tmp 36),none⟩]) (.cond (.tmp 37) (.seq (.region [⟨some 6,.mov (.const (.nils)),none⟩,
 ⟨some 7,.mov (.const (.int .i64 3)),none⟩]) (.ret)) (.skip))) (.seq (.region [⟨some 38,.mov (.tmp 2),none⟩,⟨some 39,.bin .add .no (.const (.str [60])) (.tmp 38),none⟩,⟨some 40,.bin .add .no (.tmp 39) (.const (.str [62])),none⟩,
 ⟨some 41,.build [.str [],.str []] [(0,1,(.const (.str [82,101,116,117,114,110,45,80,97,116,104]))),(1,1,(.tmp 40))],none⟩,⟨some 42,.lit 2 (.agg [.str [],.str []]) 1 [(0,(.tmp 41))],none⟩,⟨some 12,.mov (.tmp 42),none⟩]) (.seq (.seq (.region [⟨some 43,.faddr 3 (.tmp 4),none⟩,
 ⟨some 44,.loadc false 1 (.tmp 43),none⟩,⟨some 45,.bin .neq .no (.tmp 44) (.const (.str [])),none⟩]) (.cond (.tmp 45) (.region [⟨some 46,.mov (.tmp 12),none⟩,⟨some 47,.faddr 3 (.tmp 4),none⟩,⟨some 48,.loadc false 1 (.tmp 47),none⟩,
 ⟨some 49,.build [.str [],.str []] [(0,1,(.const (.str [68,101,108,105,118,101,114,101,100,45,84,111]))),(1,1,(.tmp 48))],none⟩,⟨some 50,.lit 2 (.agg [.str [],.str []]) 1 [(0,(.tmp 49))],none⟩,⟨some 51,.app false 2 (.tmp 46) (.tmp 50),none⟩,
 ⟨some 12,.mov (.tmp 51),none⟩]) (.skip))) (.seq (.region [⟨some 52,.mov (.tmp 12),none⟩,⟨some 53,.mov (.tmp 11),none⟩,⟨some 54,.build [.str [],.str []] [(0,1,(.const (.str [82,101,99,101,105,118,101,100]))),(1,1,(.tmp 53))],none⟩,
 ⟨some 55,.lit 2 (.agg [.str [],.str []]) 1 [(0,(.tmp 54))],none⟩,⟨some 56,.app false 2 (.tmp 52) (.tmp 55),none⟩,⟨some 12,.mov (.tmp 56),none⟩]) (.seq (.region [⟨some 57,.mov (.tmp 12),none⟩,⟨some 58,.mov (.tmp 8),none⟩,
 ⟨some 59,.lit 1 (.str []) 1 [(0,(.const (.str [82,101,116,117,114,110,45,80,97,116,104])))],none⟩,⟨some 60,.call (.fn 385) [(.tmp 58),(.tmp 59)],none⟩,⟨some 61,.app false 2 (.tmp 57) (.tmp 60),none⟩,⟨some 62,.mov (.tmp 9),none⟩,
 ⟨some 63,.call (.fn 386) [(.tmp 61),(.tmp 62)],none⟩,⟨some 64,.ext 0 (.tmp 63),none⟩,⟨some 65,.ext 1 (.tmp 63),none⟩,⟨some 6,.mov (.tmp 64),none⟩,⟨some 7,.mov (.tmp 65),none⟩]) (.ret)))))))))) }

def F_trace_Strip : ACFn := { nt := 25,results := [.tmp 4,.tmp 5],body := (.seq (.region [⟨some 4,.mov (.const (.nils)),none⟩,⟨some 5,.mov (.const (.int .i64 0)),none⟩]) (.seq (.region [⟨some 10,.mov (.tmp 0),none⟩,⟨some 11,.call (.fn 371) [(.tmp 10)],none⟩,
 ⟨some 9,.mov (.tmp 11),none⟩,⟨some 12,.ext 0 (.tmp 9),none⟩,⟨some 13,.ext 1 (.tmp 9),none⟩,⟨some 14,.ext 2 (.tmp 9),none⟩,⟨some 6,.mov (.tmp 12),none⟩,⟨some 7,.mov (.tmp 13),none⟩,⟨some 8,.mov (.tmp 14),none⟩]) (.seq (.seq (.region [⟨some 15,.mov (.tmp 8),none⟩,
 ⟨some 16,.bin .neq .no (.tmp 15) (.const (.int .i64 0)),none⟩]) (.cond (.tmp 16) (.seq (.region [⟨some 17,.mov (.tmp 8),none⟩,⟨some 4,.mov (.const (.nils)),none⟩,⟨some 5,.mov (.tmp 17),none⟩]) (.ret)) (.skip))) (.seq (.region [⟨some 18,.mov (.tmp 6),none⟩,
 ⟨some 19,.mov (.tmp 1),none⟩,⟨some 20,.call (.fn 385) [(.tmp 18),(.tmp 19)],none⟩,⟨some 21,.mov (.tmp 7),none⟩,⟨some 22,.call (.fn 386) [(.tmp 20),(.tmp 21)],none⟩,⟨some 23,.ext 0 (.tmp 22),none⟩,⟨some 24,.ext 1 (.tmp 22),none⟩,
 ⟨some 4,.mov (.tmp 23),none⟩,⟨some 5,.mov (.tmp 24),none⟩]) (.ret))))) }

def F_posthornlaw25_TraceStrips : ACFn := { nt := 127,results := [.tmp 4],body := (.seq (.region [⟨some 4,.mov (.const (.bool false)),none⟩]) (.seq (.seq (.region [⟨some 17,.mov (.tmp 0),none⟩,⟨some 18,.len false (.tmp 17),none⟩,⟨some 19,.bin .gtr .no (.tmp 18) (.const (.int .i64 8000)),none⟩,
 ⟨some 20,.mov (.tmp 19),none⟩,⟨some 21,.mov (.tmp 1),some (20,false)⟩,⟨some 22,.len true (.tmp 21),some (20,false)⟩,⟨some 23,.bin .gtr .no (.tmp 22) (.const (.int .i64 200)),some (20,false)⟩,⟨some 24,.pick (.tmp 20) (.const (.bool true)) (.tmp 23),none⟩]) (.cond (.tmp 24) (.seq (.region [⟨some 25,.callp (.fn 347) [],none⟩,
 ⟨some 4,.mov (.tmp 25),none⟩]) (.ret)) (.skip))) (.seq (.region [⟨some 27,.mov (.tmp 0),none⟩,⟨some 28,.mov (.tmp 1),none⟩,⟨some 29,.lit 1 (.str []) 1 [(0,(.tmp 28))],none⟩,⟨some 30,.call (.fn 365) [(.tmp 27),(.tmp 29)],none⟩,
 ⟨some 26,.mov (.tmp 30),none⟩,⟨some 31,.ext 0 (.tmp 26),none⟩,⟨some 32,.ext 1 (.tmp 26),none⟩,⟨some 5,.mov (.tmp 31),none⟩,⟨some 6,.mov (.tmp 32),none⟩]) (.seq (.seq (.region [⟨some 33,.mov (.tmp 6),none⟩,
 ⟨some 34,.bin .neq .no (.tmp 33) (.const (.int .i64 0)),none⟩]) (.cond (.tmp 34) (.seq (.region [⟨some 35,.callp (.fn 347) [],none⟩,⟨some 36,.mov (.tmp 35),none⟩,⟨some 37,.mov (.tmp 5),some (36,true)⟩,
 ⟨some 38,.len false (.tmp 37),some (36,true)⟩,⟨some 39,.bin .eql .no (.tmp 38) (.const (.int .i64 0)),some (36,true)⟩,⟨some 40,.pick (.tmp 36) (.tmp 39) (.const (.bool false)),none⟩,⟨some 4,.mov (.tmp 40),none⟩]) (.ret)) (.skip))) (.seq (.region [⟨some 42,.mov (.tmp 0),none⟩,
 ⟨some 43,.call (.fn 150) [(.tmp 42)],none⟩,⟨some 41,.mov (.tmp 43),none⟩,⟨some 44,.ext 0 (.tmp 41),none⟩,⟨some 45,.ext 1 (.tmp 41),none⟩,⟨some 46,.ext 2 (.tmp 41),none⟩,⟨some 9,.alloc [.int .i64 0,.int .i64 0],none⟩,
 ⟨some 7,.mov (.tmp 44),none⟩,⟨some 8,.mov (.tmp 45),none⟩,⟨none,.store 2 (.tmp 9) (.tmp 46),none⟩]) (.seq (.region [⟨some 48,.mov (.tmp 5),none⟩,⟨some 49,.call (.fn 150) [(.tmp 48)],none⟩,⟨some 47,.mov (.tmp 49),none⟩,
 ⟨some 50,.ext 0 (.tmp 47),none⟩,⟨some 51,.ext 1 (.tmp 47),none⟩,⟨some 52,.ext 2 (.tmp 47),none⟩,⟨some 12,.alloc [.int .i64 0,.int .i64 0],none⟩,⟨some 10,.mov (.tmp 50),none⟩,⟨some 11,.mov (.tmp 51),none⟩,
 ⟨none,.store 2 (.tmp 12) (.tmp 52),none⟩]) (.seq (.seq (.region [⟨some 53,.faddr 1 (.tmp 9),none⟩,⟨some 54,.load false 1 (.tmp 53),none⟩,⟨some 55,.bin .neq .no (.tmp 54) (.const (.int .i64 0)),none⟩,⟨some 56,.mov (.tmp 55),none⟩,
 ⟨some 57,.faddr 1 (.tmp 12),some (56,false)⟩,⟨some 58,.load false 1 (.tmp 57),some (56,false)⟩,⟨some 59,.bin .neq .no (.tmp 58) (.const (.int .i64 0)),some (56,false)⟩,⟨some 60,.pick (.tmp 56) (.const (.bool true)) (.tmp 59),none⟩,
 ⟨some 61,.mov (.tmp 60),none⟩,⟨some 62,.mov (.tmp 0),some (61,false)⟩,⟨some 63,.mov (.tmp 8),some (61,false)⟩,⟨some 64,.slc 1 (.tmp 62) (some (.tmp 63)) none none,some (61,false)⟩,⟨some 65,.cB2S false (.tmp 64),some (61,false)⟩,
 ⟨some 66,.mov (.tmp 5),some (61,false)⟩,⟨some 67,.mov (.tmp 11),some (61,false)⟩,⟨some 68,.slc 1 (.tmp 66) (some (.tmp 67)) none none,some (61,false)⟩,⟨some 69,.cB2S false (.tmp 68),some (61,false)⟩,⟨some 70,.bin .neq .no (.tmp 65) (.tmp 69),some (61,false)⟩,
 ⟨some 71,.pick (.tmp 61) (.const (.bool true)) (.tmp 70),none⟩]) (.cond (.tmp 71) (.seq (.region [⟨some 4,.mov (.const (.bool false)),none⟩]) (.ret)) (.skip))) (.seq (.region [⟨some 13,.mov (.const (.int .i64 0)),none⟩]) (.seq (.seq (.region [⟨some 14,.mov (.const (.int .i64 0)),none⟩]) (.block 0 (.loop (.seq (.seq (.region [⟨some 72,.mov (.tmp 14),none⟩,
 ⟨some 73,.mov (.tmp 7),none⟩,⟨some 74,.len false (.tmp 73),none⟩,⟨some 75,.bin .lss .no (.tmp 72) (.tmp 74),none⟩]) (.cond (.tmp 75) (.skip) (.exit 0))) (.seq (.block 1 (.seq (.seq (.region [⟨some 78,.mov (.tmp 7),none⟩,
 ⟨some 79,.mov (.tmp 14),none⟩,⟨some 80,.iaddr 2 (.tmp 78) (.tmp 79),none⟩,⟨some 81,.faddr 0 (.tmp 80),none⟩,⟨some 82,.load false 1 (.tmp 81),none⟩,⟨some 83,.mov (.tmp 1),none⟩,⟨some 84,.call (.fn 155) [(.tmp 82),(.tmp 83)],none⟩]) (.cond (.tmp 84) (.exit 1) (.skip))) (.seq (.seq (.region [⟨some 85,.mov (.tmp 13),none⟩,
 ⟨some 86,.mov (.tmp 10),none⟩,⟨some 87,.len false (.tmp 86),none⟩,⟨some 88,.bin .geq .no (.tmp 85) (.tmp 87),none⟩,⟨some 89,.mov (.tmp 88),none⟩,⟨some 90,.mov (.tmp 10),some (89,false)⟩,⟨some 91,.mov (.tmp 13),some (89,false)⟩,
 ⟨some 92,.iaddr 2 (.tmp 90) (.tmp 91),some (89,false)⟩,⟨some 93,.load true 2 (.tmp 92),some (89,false)⟩,⟨some 94,.mov (.tmp 7),some (89,false)⟩,⟨some 95,.mov (.tmp 14),some (89,false)⟩,⟨some 96,.iaddr 2 (.tmp 94) (.tmp 95),some (89,false)⟩,
 ⟨some 97,.load true 2 (.tmp 96),some (89,false)⟩,⟨some 98,.bin .neq (.struct [.s,.s]) (.tmp 93) (.tmp 97),some (89,false)⟩,⟨some 99,.pick (.tmp 89) (.const (.bool true)) (.tmp 98),none⟩]) (.cond (.tmp 99) (.seq (.region [⟨some 4,.mov (.const (.bool false)),none⟩]) (.ret)) (.skip))) (.region [⟨some 100,.mov (.tmp 13),none⟩,
 ⟨some 101,.bin .add .no (.tmp 100) (.const (.int .i64 1)),none⟩,⟨some 13,.mov (.tmp 101),none⟩])))) (.region [⟨some 76,.mov (.tmp 14),none⟩,⟨some 77,.bin .add .no (.tmp 76) (.const (.int .i64 1)),none⟩,
 ⟨some 14,.mov (.tmp 77),none⟩])))))) (.seq (.region [⟨some 103,.mov (.tmp 5),none⟩,⟨some 104,.mov (.tmp 1),none⟩,⟨some 105,.lit 1 (.str []) 1 [(0,(.tmp 104))],none⟩,⟨some 106,.call (.fn 365) [(.tmp 103),(.tmp 105)],none⟩,
 ⟨some 102,.mov (.tmp 106),none⟩,⟨some 107,.ext 0 (.tmp 102),none⟩,⟨some 108,.ext 1 (.tmp 102),none⟩,⟨some 15,.mov (.tmp 107),none⟩,⟨some 16,.mov (.tmp 108),none⟩]) (.seq (.region [⟨some 109,.callp (.fn 347) [],none⟩,
 ⟨some 110,.mov (.tmp 109),none⟩,⟨some 111,.mov (.tmp 13),some (110,true)⟩,⟨some 112,.mov (.tmp 10),some (110,true)⟩,⟨some 113,.len false (.tmp 112),some (110,true)⟩,⟨some 114,.bin .eql .no (.tmp 111) (.tmp 113),some (110,true)⟩,
 ⟨some 115,.pick (.tmp 110) (.tmp 114) (.const (.bool false)),none⟩,⟨some 116,.mov (.tmp 115),none⟩,⟨some 117,.mov (.tmp 16),some (116,true)⟩,⟨some 118,.bin .eql .no (.tmp 117) (.const (.int .i64 0)),some (116,true)⟩,
 ⟨some 119,.pick (.tmp 116) (.tmp 118) (.const (.bool false)),none⟩,⟨some 120,.mov (.tmp 119),none⟩,⟨some 121,.mov (.tmp 15),some (120,true)⟩,⟨some 122,.cB2S false (.tmp 121),some (120,true)⟩,⟨some 123,.mov (.tmp 5),some (120,true)⟩,
 ⟨some 124,.cB2S false (.tmp 123),some (120,true)⟩,⟨some 125,.bin .eql .no (.tmp 122) (.tmp 124),some (120,true)⟩,⟨some 126,.pick (.tmp 120) (.tmp 125) (.const (.bool false)),none⟩,⟨some 4,.mov (.tmp 126),none⟩]) (.ret)))))))))))) }

def F_posthornlaw25_Mark : ACFn := { nt := 2,results := [.cell 0 true 6],body := (.seq (.region [⟨some 0,.alloc [.str [],.str [],.str [],.str [],.int .i64 0,.int .i64 0],none⟩]) (.seq (.region [⟨some 1,.build [.str [],.str [],.str [],.str [],.int .i64 0,.int .i64 0] [(0,1,(.const (.str [120]))),(1,1,(.const (.str [121]))),(2,1,(.const (.str [49]))),(3,1,(.const (.str [97,64,98])))],none⟩,
 ⟨none,.store 6 (.tmp 0) (.tmp 1),none⟩]) (.ret))) }

def F_trace_split : ACFn := { nt := 21,results := [.tmp 2,.tmp 3,.tmp 4],body := (.seq (.region [⟨some 2,.mov (.const (.nils)),none⟩,⟨some 3,.mov (.const (.nils)),none⟩,⟨some 4,.mov (.const (.int .i64 0)),none⟩]) (.seq (.region [⟨some 9,.mov (.tmp 0),none⟩,
 ⟨some 10,.call (.fn 150) [(.tmp 9)],none⟩,⟨some 8,.mov (.tmp 10),none⟩,⟨some 11,.ext 0 (.tmp 8),none⟩,⟨some 12,.ext 1 (.tmp 8),none⟩,⟨some 13,.ext 2 (.tmp 8),none⟩,⟨some 7,.alloc [.int .i64 0,.int .i64 0],none⟩,
 ⟨some 5,.mov (.tmp 11),none⟩,⟨some 6,.mov (.tmp 12),none⟩,⟨none,.store 2 (.tmp 7) (.tmp 13),none⟩]) (.seq (.seq (.region [⟨some 14,.faddr 1 (.tmp 7),none⟩,⟨some 15,.load false 1 (.tmp 14),none⟩,⟨some 16,.bin .neq .no (.tmp 15) (.const (.int .i64 0)),none⟩]) (.cond (.tmp 16) (.seq (.region [⟨some 2,.mov (.const (.nils)),none⟩,
 ⟨some 3,.mov (.const (.nils)),none⟩,⟨some 4,.mov (.const (.int .i64 50)),none⟩]) (.ret)) (.skip))) (.seq (.region [⟨some 17,.mov (.tmp 5),none⟩,⟨some 18,.mov (.tmp 0),none⟩,⟨some 19,.mov (.tmp 6),none⟩,
 ⟨some 20,.slc 1 (.tmp 18) (some (.tmp 19)) none none,none⟩,⟨some 2,.mov (.tmp 17),none⟩,⟨some 3,.mov (.tmp 20),none⟩,⟨some 4,.mov (.const (.int .i64 0)),none⟩]) (.ret))))) }

def F_trace_all : ACFn := { nt := 25,results := [.tmp 4],body := (.seq (.region [⟨some 4,.mov (.const (.nils)),none⟩]) (.seq (.region [⟨some 5,.mov (.const (.nils)),none⟩]) (.seq (.seq (.region [⟨some 8,.mov (.tmp 0),none⟩,⟨some 9,.len false (.tmp 8),none⟩,
 ⟨some 10,.mov (.const (.int .i64 0)),none⟩]) (.block 0 (.loop (.seq (.region [⟨some 11,.bin .lss .no (.tmp 10) (.tmp 9),none⟩]) (.seq (.cond (.tmp 11) (.skip) (.exit 0)) (.seq (.block 1 (.seq (.region [⟨some 12,.iaddr 2 (.tmp 8) (.tmp 10),none⟩,
 ⟨some 13,.load true 2 (.tmp 12),none⟩,⟨some 7,.alloc [.str [],.str []],none⟩,⟨none,.store 2 (.tmp 7) (.tmp 13),none⟩]) (.seq (.region [⟨some 14,.faddr 0 (.tmp 7),none⟩,⟨some 15,.load false 1 (.tmp 14),none⟩,
 ⟨some 16,.mov (.tmp 1),none⟩,⟨some 17,.call (.fn 155) [(.tmp 15),(.tmp 16)],none⟩]) (.cond (.tmp 17) (.region [⟨some 18,.mov (.tmp 5),none⟩,⟨some 19,.faddr 1 (.tmp 7),none⟩,⟨some 20,.load false 1 (.tmp 19),none⟩,
 ⟨some 21,.lit 1 (.str []) 1 [(0,(.tmp 20))],none⟩,⟨some 22,.app false 1 (.tmp 18) (.tmp 21),none⟩,⟨some 5,.mov (.tmp 22),none⟩]) (.skip))))) (.region [⟨some 23,.bin .add .no (.tmp 10) (.const (.int .i64 1)),none⟩,
 ⟨some 10,.mov (.tmp 23),none⟩]))))))) (.seq (.region [⟨some 24,.mov (.tmp 5),none⟩,⟨some 4,.mov (.tmp 24),none⟩]) (.ret))))) }

def F_trace_Round_c1 : ACFn := { nt := 9,results := [.tmp 3],body := (.seq (.region [⟨some 3,.mov (.const (.bool false)),none⟩]) (.seq (.region [⟨some 4,.mov (.tmp 0),none⟩,⟨some 5,.callp (.fn 381) [(.tmp 4)],none⟩,⟨some 6,.load false 1 (.tmp 1),none⟩,
 ⟨some 7,.callp (.fn 381) [(.tmp 6)],none⟩,⟨some 8,.bin .eql .no (.tmp 5) (.tmp 7),none⟩,⟨some 3,.mov (.tmp 8),none⟩]) (.ret))) }

def F_slices_ContainsFunc_s_string_string : ACFn := { nt := 9,results := [.tmp 4],body := (.seq (.region [⟨some 4,.mov (.const (.bool false)),none⟩]) (.seq (.region [⟨some 5,.mov (.tmp 0),none⟩,⟨some 6,.mov (.tmp 1),none⟩,⟨some 7,.call (.fn 392) [(.tmp 5),(.tmp 6)],none⟩,
 ⟨some 8,.bin .geq .no (.tmp 7) (.const (.int .i64 0)),none⟩,⟨some 4,.mov (.tmp 8),none⟩]) (.ret))) }

def F_trace_person : ACFn := { nt := 34,results := [.tmp 2,.tmp 3],body := (.seq (.region [⟨some 2,.mov (.const (.str [])),none⟩,⟨some 3,.mov (.const (.bool false)),none⟩]) (.seq (.region [⟨some 10,.mov (.tmp 0),none⟩,⟨some 11,.call (.fn 305) [(.tmp 10),(.const (.str [60]))],none⟩,
 ⟨some 9,.mov (.tmp 11),none⟩,⟨some 12,.ext 0 (.tmp 9),none⟩,⟨some 13,.ext 1 (.tmp 9),none⟩,⟨some 4,.mov (.tmp 12),none⟩,⟨some 5,.mov (.tmp 13),none⟩]) (.seq (.region [⟨some 15,.mov (.tmp 4),none⟩,⟨some 16,.call (.fn 393) [(.tmp 15),(.const (.str [62]))],none⟩,
 ⟨some 14,.mov (.tmp 16),none⟩,⟨some 17,.ext 0 (.tmp 14),none⟩,⟨some 18,.ext 1 (.tmp 14),none⟩,⟨some 4,.mov (.tmp 17),none⟩,⟨some 6,.mov (.tmp 18),none⟩]) (.seq (.region [⟨some 20,.mov (.tmp 4),none⟩,⟨some 21,.call (.fn 115) [(.tmp 20)],none⟩,
 ⟨some 19,.mov (.tmp 21),none⟩,⟨some 22,.ext 0 (.tmp 19),none⟩,⟨some 23,.ext 1 (.tmp 19),none⟩,⟨some 7,.alloc [.str [],.str [],.str []],none⟩,⟨none,.store 3 (.tmp 7) (.tmp 22),none⟩,⟨some 8,.mov (.tmp 23),none⟩]) (.seq (.region [⟨some 24,.load true 3 (.tmp 7),none⟩,
 ⟨some 25,.call (.fn 113) [(.tmp 24)],none⟩,⟨some 26,.mov (.tmp 5),none⟩,⟨some 27,.mov (.tmp 26),none⟩,⟨some 28,.mov (.tmp 6),some (27,true)⟩,⟨some 29,.pick (.tmp 27) (.tmp 28) (.const (.bool false)),none⟩,
 ⟨some 30,.mov (.tmp 29),none⟩,⟨some 31,.mov (.tmp 8),some (30,true)⟩,⟨some 32,.bin .eql .no (.tmp 31) (.const (.int .i64 0)),some (30,true)⟩,⟨some 33,.pick (.tmp 30) (.tmp 32) (.const (.bool false)),none⟩,
 ⟨some 2,.mov (.tmp 25),none⟩,⟨some 3,.mov (.tmp 33),none⟩]) (.ret)))))) }

def F_trace_words : ACFn := { nt := 4,results := [.tmp 2],body := (.seq (.region [⟨some 1,.box (.tmp 0),none⟩,⟨some 2,.mov (.const (.nilf)),none⟩]) (.seq (.region [⟨some 3,.mkfn 395 [(.tmp 1)],none⟩,⟨some 2,.mov (.tmp 3),none⟩]) (.ret))) }

def F_trace_lower : ACFn := { nt := 29,results := [.tmp 2],body := (.seq (.region [⟨some 2,.mov (.const (.str [])),none⟩]) (.seq (.region [⟨some 6,.mov (.tmp 0),none⟩,⟨some 7,.cS2B true (.tmp 6),none⟩,⟨some 3,.mov (.tmp 7),none⟩]) (.seq (.seq (.region [⟨some 8,.mov (.tmp 3),none⟩,
 ⟨some 9,.len false (.tmp 8),none⟩,⟨some 10,.mov (.const (.int .i64 0)),none⟩]) (.block 0 (.loop (.seq (.region [⟨some 11,.bin .lss .no (.tmp 10) (.tmp 9),none⟩]) (.seq (.cond (.tmp 11) (.skip) (.exit 0)) (.seq (.block 1 (.seq (.region [⟨some 12,.mov (.tmp 10),none⟩,
 ⟨some 13,.iaddr 1 (.tmp 8) (.tmp 10),none⟩,⟨some 14,.load false 1 (.tmp 13),none⟩,⟨some 4,.mov (.tmp 12),none⟩,⟨some 5,.mov (.tmp 14),none⟩]) (.seq (.region [⟨some 15,.mov (.tmp 5),none⟩,⟨some 16,.bin .geq .no (.tmp 15) (.const (.b8 65)),none⟩,
 ⟨some 17,.mov (.tmp 16),none⟩,⟨some 18,.mov (.tmp 5),some (17,true)⟩,⟨some 19,.bin .leq .no (.tmp 18) (.const (.b8 90)),some (17,true)⟩,⟨some 20,.pick (.tmp 17) (.tmp 19) (.const (.bool false)),none⟩]) (.cond (.tmp 20) (.region [⟨some 21,.mov (.tmp 3),none⟩,
 ⟨some 22,.mov (.tmp 4),none⟩,⟨some 23,.mov (.tmp 5),none⟩,⟨some 24,.bin .add .no (.tmp 23) (.const (.b8 32)),none⟩,⟨some 25,.iaddr 1 (.tmp 21) (.tmp 22),none⟩,⟨none,.store 1 (.tmp 25) (.tmp 24),none⟩]) (.skip))))) (.region [⟨some 26,.bin .add .no (.tmp 10) (.const (.int .i64 1)),none⟩,
 ⟨some 10,.mov (.tmp 26),none⟩]))))))) (.seq (.region [⟨some 27,.mov (.tmp 3),none⟩,⟨some 28,.cB2S true (.tmp 27),none⟩,⟨some 2,.mov (.tmp 28),none⟩]) (.ret))))) }

def F_trace_isDomain : ACFn := { nt := 6,results := [.tmp 2],body := (.seq (.region [⟨some 2,.mov (.const (.bool false)),none⟩]) (.seq (.region [⟨some 3,.mov (.tmp 0),none⟩,⟨some 4,.build [.str [],.str [],.str []] [(1,1,(.const (.str [120]))),(2,1,(.tmp 3))],none⟩,
 ⟨some 5,.call (.fn 111) [(.tmp 4)],none⟩,⟨some 2,.mov (.tmp 5),none⟩]) (.ret))) }

def F_trace_isID : ACFn := { nt := 44,results := [.tmp 2],body := (.seq (.region [⟨some 2,.mov (.const (.bool false)),none⟩]) (.seq (.seq (.region [⟨some 5,.mov (.tmp 0),none⟩,⟨some 6,.len true (.tmp 5),none⟩,⟨some 7,.mov (.const (.int .i64 0)),none⟩]) (.block 0 (.loop (.seq (.region [⟨some 8,.bin .lss .no (.tmp 7) (.tmp 6),none⟩]) (.seq (.cond (.tmp 8) (.skip) (.exit 0)) (.seq (.block 1 (.seq (.region [⟨some 9,.mov (.tmp 7),none⟩,
 ⟨some 3,.mov (.tmp 9),none⟩]) (.seq (.region [⟨some 10,.mov (.tmp 0),none⟩,⟨some 11,.mov (.tmp 3),none⟩,⟨some 12,.idxS (.tmp 10) (.tmp 11),none⟩,⟨some 4,.mov (.tmp 12),none⟩]) (.seq (.region [⟨some 13,.mov (.tmp 4),none⟩,
 ⟨some 14,.bin .geq .no (.tmp 13) (.const (.b8 97)),none⟩,⟨some 15,.mov (.tmp 14),none⟩,⟨some 16,.mov (.tmp 4),some (15,true)⟩,⟨some 17,.bin .leq .no (.tmp 16) (.const (.b8 122)),some (15,true)⟩,⟨some 18,.pick (.tmp 15) (.tmp 17) (.const (.bool false)),none⟩,
 ⟨some 19,.mov (.tmp 18),none⟩,⟨some 20,.mov (.tmp 4),some (19,false)⟩,⟨some 21,.bin .geq .no (.tmp 20) (.const (.b8 65)),some (19,false)⟩,⟨some 22,.mov (.tmp 21),some (19,false)⟩,⟨some 23,.mov (.tmp 4),some (22,true)⟩,
 ⟨some 24,.bin .leq .no (.tmp 23) (.const (.b8 90)),some (22,true)⟩,⟨some 25,.pick (.tmp 22) (.tmp 24) (.const (.bool false)),some (19,false)⟩,⟨some 26,.pick (.tmp 19) (.const (.bool true)) (.tmp 25),none⟩,
 ⟨some 27,.mov (.tmp 26),none⟩,⟨some 28,.mov (.tmp 4),some (27,false)⟩,⟨some 29,.bin .geq .no (.tmp 28) (.const (.b8 48)),some (27,false)⟩,⟨some 30,.mov (.tmp 29),some (27,false)⟩,⟨some 31,.mov (.tmp 4),some (30,true)⟩,
 ⟨some 32,.bin .leq .no (.tmp 31) (.const (.b8 57)),some (30,true)⟩,⟨some 33,.pick (.tmp 30) (.tmp 32) (.const (.bool false)),some (27,false)⟩,⟨some 34,.pick (.tmp 27) (.const (.bool true)) (.tmp 33),none⟩,
 ⟨some 35,.un .not (.tmp 34),none⟩]) (.cond (.tmp 35) (.seq (.region [⟨some 2,.mov (.const (.bool false)),none⟩]) (.ret)) (.skip)))))) (.region [⟨some 36,.bin .add .no (.tmp 7) (.const (.int .i64 1)),none⟩,
 ⟨some 7,.mov (.tmp 36),none⟩]))))))) (.seq (.region [⟨some 37,.mov (.tmp 0),none⟩,⟨some 38,.bin .neq .no (.tmp 37) (.const (.str [])),none⟩,⟨some 39,.mov (.tmp 38),none⟩,⟨some 40,.mov (.tmp 0),some (39,true)⟩,
 ⟨some 41,.len true (.tmp 40),some (39,true)⟩,⟨some 42,.bin .leq .no (.tmp 41) (.const (.int .i64 64)),some (39,true)⟩,⟨some 43,.pick (.tmp 39) (.tmp 42) (.const (.bool false)),none⟩,⟨some 2,.mov (.tmp 43),none⟩]) (.ret)))) }

def F_trace_isPerson : ACFn := { nt := 18,results := [.tmp 2],body := (.seq (.region [⟨some 2,.mov (.const (.bool false)),none⟩]) (.seq (.region [⟨some 6,.mov (.tmp 0),none⟩,⟨some 7,.call (.fn 115) [(.tmp 6)],none⟩,⟨some 5,.mov (.tmp 7),none⟩,
 ⟨some 8,.ext 0 (.tmp 5),none⟩,⟨some 9,.ext 1 (.tmp 5),none⟩,⟨some 3,.alloc [.str [],.str [],.str []],none⟩,⟨none,.store 3 (.tmp 3) (.tmp 8),none⟩,⟨some 4,.mov (.tmp 9),none⟩]) (.seq (.region [⟨some 10,.mov (.tmp 4),none⟩,
 ⟨some 11,.bin .eql .no (.tmp 10) (.const (.int .i64 0)),none⟩,⟨some 12,.mov (.tmp 11),none⟩,⟨some 13,.load true 3 (.tmp 3),some (12,true)⟩,⟨some 14,.call (.fn 113) [(.tmp 13)],some (12,true)⟩,⟨some 15,.mov (.tmp 0),some (12,true)⟩,
 ⟨some 16,.bin .eql .no (.tmp 14) (.tmp 15),some (12,true)⟩,⟨some 17,.pick (.tmp 12) (.tmp 16) (.const (.bool false)),none⟩,⟨some 2,.mov (.tmp 17),none⟩]) (.ret)))) }

def F_trace_without : ACFn := { nt := 9,results := [.tmp 4],body := (.seq (.region [⟨some 3,.box (.tmp 1),none⟩,⟨some 4,.mov (.const (.nils)),none⟩]) (.seq (.region [⟨some 5,.mov (.tmp 0),none⟩,⟨some 6,.call (.fn 396) [(.tmp 5)],none⟩,
 ⟨some 7,.mkfn 397 [(.tmp 3)],none⟩,⟨some 8,.call (.fn 398) [(.tmp 6),(.tmp 7)],none⟩,⟨some 4,.frz 2 (.tmp 8),none⟩]) (.ret))) }

def F_trace_join : ACFn := { nt := 19,results := [.tmp 4,.tmp 5],body := (.seq (.region [⟨some 4,.mov (.const (.nils)),none⟩,⟨some 5,.mov (.const (.int .i64 0)),none⟩]) (.seq (.region [⟨some 9,.mov (.tmp 0),none⟩,⟨some 10,.call (.fn 145) [(.tmp 9)],none⟩,
 ⟨some 8,.mov (.tmp 10),none⟩,⟨some 11,.ext 0 (.tmp 8),none⟩,⟨some 12,.ext 1 (.tmp 8),none⟩,⟨some 6,.mov (.tmp 11),none⟩,⟨some 7,.mov (.tmp 12),none⟩]) (.seq (.seq (.region [⟨some 13,.mov (.tmp 7),none⟩,
 ⟨some 14,.bin .neq .no (.tmp 13) (.const (.int .i64 0)),none⟩]) (.cond (.tmp 14) (.seq (.region [⟨some 15,.mov (.tmp 7),none⟩,⟨some 4,.mov (.const (.nils)),none⟩,⟨some 5,.mov (.tmp 15),none⟩]) (.ret)) (.skip))) (.seq (.region [⟨some 16,.mov (.tmp 6),none⟩,
 ⟨some 17,.mov (.tmp 1),none⟩,⟨some 18,.app true 1 (.tmp 16) (.tmp 17),none⟩,⟨some 4,.mov (.tmp 18),none⟩,⟨some 5,.mov (.const (.int .i64 0)),none⟩]) (.ret))))) }

def F_slices_IndexFunc_s_string_string : ACFn := { nt := 19,results := [.tmp 4],body := (.seq (.region [⟨some 4,.mov (.const (.int .i64 0)),none⟩]) (.seq (.seq (.region [⟨some 6,.mov (.tmp 0),none⟩,⟨some 7,.len false (.tmp 6),none⟩,⟨some 8,.mov (.const (.int .i64 0)),none⟩]) (.block 0 (.loop (.seq (.region [⟨some 9,.bin .lss .no (.tmp 8) (.tmp 7),none⟩]) (.seq (.cond (.tmp 9) (.skip) (.exit 0)) (.seq (.block 1 (.seq (.region [⟨some 10,.mov (.tmp 8),none⟩,
 ⟨some 5,.mov (.tmp 10),none⟩]) (.seq (.region [⟨some 11,.mov (.tmp 1),none⟩,⟨some 12,.mov (.tmp 0),none⟩,⟨some 13,.mov (.tmp 5),none⟩,⟨some 14,.iaddr 1 (.tmp 12) (.tmp 13),none⟩,⟨some 15,.load false 1 (.tmp 14),none⟩,
 ⟨some 16,.call (.tmp 11) [(.tmp 15)],none⟩]) (.cond (.tmp 16) (.seq (.region [⟨some 17,.mov (.tmp 5),none⟩,⟨some 4,.mov (.tmp 17),none⟩]) (.ret)) (.skip))))) (.region [⟨some 18,.bin .add .no (.tmp 8) (.const (.int .i64 1)),none⟩,
 ⟨some 8,.mov (.tmp 18),none⟩]))))))) (.seq (.region [⟨some 4,.mov (.const (.int .i64 (-1))),none⟩]) (.ret)))) }

def F_strings_CutSuffix : ACFn := { nt := 11,results := [.tmp 4,.tmp 5],body := (.seq (.region [⟨some 4,.mov (.const (.str [])),none⟩,⟨some 5,.mov (.const (.bool false)),none⟩]) (.seq (.region [⟨some 6,.mov (.tmp 0),none⟩,⟨some 7,.mov (.tmp 1),none⟩,
 ⟨some 8,.call (.fn 399) [(.tmp 6),(.tmp 7)],none⟩,⟨some 9,.ext 0 (.tmp 8),none⟩,⟨some 10,.ext 1 (.tmp 8),none⟩,⟨some 4,.mov (.tmp 9),none⟩,⟨some 5,.mov (.tmp 10),none⟩]) (.ret))) }

def F_trace_words_c1 : ACFn := { nt := 43,results := [],body := (.block 0 (.loop (.seq (.seq (.region [⟨some 4,.load false 1 (.tmp 1),none⟩,⟨some 5,.bin .neq .no (.tmp 4) (.const (.str [])),none⟩]) (.cond (.tmp 5) (.skip) (.exit 0))) (.block 1 (.seq (.seq (.region [⟨some 6,.load false 1 (.tmp 1),none⟩,
 ⟨some 7,.idxS (.tmp 6) (.const (.int .i64 0)),none⟩,⟨some 8,.bin .eql .no (.tmp 7) (.const (.b8 32)),none⟩,⟨some 9,.mov (.tmp 8),none⟩,⟨some 10,.load false 1 (.tmp 1),some (9,false)⟩,⟨some 11,.idxS (.tmp 10) (.const (.int .i64 0)),some (9,false)⟩,
 ⟨some 12,.bin .eql .no (.tmp 11) (.const (.b8 9)),some (9,false)⟩,⟨some 13,.pick (.tmp 9) (.const (.bool true)) (.tmp 12),none⟩]) (.cond (.tmp 13) (.seq (.region [⟨some 14,.load false 1 (.tmp 1),none⟩,
 ⟨some 15,.slc 0 (.tmp 14) (some (.const (.int .i64 1))) none none,none⟩,⟨none,.store 1 (.tmp 1) (.tmp 15),none⟩]) (.exit 1)) (.skip))) (.seq (.region [⟨some 3,.mov (.const (.int .i64 0)),none⟩]) (.seq (.block 2 (.loop (.seq (.seq (.region [⟨some 16,.mov (.tmp 3),none⟩,
 ⟨some 17,.load false 1 (.tmp 1),none⟩,⟨some 18,.len true (.tmp 17),none⟩,⟨some 19,.bin .lss .no (.tmp 16) (.tmp 18),none⟩,⟨some 20,.mov (.tmp 19),none⟩,⟨some 21,.load false 1 (.tmp 1),some (20,true)⟩,⟨some 22,.mov (.tmp 3),some (20,true)⟩,
 ⟨some 23,.idxS (.tmp 21) (.tmp 22),some (20,true)⟩,⟨some 24,.bin .neq .no (.tmp 23) (.const (.b8 32)),some (20,true)⟩,⟨some 25,.pick (.tmp 20) (.tmp 24) (.const (.bool false)),none⟩,⟨some 26,.mov (.tmp 25),none⟩,
 ⟨some 27,.load false 1 (.tmp 1),some (26,true)⟩,⟨some 28,.mov (.tmp 3),some (26,true)⟩,⟨some 29,.idxS (.tmp 27) (.tmp 28),some (26,true)⟩,⟨some 30,.bin .neq .no (.tmp 29) (.const (.b8 9)),some (26,true)⟩,
 ⟨some 31,.pick (.tmp 26) (.tmp 30) (.const (.bool false)),none⟩]) (.cond (.tmp 31) (.skip) (.exit 2))) (.block 3 (.region [⟨some 32,.mov (.tmp 3),none⟩,⟨some 33,.bin .add .no (.tmp 32) (.const (.int .i64 1)),none⟩,
 ⟨some 3,.mov (.tmp 33),none⟩]))))) (.seq (.seq (.region [⟨some 34,.mov (.tmp 0),none⟩,⟨some 35,.load false 1 (.tmp 1),none⟩,⟨some 36,.mov (.tmp 3),none⟩,⟨some 37,.slc 0 (.tmp 35) none (some (.tmp 36)) none,none⟩,
 ⟨some 38,.call (.tmp 34) [(.tmp 37)],none⟩,⟨some 39,.un .not (.tmp 38),none⟩]) (.cond (.tmp 39) (.ret) (.skip))) (.region [⟨some 40,.load false 1 (.tmp 1),none⟩,⟨some 41,.mov (.tmp 3),none⟩,⟨some 42,.slc 0 (.tmp 40) (some (.tmp 41)) none none,none⟩,
 ⟨none,.store 1 (.tmp 1) (.tmp 42),none⟩]))))))))) }

def F_trace_without_c1 : ACFn := { nt := 7,results := [.tmp 3],body := (.seq (.region [⟨some 2,.box (.tmp 0),none⟩,⟨some 3,.mov (.const (.bool false)),none⟩]) (.seq (.region [⟨some 4,.load false 1 (.tmp 1),none⟩,⟨some 5,.mkfn 401 [(.tmp 2)],none⟩,
 ⟨some 6,.call (.fn 377) [(.tmp 4),(.tmp 5)],none⟩,⟨some 3,.mov (.tmp 6),none⟩]) (.ret))) }

def F_slices_DeleteFunc_s_api_Field_api_Field : ACFn := { nt := 42,results := [.tmp 4],body := (.seq (.region [⟨some 4,.mov (.const (.nils)),none⟩]) (.seq (.region [⟨some 8,.mov (.tmp 0),none⟩,⟨some 9,.mov (.tmp 1),none⟩,⟨some 10,.call (.fn 400) [(.tmp 8),(.tmp 9)],none⟩,
 ⟨some 5,.mov (.tmp 10),none⟩]) (.seq (.seq (.region [⟨some 11,.mov (.tmp 5),none⟩,⟨some 12,.bin .eql .no (.tmp 11) (.const (.int .i64 (-1))),none⟩]) (.cond (.tmp 12) (.seq (.region [⟨some 13,.mov (.tmp 0),none⟩,
 ⟨some 4,.mov (.tmp 13),none⟩]) (.ret)) (.skip))) (.seq (.seq (.region [⟨some 14,.mov (.tmp 5),none⟩,⟨some 15,.bin .add .no (.tmp 14) (.const (.int .i64 1)),none⟩,⟨some 6,.mov (.tmp 15),none⟩]) (.block 0 (.loop (.seq (.seq (.region [⟨some 16,.mov (.tmp 6),none⟩,
 ⟨some 17,.mov (.tmp 0),none⟩,⟨some 18,.len false (.tmp 17),none⟩,⟨some 19,.bin .lss .no (.tmp 16) (.tmp 18),none⟩]) (.cond (.tmp 19) (.skip) (.exit 0))) (.seq (.block 1 (.seq (.region [⟨some 22,.mov (.tmp 0),none⟩,
 ⟨some 23,.mov (.tmp 6),none⟩,⟨some 24,.iaddr 2 (.tmp 22) (.tmp 23),none⟩,⟨some 25,.load true 2 (.tmp 24),none⟩,⟨some 7,.alloc [.str [],.str []],none⟩,⟨none,.store 2 (.tmp 7) (.tmp 25),none⟩]) (.seq (.region [⟨some 26,.mov (.tmp 1),none⟩,
 ⟨some 27,.load true 2 (.tmp 7),none⟩,⟨some 28,.call (.tmp 26) [(.tmp 27)],none⟩,⟨some 29,.un .not (.tmp 28),none⟩]) (.cond (.tmp 29) (.seq (.region [⟨some 30,.mov (.tmp 0),none⟩,⟨some 31,.mov (.tmp 5),none⟩,
 ⟨some 32,.load true 2 (.tmp 7),none⟩,⟨some 33,.iaddr 2 (.tmp 30) (.tmp 31),none⟩,⟨none,.store 2 (.tmp 33) (.tmp 32),none⟩]) (.region [⟨some 34,.mov (.tmp 5),none⟩,⟨some 35,.bin .add .no (.tmp 34) (.const (.int .i64 1)),none⟩,
 ⟨some 5,.mov (.tmp 35),none⟩])) (.skip))))) (.region [⟨some 20,.mov (.tmp 6),none⟩,⟨some 21,.bin .add .no (.tmp 20) (.const (.int .i64 1)),none⟩,⟨some 6,.mov (.tmp 21),none⟩])))))) (.seq (.region [⟨some 36,.mov (.tmp 0),none⟩,
 ⟨some 37,.mov (.tmp 5),none⟩,⟨some 38,.slc 2 (.tmp 36) (some (.tmp 37)) none none,none⟩,⟨none,.clr [.str [],.str []] (.tmp 38),none⟩]) (.seq (.region [⟨some 39,.mov (.tmp 0),none⟩,⟨some 40,.mov (.tmp 5),none⟩,
 ⟨some 41,.slc 2 (.tmp 39) none (some (.tmp 40)) none,none⟩,⟨some 4,.mov (.tmp 41),none⟩]) (.ret))))))) }

def F_internal_stringslite_CutSuffix : ACFn := { nt := 18,results := [.tmp 4,.tmp 5],body := (.seq (.region [⟨some 4,.mov (.const (.str [])),none⟩,⟨some 5,.mov (.const (.bool false)),none⟩]) (.seq (.seq (.region [⟨some 6,.mov (.tmp 0),none⟩,⟨some 7,.mov (.tmp 1),none⟩,
 ⟨some 8,.call (.fn 136) [(.tmp 6),(.tmp 7)],none⟩,⟨some 9,.un .not (.tmp 8),none⟩]) (.cond (.tmp 9) (.seq (.region [⟨some 10,.mov (.tmp 0),none⟩,⟨some 4,.mov (.tmp 10),none⟩,⟨some 5,.mov (.const (.bool false)),none⟩]) (.ret)) (.skip))) (.seq (.region [⟨some 11,.mov (.tmp 0),none⟩,
 ⟨some 12,.mov (.tmp 0),none⟩,⟨some 13,.len true (.tmp 12),none⟩,⟨some 14,.mov (.tmp 1),none⟩,⟨some 15,.len true (.tmp 14),none⟩,⟨some 16,.bin .sub .no (.tmp 13) (.tmp 15),none⟩,⟨some 17,.slc 0 (.tmp 11) none (some (.tmp 16)) none,none⟩,
 ⟨some 4,.mov (.tmp 17),none⟩,⟨some 5,.mov (.const (.bool true)),none⟩]) (.ret)))) }

def F_slices_IndexFunc_s_api_Field_api_Field : ACFn := { nt := 19,results := [.tmp 4],body := (.seq (.region [⟨some 4,.mov (.const (.int .i64 0)),none⟩]) (.seq (.seq (.region [⟨some 6,.mov (.tmp 0),none⟩,⟨some 7,.len false (.tmp 6),none⟩,⟨some 8,.mov (.const (.int .i64 0)),none⟩]) (.block 0 (.loop (.seq (.region [⟨some 9,.bin .lss .no (.tmp 8) (.tmp 7),none⟩]) (.seq (.cond (.tmp 9) (.skip) (.exit 0)) (.seq (.block 1 (.seq (.region [⟨some 10,.mov (.tmp 8),none⟩,
 ⟨some 5,.mov (.tmp 10),none⟩]) (.seq (.region [⟨some 11,.mov (.tmp 1),none⟩,⟨some 12,.mov (.tmp 0),none⟩,⟨some 13,.mov (.tmp 5),none⟩,⟨some 14,.iaddr 2 (.tmp 12) (.tmp 13),none⟩,⟨some 15,.load true 2 (.tmp 14),none⟩,
 ⟨some 16,.call (.tmp 11) [(.tmp 15)],none⟩]) (.cond (.tmp 16) (.seq (.region [⟨some 17,.mov (.tmp 5),none⟩,⟨some 4,.mov (.tmp 17),none⟩]) (.ret)) (.skip))))) (.region [⟨some 18,.bin .add .no (.tmp 8) (.const (.int .i64 1)),none⟩,
 ⟨some 8,.mov (.tmp 18),none⟩]))))))) (.seq (.region [⟨some 4,.mov (.const (.int .i64 (-1))),none⟩]) (.ret)))) }

def F_trace_without_c1_c1 : ACFn := { nt := 8,results := [.tmp 3],body := (.seq (.region [⟨some 3,.mov (.const (.bool false)),none⟩]) (.seq (.region [⟨some 4,.faddr 0 (.tmp 1),none⟩,⟨some 5,.load false 1 (.tmp 4),none⟩,⟨some 6,.mov (.tmp 0),none⟩,
 ⟨some 7,.call (.fn 155) [(.tmp 5),(.tmp 6)],none⟩,⟨some 3,.mov (.tmp 7),none⟩]) (.ret))) }

end Go.Ab
/-
  The abstract program: functions by their numbers.
-/
namespace Go.Ab
def prog : AP := fun n => (if n < 286 then (if n < 155 then (if n < 115 then (if n < 73 then (if n < 58 then (if n < 57 then (if n = 32 then some (.prim pBytesIndex) else none)
  else (if n = 57 then some (.code F_P_strings_Builder_WriteByte) else none))
  else (if n < 59 then (if n = 58 then some (.code F_P_strings_Builder_WriteString) else none)
  else (if n < 72 then (if n = 59 then some (.primS pBuilderString) else none)
  else (if n = 72 then some (.code F_strings_HasPrefix) else none))))
  else (if n < 82 then (if n < 78 then (if n = 73 then some (.primS pCopyCheck) else none)
  else (if n < 79 then (if n = 78 then some (.prim pStrIndexByte) else none)
  else (if n = 79 then some (.code F_internal_stringslite_HasPrefix) else none)))
  else (if n < 111 then (if n = 82 then some (.prim pStrIndex) else none)
  else (if n < 113 then (if n = 111 then some (.code F_addr_Right) else none)
  else (if n = 113 then some (.code F_addr_Normal) else none)))))
  else (if n < 133 then (if n < 126 then (if n < 124 then (if n = 115 then some (.code F_addr_Plain) else none)
  else (if n < 125 then (if n = 124 then some (.code F_addr_parts) else none)
  else (if n = 125 then some (.code F_addr_isAtom) else none)))
  else (if n < 127 then (if n = 126 then some (.code F_addr_isLabel) else none)
  else (if n < 128 then (if n = 127 then some (.code F_addr_isName) else none)
  else (if n = 128 then some (.code F_strings_Cut) else none))))
  else (if n < 136 then (if n < 134 then (if n = 133 then some (.prim pStrSplit) else none)
  else (if n < 135 then (if n = 134 then some (.code F_addr_alnum) else none)
  else (if n = 135 then some (.code F_internal_stringslite_Cut) else none)))
  else (if n < 145 then (if n = 136 then some (.code F_internal_stringslite_HasSuffix) else none)
  else (if n < 150 then (if n = 145 then some (.code F_fields_Write) else none)
  else (if n = 150 then some (.code F_fields_Parse) else none))))))
  else (if n < 172 then (if n < 165 then (if n < 158 then (if n < 157 then (if n = 155 then some (.code F_fields_Same) else none)
  else (if n = 157 then some (.code F_fields_isName) else none))
  else (if n < 159 then (if n = 158 then some (.code F_fields_isValue) else none)
  else (if n < 164 then (if n = 159 then some (.code F_fields_fold) else none)
  else (if n = 164 then some (.code F_fields_lines) else none))))
  else (if n < 168 then (if n < 166 then (if n = 165 then some (.code F_P_fields_reader_shut) else none)
  else (if n < 167 then (if n = 166 then some (.code F_P_fields_reader_line) else none)
  else (if n = 167 then some (.code F_fields_lower) else none)))
  else (if n < 169 then (if n = 168 then some (.code F_fields_trim) else none)
  else (if n < 171 then (if n = 169 then some (.code F_strings_LastIndexByte) else none)
  else (if n = 171 then some (.code F_fields_lines_c1) else none)))))
  else (if n < 275 then (if n < 258 then (if n < 199 then (if n = 172 then some (.code F_internal_bytealg_LastIndexByteString) else none)
  else (if n < 256 then (if n = 199 then some (.code F_when_Right) else none)
  else (if n = 256 then some (.code F_date_Print) else none)))
  else (if n < 262 then (if n = 258 then some (.code F_date_Weekday) else none)
  else (if n < 274 then (if n = 262 then some (.code F_date_Parse) else none)
  else (if n = 274 then some (.code F_date_isShift) else none))))
  else (if n < 278 then (if n < 276 then (if n = 275 then some (.code F_when_Civil) else none)
  else (if n < 277 then (if n = 276 then some (.code F_date_two) else none)
  else (if n = 277 then some (.code F_date_dayName) else none)))
  else (if n < 284 then (if n = 278 then some (.code F_date_monthName) else none)
  else (if n < 285 then (if n = 284 then some (.code F_date_bare) else none)
  else (if n = 285 then some (.code F_date_words) else none)))))))
  else (if n < 369 then (if n < 311 then (if n < 291 then (if n < 288 then (if n < 287 then (if n = 286 then some (.code F_date_weekday) else none)
  else (if n = 287 then some (.code F_date_digits) else none))
  else (if n < 289 then (if n = 288 then some (.code F_date_name) else none)
  else (if n < 290 then (if n = 289 then some (.code F_date_year) else none)
  else (if n = 290 then some (.code F_date_clock) else none))))
  else (if n < 306 then (if n < 292 then (if n = 291 then some (.code F_date_zone) else none)
  else (if n < 305 then (if n = 292 then some (.code F_when_Days) else none)
  else (if n = 305 then some (.code F_strings_CutPrefix) else none)))
  else (if n < 307 then (if n = 306 then some (.code F_when_before) else none)
  else (if n < 310 then (if n = 307 then some (.code F_when_month) else none)
  else (if n = 310 then some (.code F_date_words_c1) else none)))))
  else (if n < 352 then (if n < 347 then (if n < 314 then (if n = 311 then some (.code F_date_lower) else none)
  else (if n < 315 then (if n = 314 then some (.code F_internal_stringslite_CutPrefix) else none)
  else (if n = 315 then some (.code F_when_leap) else none)))
  else (if n < 348 then (if n = 347 then some (.code F_posthornlaw25_alive) else none)
  else (if n < 350 then (if n = 348 then some (.code F_trace_Hops) else none)
  else (if n = 350 then some (.code F_trace_Round) else none))))
  else (if n < 360 then (if n < 358 then (if n = 352 then some (.code F_trace_Back) else none)
  else (if n < 359 then (if n = 358 then some (.code F_trace_Write) else none)
  else (if n = 359 then some (.code F_trace_Read) else none)))
  else (if n < 362 then (if n = 360 then some (.code F_trace_Right) else none)
  else (if n < 365 then (if n = 362 then some (.code F_trace_Stamp) else none)
  else (if n = 365 then some (.code F_trace_Strip) else none))))))
  else (if n < 384 then (if n < 377 then (if n < 371 then (if n < 370 then (if n = 369 then some (.code F_posthornlaw25_TraceStrips) else none)
  else (if n = 370 then some (.code F_posthornlaw25_Mark) else none))
  else (if n < 372 then (if n = 371 then some (.code F_trace_split) else none)
  else (if n < 376 then (if n = 372 then some (.code F_trace_all) else none)
  else (if n = 376 then some (.code F_trace_Round_c1) else none))))
  else (if n < 381 then (if n < 378 then (if n = 377 then some (.code F_slices_ContainsFunc_s_string_string) else none)
  else (if n < 380 then (if n = 378 then some (.code F_trace_person) else none)
  else (if n = 380 then some (.code F_trace_words) else none)))
  else (if n < 382 then (if n = 381 then some (.code F_trace_lower) else none)
  else (if n < 383 then (if n = 382 then some (.code F_trace_isDomain) else none)
  else (if n = 383 then some (.code F_trace_isID) else none)))))
  else (if n < 396 then (if n < 392 then (if n < 385 then (if n = 384 then some (.code F_trace_isPerson) else none)
  else (if n < 386 then (if n = 385 then some (.code F_trace_without) else none)
  else (if n = 386 then some (.code F_trace_join) else none)))
  else (if n < 393 then (if n = 392 then some (.code F_slices_IndexFunc_s_string_string) else none)
  else (if n < 395 then (if n = 393 then some (.code F_strings_CutSuffix) else none)
  else (if n = 395 then some (.code F_trace_words_c1) else none))))
  else (if n < 399 then (if n < 397 then (if n = 396 then some (.primS pClone2) else none)
  else (if n < 398 then (if n = 397 then some (.code F_trace_without_c1) else none)
  else (if n = 398 then some (.code F_slices_DeleteFunc_s_api_Field_api_Field) else none)))
  else (if n < 400 then (if n = 399 then some (.code F_internal_stringslite_CutSuffix) else none)
  else (if n < 401 then (if n = 400 then some (.code F_slices_IndexFunc_s_api_Field_api_Field) else none)
  else (if n = 401 then some (.code F_trace_without_c1_c1) else none))))))))
theorem prog_32 : prog 32 = some (.prim pBytesIndex) := rfl
theorem prog_57 : prog 57 = some (.code F_P_strings_Builder_WriteByte) := rfl
theorem prog_58 : prog 58 = some (.code F_P_strings_Builder_WriteString) := rfl
theorem prog_59 : prog 59 = some (.primS pBuilderString) := rfl
theorem prog_72 : prog 72 = some (.code F_strings_HasPrefix) := rfl
theorem prog_73 : prog 73 = some (.primS pCopyCheck) := rfl
theorem prog_78 : prog 78 = some (.prim pStrIndexByte) := rfl
theorem prog_79 : prog 79 = some (.code F_internal_stringslite_HasPrefix) := rfl
theorem prog_82 : prog 82 = some (.prim pStrIndex) := rfl
theorem prog_111 : prog 111 = some (.code F_addr_Right) := rfl
theorem prog_113 : prog 113 = some (.code F_addr_Normal) := rfl
theorem prog_115 : prog 115 = some (.code F_addr_Plain) := rfl
theorem prog_124 : prog 124 = some (.code F_addr_parts) := rfl
theorem prog_125 : prog 125 = some (.code F_addr_isAtom) := rfl
theorem prog_126 : prog 126 = some (.code F_addr_isLabel) := rfl
theorem prog_127 : prog 127 = some (.code F_addr_isName) := rfl
theorem prog_128 : prog 128 = some (.code F_strings_Cut) := rfl
theorem prog_133 : prog 133 = some (.prim pStrSplit) := rfl
theorem prog_134 : prog 134 = some (.code F_addr_alnum) := rfl
theorem prog_135 : prog 135 = some (.code F_internal_stringslite_Cut) := rfl
theorem prog_136 : prog 136 = some (.code F_internal_stringslite_HasSuffix) := rfl
theorem prog_145 : prog 145 = some (.code F_fields_Write) := rfl
theorem prog_150 : prog 150 = some (.code F_fields_Parse) := rfl
theorem prog_155 : prog 155 = some (.code F_fields_Same) := rfl
theorem prog_157 : prog 157 = some (.code F_fields_isName) := rfl
theorem prog_158 : prog 158 = some (.code F_fields_isValue) := rfl
theorem prog_159 : prog 159 = some (.code F_fields_fold) := rfl
theorem prog_164 : prog 164 = some (.code F_fields_lines) := rfl
theorem prog_165 : prog 165 = some (.code F_P_fields_reader_shut) := rfl
theorem prog_166 : prog 166 = some (.code F_P_fields_reader_line) := rfl
theorem prog_167 : prog 167 = some (.code F_fields_lower) := rfl
theorem prog_168 : prog 168 = some (.code F_fields_trim) := rfl
theorem prog_169 : prog 169 = some (.code F_strings_LastIndexByte) := rfl
theorem prog_171 : prog 171 = some (.code F_fields_lines_c1) := rfl
theorem prog_172 : prog 172 = some (.code F_internal_bytealg_LastIndexByteString) := rfl
theorem prog_199 : prog 199 = some (.code F_when_Right) := rfl
theorem prog_256 : prog 256 = some (.code F_date_Print) := rfl
theorem prog_258 : prog 258 = some (.code F_date_Weekday) := rfl
theorem prog_262 : prog 262 = some (.code F_date_Parse) := rfl
theorem prog_274 : prog 274 = some (.code F_date_isShift) := rfl
theorem prog_275 : prog 275 = some (.code F_when_Civil) := rfl
theorem prog_276 : prog 276 = some (.code F_date_two) := rfl
theorem prog_277 : prog 277 = some (.code F_date_dayName) := rfl
theorem prog_278 : prog 278 = some (.code F_date_monthName) := rfl
theorem prog_284 : prog 284 = some (.code F_date_bare) := rfl
theorem prog_285 : prog 285 = some (.code F_date_words) := rfl
theorem prog_286 : prog 286 = some (.code F_date_weekday) := rfl
theorem prog_287 : prog 287 = some (.code F_date_digits) := rfl
theorem prog_288 : prog 288 = some (.code F_date_name) := rfl
theorem prog_289 : prog 289 = some (.code F_date_year) := rfl
theorem prog_290 : prog 290 = some (.code F_date_clock) := rfl
theorem prog_291 : prog 291 = some (.code F_date_zone) := rfl
theorem prog_292 : prog 292 = some (.code F_when_Days) := rfl
theorem prog_305 : prog 305 = some (.code F_strings_CutPrefix) := rfl
theorem prog_306 : prog 306 = some (.code F_when_before) := rfl
theorem prog_307 : prog 307 = some (.code F_when_month) := rfl
theorem prog_310 : prog 310 = some (.code F_date_words_c1) := rfl
theorem prog_311 : prog 311 = some (.code F_date_lower) := rfl
theorem prog_314 : prog 314 = some (.code F_internal_stringslite_CutPrefix) := rfl
theorem prog_315 : prog 315 = some (.code F_when_leap) := rfl
theorem prog_347 : prog 347 = some (.code F_posthornlaw25_alive) := rfl
theorem prog_348 : prog 348 = some (.code F_trace_Hops) := rfl
theorem prog_350 : prog 350 = some (.code F_trace_Round) := rfl
theorem prog_352 : prog 352 = some (.code F_trace_Back) := rfl
theorem prog_358 : prog 358 = some (.code F_trace_Write) := rfl
theorem prog_359 : prog 359 = some (.code F_trace_Read) := rfl
theorem prog_360 : prog 360 = some (.code F_trace_Right) := rfl
theorem prog_362 : prog 362 = some (.code F_trace_Stamp) := rfl
theorem prog_365 : prog 365 = some (.code F_trace_Strip) := rfl
theorem prog_369 : prog 369 = some (.code F_posthornlaw25_TraceStrips) := rfl
theorem prog_370 : prog 370 = some (.code F_posthornlaw25_Mark) := rfl
theorem prog_371 : prog 371 = some (.code F_trace_split) := rfl
theorem prog_372 : prog 372 = some (.code F_trace_all) := rfl
theorem prog_376 : prog 376 = some (.code F_trace_Round_c1) := rfl
theorem prog_377 : prog 377 = some (.code F_slices_ContainsFunc_s_string_string) := rfl
theorem prog_378 : prog 378 = some (.code F_trace_person) := rfl
theorem prog_380 : prog 380 = some (.code F_trace_words) := rfl
theorem prog_381 : prog 381 = some (.code F_trace_lower) := rfl
theorem prog_382 : prog 382 = some (.code F_trace_isDomain) := rfl
theorem prog_383 : prog 383 = some (.code F_trace_isID) := rfl
theorem prog_384 : prog 384 = some (.code F_trace_isPerson) := rfl
theorem prog_385 : prog 385 = some (.code F_trace_without) := rfl
theorem prog_386 : prog 386 = some (.code F_trace_join) := rfl
theorem prog_392 : prog 392 = some (.code F_slices_IndexFunc_s_string_string) := rfl
theorem prog_393 : prog 393 = some (.code F_strings_CutSuffix) := rfl
theorem prog_395 : prog 395 = some (.code F_trace_words_c1) := rfl
theorem prog_396 : prog 396 = some (.primS pClone2) := rfl
theorem prog_397 : prog 397 = some (.code F_trace_without_c1) := rfl
theorem prog_398 : prog 398 = some (.code F_slices_DeleteFunc_s_api_Field_api_Field) := rfl
theorem prog_399 : prog 399 = some (.code F_internal_stringslite_CutSuffix) := rfl
theorem prog_400 : prog 400 = some (.code F_slices_IndexFunc_s_api_Field_api_Field) := rfl
theorem prog_401 : prog 401 = some (.code F_trace_without_c1_c1) := rfl
end Go.Ab
/-
  Slices that grow: what a function has made itself.
-/
namespace Go.Ab

structure GrewAt (B : List (List PV)) (T : List Bool) (L : List LoopS) (lo : Nat) (s : St) : Prop where
  bx : s.boxes = B
  lp : s.loops = L
  lw : s.low = lo
  tk : s.toks.take T.length = T
abbrev Grew (st s : St) : Prop := GrewAt st.boxes st.toks st.loops st.boxes.length s

variable {B : List (List PV)} {T : List Bool} {L : List LoopS} {lo : Nat}
theorem GrewAt.len {s : St} (h : GrewAt B T L lo s) : T.length ≤ s.toks.length := by
  have := congrArg List.length h.tk
  simp at this; omega
theorem Grew.start {st : St} : Grew st { boxes := st.boxes, toks := st.toks, loops := st.loops, low := st.boxes.length } := ⟨rfl, rfl, rfl, by simp⟩
theorem GrewAt.start {ts : List Bool} : GrewAt B T L lo ⟨B, T ++ ts, L, lo⟩ := ⟨rfl, rfl, rfl, by simp⟩
def St.tok1 (s : St) : St := { s with toks := s.toks ++ [true] }
theorem GrewAt.tok1 {s : St} (h : GrewAt B T L lo s) : GrewAt B T L lo s.tok1 := ⟨h.bx, h.lp, h.lw, by
  show (s.toks ++ [true]).take T.length = T
  rw [List.take_append_of_le_length h.len]; exact h.tk⟩

def Own (st s : St) (esz : Nat) (v : PV) (xs : List PV) : Prop := (v = .nils ∧ xs = []) ∨ ∃ i, v = .sl esz (.own i) xs ∧ st.toks.length ≤ i ∧ s.toks[i]? = some true
def OwnB (st s : St) (v : PV) (l : List UInt8) : Prop := (v = .nils ∧ l = []) ∨ ∃ i, v = .bys (.own i) l ∧ st.toks.length ≤ i ∧ s.toks[i]? = some true

theorem Own.tok1 {st s : St} {esz : Nat} {v : PV} {xs : List PV} (h : Own st s esz v xs) : Own st s.tok1 esz v xs := by
  rcases h with h | ⟨i, h1, h2, h3⟩
  · exact .inl h
  · exact .inr ⟨i, h1, h2, by show (s.toks ++ [true])[i]? = some true; rw [List.getElem?_append_left (List.getElem?_eq_some_iff.1 h3).1]; exact h3⟩
theorem OwnB.tok1 {st s : St} {v : PV} {l : List UInt8} (h : OwnB st s v l) : OwnB st s.tok1 v l := by
  rcases h with h | ⟨i, h1, h2, h3⟩
  · exact .inl h
  · exact .inr ⟨i, h1, h2, by show (s.toks ++ [true])[i]? = some true; rw [List.getElem?_append_left (List.getElem?_eq_some_iff.1 h3).1]; exact h3⟩
theorem OwnB.by {st s : St} {v : PV} {l : List UInt8} (h : OwnB st s v l) : v.by = some l := by
  rcases h with ⟨rfl, rfl⟩ | ⟨i, rfl, _, _⟩ <;> rfl

def appS (s : St) (v : PV) : St := match v with
  | .sl _ (.own i) _ => { s with toks := s.toks.set i false ++ [true] }
  | .bys (.own i) _ => { s with toks := s.toks.set i false ++ [true] }
  | _ => s.tok1
theorem appV_own {st s : St} {esz : Nat} {v u : PV} {xs : List PV} {t : Tok} (h : Own st s esz v xs) (hl : xs.length + 1 ≤ room) :
    appV esz s v (.sl esz t [u]) = some (.sl esz (.own s.toks.length) (xs ++ [u]), appS s v) := by
  rcases h with ⟨rfl, rfl⟩ | ⟨i, rfl, h2, h3⟩
  · simp [appV, srcV, freshT, room, appS, St.tok1]
  · simp [appV, srcV, freshT, appTok, appS, h3, hl]
theorem app8_ownS {st s : St} {v y : PV} {l m : List UInt8} (h : OwnB st s v l) (hy : src8 s y = some m) (hm : m ≠ []) (hl : l.length + m.length ≤ room) :
    app8 s v y = some (.bys (.own s.toks.length) (l ++ m), appS s v) := by
  rcases h with ⟨rfl, rfl⟩ | ⟨i, rfl, h2, h3⟩
  · simp at hl
    simp [app8, hy, hm, freshT, hl, appS, St.tok1]
  · simp [app8, hy, hm, freshT, appTok, appS, h3, hl]
theorem app8_own {st s : St} {v y : PV} {l m : List UInt8} (h : OwnB st s v l) (hy : y.by = some m) (hm : m ≠ []) (hl : l.length + m.length ≤ room) :
    app8 s v y = some (.bys (.own s.toks.length) (l ++ m), appS s v) := app8_ownS h (src8_by hy) hm hl
theorem app8_nil {s : St} {v y : PV} {l : List UInt8} (hv : v.by = some l) (hy : y.by = some []) : app8 s v y = some (v, s) := by
  rcases by_cases' hv with ⟨rfl, rfl⟩ | ⟨t, rfl⟩ <;> simp [app8, src8_by hy]

theorem Own.app {st s : St} {esz : Nat} {v : PV} {xs ys : List PV} (hg : GrewAt B st.toks L lo s) (h : Own st s esz v xs) : GrewAt B st.toks L lo (appS s v) ∧ Own st (appS s v) esz (.sl esz (.own s.toks.length) ys) ys := by
  have hlen := hg.len
  rcases h with ⟨rfl, rfl⟩ | ⟨i, rfl, h2, h3⟩
  · refine ⟨hg.tok1, .inr ⟨_, rfl, hlen, ?_⟩⟩
    simp [appS, St.tok1]
  · refine ⟨⟨hg.bx, hg.lp, hg.lw, ?_⟩, .inr ⟨_, rfl, hlen, ?_⟩⟩
    · show (s.toks.set i false ++ [true]).take st.toks.length = st.toks
      rw [List.take_append_of_le_length (by simpa using hlen), List.take_set_of_le h2]; exact hg.tk
    · show (s.toks.set i false ++ [true])[s.toks.length]? = some true
      rw [List.getElem?_append_right (by simp)]; simp
theorem OwnB.app {st s : St} {v : PV} {l m : List UInt8} (hg : GrewAt B st.toks L lo s) (h : OwnB st s v l) : GrewAt B st.toks L lo (appS s v) ∧ OwnB st (appS s v) (.bys (.own s.toks.length) m) m := by
  have hlen := hg.len
  rcases h with ⟨rfl, rfl⟩ | ⟨i, rfl, h2, h3⟩
  · refine ⟨hg.tok1, .inr ⟨_, rfl, hlen, ?_⟩⟩
    simp [appS, St.tok1]
  · refine ⟨⟨hg.bx, hg.lp, hg.lw, ?_⟩, .inr ⟨_, rfl, hlen, ?_⟩⟩
    · show (s.toks.set i false ++ [true]).take st.toks.length = st.toks
      rw [List.take_append_of_le_length (by simpa using hlen), List.take_set_of_le h2]; exact hg.tk
    · show (s.toks.set i false ++ [true])[s.toks.length]? = some true
      rw [List.getElem?_append_right (by simp)]; simp

theorem app8_any {st s : St} {v y : PV} {l m : List UInt8} (hg : GrewAt B st.toks L lo s) (h : OwnB st s v l) (hy : y.by = some m) (hl : l.length + m.length ≤ room) :
    ∃ v' s', app8 s v y = some (v', s') ∧ GrewAt B st.toks L lo s' ∧ OwnB st s' v' (l ++ m) := by
  by_cases hm : m = []
  · subst hm
    exact ⟨v, s, app8_nil h.by hy, hg, by simpa using h⟩
  · obtain ⟨g2, o2⟩ := OwnB.app (m := l ++ m) hg h
    exact ⟨_, _, app8_own h hy hm hl, g2, o2⟩

theorem GrewAt.loops {s : St} {L' : List LoopS} (h : GrewAt B T L lo s) : GrewAt B T L' lo { s with loops := L' } := ⟨h.bx, rfl, h.lw, h.tk⟩
theorem OwnB.loops {st s : St} {v : PV} {l : List UInt8} {L' : List LoopS} (h : OwnB st s v l) : OwnB st { s with loops := L' } v l := h
def newSl (st : St) (esz : Nat) (xs : List PV) : PV := if xs = [] then .nils else .sl esz (.own st.toks.length) xs
def newS (st : St) (b : Bool) : St := if b then st else st.tok1
theorem Own.ne {st s : St} {esz : Nat} {v : PV} {xs : List PV} (h : Own st s esz v xs) (hne : v = .nils ↔ xs = []) : True := trivial

theorem leave_own {st s : St} {esz : Nat} {v : PV} {xs : List PV} (hg : Grew st s) (h : Own st s esz v xs) (hne : xs = [] → v = .nils) : leave st s v = (newSl st esz xs, newS st xs.isEmpty) := by
  obtain ⟨hb, hl, hw, ht⟩ := hg
  obtain ⟨bs, ts, ls, lo⟩ := s
  simp only at hb hl hw ht
  subst hb hl hw
  rcases h with ⟨rfl, rfl⟩ | ⟨i, rfl, h2, h3⟩
  · simp [leave, PV.inB, keepRes, keepVal, keepLeaf, newSl, newS, ht]
  · by_cases hx : xs = []
    · have := hne hx; cases this
    · simp only at h3
      simp [leave, PV.inB, keepRes, keepVal, keepLeaf, keepTok, newSl, newS, hx, ht, h3, show ¬ i < st.toks.length by omega, St.tok1]
theorem freshT_eq {s : St} : freshT s = (.own s.toks.length, s.tok1) := rfl
def Leaf (v : PV) : Prop := v.cells = [v] ∧ leafOk v = true
theorem Leaf_by {x : PV} {l : List UInt8} (h : x.by = some l) : Leaf x := by
  rcases by_cases' h with ⟨rfl, rfl⟩ | ⟨t, rfl⟩ <;> exact ⟨rfl, rfl⟩
theorem Leaf_int {k : IntKind} {n : Int} : Leaf (.int k n) := ⟨rfl, rfl⟩
theorem Leaf_str {s : List UInt8} : Leaf (.str s) := ⟨rfl, rfl⟩
theorem build2 {z0 z1 v0 v1 : PV} (h0 : Leaf v0) (h1 : Leaf v1) : buildCells [z0, z1] [(0, 1, v0), (1, 1, v1)] = some [v0, v1] := by
  simp [buildCells, h0.1, h0.2, h1.1, h1.2, setCells]
end Go.Ab
