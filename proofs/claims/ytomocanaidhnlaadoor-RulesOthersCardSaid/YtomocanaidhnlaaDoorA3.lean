/-
  The evaluator without fuel: its limit, and the equations of it.
-/
import Derived.Test.YtomocanaidhnlaaDoorA1
import Derived.Test.YtomocanaidhnlaaDoorA2
import Derived.Lib.Index
import Derived.Lib.Join
import Derived.ProofKit
import Derived.HandedShaped
import Derived.Deep.Slices
import Derived.KernelRfl
set_option linter.unusedVariables false
set_option linter.unusedSimpArgs false
namespace Go.Ab

variable {A : AP}

def Le (cv cv' : PV → List PV → St → Option (PV × St)) : Prop := ∀ f args st r, cv f args st = some r → cv' f args st = some r

theorem evOp_le {cv cv' : PV → List PV → St → Option (PV × St)} (h : Le cv cv') {op : AOp} {e : Env} {st : St} {r : PV × St} (hr : evOp cv op e st = some r) : evOp cv' op e st = some r := by
  cases op <;> first | exact hr | exact h _ _ _ _ hr | exact keepB_mono (fun r hr => h _ _ _ _ hr) hr | (
    simp only [evOp, Option.map_eq_some_iff] at hr ⊢
    obtain ⟨v, hv, hr⟩ := hr
    obtain ⟨h1, h2, h3, s, h4⟩ := callp_some hv
    exact ⟨v, callp_of h1 h2 h3 (h _ _ _ _ h4), hr⟩)

theorem evOps_le {cv cv' : PV → List PV → St → Option (PV × St)} (h : Le cv cv') : ∀ (ops : List AOper) (e : Env) (st : St) (r : Env × St), evOps cv ops e st = some r → evOps cv' ops e st = some r := by
  intro ops
  induction ops with
  | nil => intro e st r hr; exact hr
  | cons o rest ih =>
    intro e st r hr
    simp only [evOps] at hr ⊢
    split at hr
    · rename_i hw
      rw [if_pos hw]
      split at hr
      · rename_i v st' hv
        rw [evOp_le h hv]
        exact ih _ _ _ hr
      · cases hr
    · rename_i hw
      rw [if_neg hw]
      exact ih _ _ _ hr

def stepC (A : AP) (fC : ACode → Env → St → Option (Ex × Env × St)) (fV : PV → List PV → St → Option (PV × St)) (c : ACode) (e : Env) (st : St) : Option (Ex × Env × St) :=
    match c with
    | .skip => some (.normal, e, st)
    | .label _ => some (.normal, e, st)
    | .exit id => some (.exit id, e, st)
    | .goto l => some (.goto l, e, st)
    | .ret => some (.ret, e, st)
    | .region ops => match evOps (fV) ops e st with
      | some (e', st') => some (.normal, e', st')
      | none => none
    | .seq a b => match fC a e st with
      | some (.normal, e', st') => fC b e' st'
      | r => r
    | .cond c a b => match c.ev e with
      | .bool true => fC a e st
      | .bool false => fC b e st
      | _ => none
    | .block id b => match fC b e st with
      | some (.exit i, e', st') => some (if i = id then .normal else .exit i, e', st')
      | r => r
    | .loop b => match fC b e st with
      | some (.normal, e', st') => fC (.loop b) e' st'
      | r => r
    | .scope b => fC (.scopeAt b b) e st
    | .scopeAt b cur => match fC cur e st with
      | some (.goto l, e', st') => match findLabelA b l with
        | some rest => fC (.scopeAt b rest) e' st'
        | none => some (.goto l, e', st')
      | r => r
    | .rangeFunc f ps assign body =>
      match f.ev e with
      | .fn fid caps => match A fid with
        | some (.code _) =>
          match fV (.fn fid caps) [.yld st.loops.length] { st with loops := st.loops ++ [{ env := e, params := ps, assign, body, status := 0, pend := .normal }] } with
          | some (_, st1) => match st1.loops[st.loops.length]? with
            | some r => if r.status = 1 then none else some (r.pend, e, { st1 with loops := st1.loops.take st.loops.length })
            | none => none
          | none => none
        | _ => none
      | _ => none

def stepV (A : AP) (fC : ACode → Env → St → Option (Ex × Env × St)) (f : PV) (args : List PV) (st : St) : Option (PV × St) :=
    match f with
    | .fn f caps => match A f with
      | some (.prim p) => (p (args ++ caps)).map fun v => (v, st)
      | some (.primS p) => match p (args ++ caps) st.boxes with
        | some (v, u) => (updS st u).map fun st' => (v, st')
        | none => none
      | some (.code fn) => match fC fn.body (env0 (args ++ caps)) { st with low := st.boxes.length } with
        | some (.normal, e, st1) => (resOf e st1 fn.results).map fun v => leave st st1 v
        | some (.ret, e, st1) => (resOf e st1 fn.results).map fun v => leave st st1 v
        | _ => none
      | none => none
    | .yld k => match st.loops[k]? with
      | some r =>
        if r.status = 0 ∧ args.length = r.params.length then
          match fC r.assign (updAll r.env r.params args) st with
          | some (.normal, e1, s1) => match s1.loops[k]? with
            | some r1 => if r1.status = 0 then
                match fC r.body e1 { s1 with loops := s1.loops.set k { r1 with status := 1 } } with
                | some (x, _, s2) => match s2.loops[k]? with
                  | some r2 => some (.bool (decide (x = .normal)), { s2 with loops := s2.loops.set k { r2 with status := if x = .normal then 0 else 2, pend := x } })
                  | none => none
                | none => none
              else none
            | none => none
          | _ => none
        else none
      | none => none
    | _ => none

theorem evC_succ (A : AP) (n : Nat) (c : ACode) (e : Env) (st : St) : evC A (n + 1) c e st = stepC A (evC A n) (evV A n) c e st := by
  cases c <;> rw [evC] <;> rfl

theorem evV_succ (A : AP) (n : Nat) (f : PV) (args : List PV) (st : St) : evV A (n + 1) f args st = stepV A (evC A n) f args st := by
  cases f <;> rw [evV] <;> first | rfl | (intros; contradiction)

def LeC (f g : ACode → Env → St → Option (Ex × Env × St)) : Prop := ∀ c e st r, f c e st = some r → g c e st = some r

theorem stepC_le {A : AP} {fC gC : ACode → Env → St → Option (Ex × Env × St)} {fV gV : PV → List PV → St → Option (PV × St)} (ihC : LeC fC gC) (ihV : Le fV gV) : LeC (stepC A fC fV) (stepC A gC gV) := by
  intro c e st r h
  cases c with
  | skip => simp only [stepC] at h ⊢; exact h
  | label l => simp only [stepC] at h ⊢; exact h
  | exit i => simp only [stepC] at h ⊢; exact h
  | goto l => simp only [stepC] at h ⊢; exact h
  | ret => simp only [stepC] at h ⊢; exact h
  | region ops =>
    simp only [stepC] at h ⊢
    split at h
    · rename_i e1 st1 he
      rw [evOps_le ihV _ _ _ _ he]; exact h
    · cases h
  | seq a b =>
    simp only [stepC] at h ⊢
    cases ha : fC a e st with
    | none => rw [ha] at h; cases h
    | some q =>
      obtain ⟨x, e1, st1⟩ := q
      rw [ha] at h
      rw [ihC _ _ _ _ ha]
      cases x with
      | normal => exact ihC _ _ _ _ h
      | _ => exact h
  | cond c a b =>
    simp only [stepC] at h ⊢
    split at h
    · exact ihC _ _ _ _ h
    · exact ihC _ _ _ _ h
    · cases h
  | block id b =>
    simp only [stepC] at h ⊢
    cases ha : fC b e st with
    | none => rw [ha] at h; cases h
    | some q => rw [ha] at h; rw [ihC _ _ _ _ ha]; exact h
  | loop b =>
    simp only [stepC] at h ⊢
    cases ha : fC b e st with
    | none => rw [ha] at h; cases h
    | some q =>
      obtain ⟨x, e1, st1⟩ := q
      rw [ha] at h
      rw [ihC _ _ _ _ ha]
      cases x with
      | normal => exact ihC _ _ _ _ h
      | _ => exact h
  | scope b => simp only [stepC] at h ⊢; exact ihC _ _ _ _ h
  | scopeAt b cur =>
    simp only [stepC] at h ⊢
    cases ha : fC cur e st with
    | none => rw [ha] at h; cases h
    | some q =>
      obtain ⟨x, e1, st1⟩ := q
      rw [ha] at h
      rw [ihC _ _ _ _ ha]
      cases x with
      | goto l =>
        simp only at h ⊢
        split at h
        · exact ihC _ _ _ _ h
        · exact h
      | _ => exact h
  | rangeFunc f ps asg body =>
    simp only [stepC] at h ⊢
    split at h
    · split at h
      · split at h
        · rename_i v1 st1 hc
          rw [ihV _ _ _ _ hc]; exact h
        · cases h
      · cases h
    · cases h

theorem stepV_le {A : AP} {fC gC : ACode → Env → St → Option (Ex × Env × St)} (ihC : LeC fC gC) : Le (stepV A fC) (stepV A gC) := by
  intro f args st r h
  cases f with
  | fn f caps =>
    simp only [stepV] at h ⊢
    split at h
    · exact h
    · exact h
    · rename_i fn hA
      split at h
      · rename_i e1 st1 he
        rw [ihC _ _ _ _ he]; exact h
      · rename_i e1 st1 he
        rw [ihC _ _ _ _ he]; exact h
      · cases h
    · cases h
  | yld k =>
    simp only [stepV] at h ⊢
    split at h
    · rename_i r0 hr0
      split at h
      · rename_i hc
        rw [if_pos hc]
        split at h
        · rename_i e1 s1 he
          rw [ihC _ _ _ _ he]
          simp only
          split at h
          · rename_i r1 hr1
            split at h
            · rename_i hs1
              try rw [hr1]
              simp only [hs1, if_true]
              split at h
              · rename_i x e2 s2 hb
                rw [ihC _ _ _ _ hb]; exact h
              · cases h
            · cases h
          · cases h
        · cases h
      · cases h
    · cases h
  | _ => simp only [stepV] at h; cases h


theorem ev_succ (A : AP) : ∀ (n : Nat), LeC (evC A n) (evC A (n + 1)) ∧ Le (evV A n) (evV A (n + 1)) := by
  intro n
  induction n with
  | zero => exact ⟨fun c e st r h => by simp [evC] at h, fun f args st r h => by simp [evV] at h⟩
  | succ n ih =>
    refine ⟨fun c e st r h => ?_, fun f args st r h => ?_⟩
    · rw [evC_succ] at h ⊢
      exact stepC_le ih.1 ih.2 c e st r h
    · rw [evV_succ] at h ⊢
      exact stepV_le ih.1 f args st r h

theorem evC_le {n m : Nat} (h : n ≤ m) {c : ACode} {e : Env} {st : St} {r : Ex × Env × St} (hr : evC A n c e st = some r) : evC A m c e st = some r := by
  induction h with
  | refl => exact hr
  | step _ ih => exact (ev_succ A _).1 _ _ _ _ ih

theorem evV_le {n m : Nat} (h : n ≤ m) : Le (evV A n) (evV A m) := by
  intro f args st r hr
  induction h with
  | refl => exact hr
  | step _ ih => exact (ev_succ A _).2 _ _ _ _ ih

open Classical in
noncomputable def ex (A : AP) (c : ACode) (e : Env) (st : St) : Option (Ex × Env × St) :=
  if h : ∃ r n, evC A n c e st = some r then some h.choose else none
open Classical in
noncomputable def call (A : AP) (f : PV) (args : List PV) (st : St) : Option (PV × St) :=
  if h : ∃ r n, evV A n f args st = some r then some h.choose else none

theorem ex_iff {c : ACode} {e : Env} {st : St} {r : Ex × Env × St} : ex A c e st = some r ↔ ∃ n, evC A n c e st = some r := by
  unfold ex
  constructor
  · intro h
    split at h
    · rename_i hh
      cases h
      exact hh.choose_spec
    · cases h
  · rintro ⟨n, hn⟩
    have hh : ∃ r n, evC A n c e st = some r := ⟨r, n, hn⟩
    rw [dif_pos hh]
    obtain ⟨m, hm⟩ := hh.choose_spec
    have h1 := evC_le (Nat.le_max_left n m) hn
    have h2 := evC_le (Nat.le_max_right n m) hm
    rw [h1] at h2
    exact h2.symm

theorem call_iff {f : PV} {args : List PV} {st : St} {r : PV × St} : call A f args st = some r ↔ ∃ n, evV A n f args st = some r := by
  unfold call
  constructor
  · intro h
    split at h
    · rename_i hh
      cases h
      exact hh.choose_spec
    · cases h
  · rintro ⟨n, hn⟩
    have hh : ∃ r n, evV A n f args st = some r := ⟨r, n, hn⟩
    rw [dif_pos hh]
    obtain ⟨m, hm⟩ := hh.choose_spec
    have h1 := evV_le (Nat.le_max_left n m) _ _ _ _ hn
    have h2 := evV_le (Nat.le_max_right n m) _ _ _ _ hm
    rw [h1] at h2
    exact h2.symm

theorem opt_ext {α : Type} {a b : Option α} (h : ∀ r, a = some r ↔ b = some r) : a = b := by
  cases a with
  | none =>
    cases b with
    | none => rfl
    | some y => exact absurd ((h y).2 rfl) (by simp)
  | some x => exact ((h x).1 rfl).symm

theorem ex_eq {c : ACode} {e : Env} {st : St} {o : Option (Ex × Env × St)} (h1 : ∀ r n, evC A (n + 1) c e st = some r → o = some r) (h2 : ∀ r, o = some r → ∃ n, evC A n c e st = some r) : ex A c e st = o :=
  opt_ext fun r => by
    rw [ex_iff]
    constructor
    · rintro ⟨n, hn⟩
      exact h1 r n ((ev_succ A n).1 _ _ _ _ hn)
    · exact h2 r

theorem call_eq {f : PV} {args : List PV} {st : St} {o : Option (PV × St)} (h1 : ∀ r n, evV A (n + 1) f args st = some r → o = some r) (h2 : ∀ r, o = some r → ∃ n, evV A n f args st = some r) : call A f args st = o :=
  opt_ext fun r => by
    rw [call_iff]
    constructor
    · rintro ⟨n, hn⟩
      exact h1 r n ((ev_succ A n).2 _ _ _ _ hn)
    · exact h2 r

theorem le_call (n : Nat) : Le (evV A n) (call A) := fun f args st r h => call_iff.2 ⟨n, h⟩
theorem ex_of {n : Nat} {c : ACode} {e : Env} {st : St} {r : Ex × Env × St} (h : evC A n c e st = some r) : ex A c e st = some r := ex_iff.2 ⟨n, h⟩
theorem evOps_lim : ∀ (ops : List AOper) (e : Env) (st : St) (r : Env × St), evOps (call A) ops e st = some r → ∃ n, evOps (evV A n) ops e st = some r := by
  intro ops
  induction ops with
  | nil => intro e st r h; exact ⟨0, h⟩
  | cons o rest ih =>
    intro e st r h
    simp only [evOps] at h
    split at h
    · rename_i hw
      split at h
      · rename_i v st1 hv
        obtain ⟨n, hn⟩ := ih _ _ _ h
        have : ∃ m, evOp (evV A m) o.op e st = some (v, st1) := by
          cases ho : o.op with
          | call f args =>
            rw [ho] at hv
            exact call_iff.1 hv
          | callk f args =>
            rw [ho] at hv
            simp only [evOp] at hv ⊢
            obtain ⟨v2, s2⟩ := keepB_some hv
            obtain ⟨m, hm⟩ := call_iff.1 v2
            exact ⟨m, keepB_mono (fun r hr => by rw [v2] at hr; cases hr; exact hm) hv⟩
          | callp f args =>
            rw [ho] at hv
            simp only [evOp, Option.map_eq_some_iff] at hv ⊢
            obtain ⟨u, hu, hv⟩ := hv
            obtain ⟨h1, h2, h3, s, h4⟩ := callp_some hu
            obtain ⟨m, hm⟩ := call_iff.1 h4
            exact ⟨m, u, callp_of h1 h2 h3 hm, hv⟩
          | _ => rw [ho] at hv; exact ⟨0, hv⟩
        obtain ⟨m, hm⟩ := this
        refine ⟨max n m, ?_⟩
        simp only [evOps, if_pos hw, evOp_le (evV_le (Nat.le_max_right n m)) hm]
        exact evOps_le (evV_le (Nat.le_max_left n m)) _ _ _ _ hn
      · cases h
    · rename_i hw
      obtain ⟨n, hn⟩ := ih _ _ _ h
      exact ⟨n, by simp only [evOps, if_neg hw]; exact hn⟩

section eqs
variable {e : Env} {st : St}
theorem ex_skip : ex A .skip e st = some (.normal, e, st) := ex_of (n := 1) rfl
theorem ex_exit {i : Nat} : ex A (.exit i) e st = some (.exit i, e, st) := ex_of (n := 1) rfl
theorem ex_goto {l : Nat} : ex A (.goto l) e st = some (.goto l, e, st) := ex_of (n := 1) rfl
theorem ex_ret : ex A .ret e st = some (.ret, e, st) := ex_of (n := 1) rfl

def ops2 : Option (Env × St) → Option (Ex × Env × St)
  | some (e, st) => some (.normal, e, st)
  | none => none

theorem ex_region {ops : List AOper} : ex A (.region ops) e st = ops2 (evOps (call A) ops e st) := by
  refine ex_eq (fun r n h => ?_) (fun r h => ?_)
  · rw [evC_succ] at h; simp only [stepC] at h
    split at h
    · rename_i e1 st1 he
      rw [evOps_le (le_call n) _ _ _ _ he]; exact h
    · cases h
  · unfold ops2 at h
    split at h
    · rename_i e1 st1 he
      obtain ⟨n, hn⟩ := evOps_lim _ _ _ _ he
      exact ⟨n + 1, by rw [evC_succ]; simp only [stepC, hn]; exact h⟩
    · cases h

theorem ex_seq {a b : ACode} : ex A (.seq a b) e st = (match ex A a e st with | some (.normal, e', st') => ex A b e' st' | r => r) := by
  refine ex_eq (fun r n h => ?_) (fun r h => ?_)
  · rw [evC_succ] at h; simp only [stepC] at h
    cases ha : evC A n a e st with
    | none => rw [ha] at h; cases h
    | some q =>
      obtain ⟨x, e1, st1⟩ := q
      rw [ha] at h
      rw [ex_of ha]
      cases x with
      | normal => exact ex_of h
      | _ => exact h
  · cases ha : ex A a e st with
    | none => rw [ha] at h; cases h
    | some q =>
      obtain ⟨x, e1, st1⟩ := q
      rw [ha] at h
      obtain ⟨n, hn⟩ := ex_iff.1 ha
      cases x with
      | normal =>
        obtain ⟨m, hm⟩ := ex_iff.1 h
        exact ⟨max n m + 1, by rw [evC_succ]; simp only [stepC, evC_le (Nat.le_max_left n m) hn, evC_le (Nat.le_max_right n m) hm]⟩
      | _ => exact ⟨n + 1, by rw [evC_succ]; simp only [stepC, hn]; exact h⟩

theorem ex_cond {c : Opd} {a b : ACode} : ex A (.cond c a b) e st = (match c.ev e with | .bool true => ex A a e st | .bool false => ex A b e st | _ => none) := by
  refine ex_eq (fun r n h => ?_) (fun r h => ?_)
  · rw [evC_succ] at h; simp only [stepC] at h
    split at h
    · rename_i hc; try rw [hc]
      exact ex_of h
    · rename_i hc; try rw [hc]
      exact ex_of h
    · cases h
  · split at h
    · rename_i hc
      obtain ⟨n, hn⟩ := ex_iff.1 h
      exact ⟨n + 1, by rw [evC_succ]; simp only [stepC, hc]; exact hn⟩
    · rename_i hc
      obtain ⟨n, hn⟩ := ex_iff.1 h
      exact ⟨n + 1, by rw [evC_succ]; simp only [stepC, hc]; exact hn⟩
    · cases h

theorem ex_block {id : Nat} {b : ACode} : ex A (.block id b) e st = (match ex A b e st with | some (.exit i, e', st') => some (if i = id then .normal else .exit i, e', st') | r => r) := by
  refine ex_eq (fun r n h => ?_) (fun r h => ?_)
  · rw [evC_succ] at h; simp only [stepC] at h
    cases ha : evC A n b e st with
    | none => rw [ha] at h; cases h
    | some q => rw [ha] at h; rw [ex_of ha]; exact h
  · cases ha : ex A b e st with
    | none => rw [ha] at h; cases h
    | some q =>
      rw [ha] at h
      obtain ⟨n, hn⟩ := ex_iff.1 ha
      exact ⟨n + 1, by rw [evC_succ]; simp only [stepC, hn]; exact h⟩

theorem ex_loop {b : ACode} : ex A (.loop b) e st = (match ex A b e st with | some (.normal, e', st') => ex A (.loop b) e' st' | r => r) := by
  refine ex_eq (fun r n h => ?_) (fun r h => ?_)
  · rw [evC_succ] at h; simp only [stepC] at h
    cases ha : evC A n b e st with
    | none => rw [ha] at h; cases h
    | some q =>
      obtain ⟨x, e1, st1⟩ := q
      rw [ha] at h
      rw [ex_of ha]
      cases x with
      | normal => exact ex_of h
      | _ => exact h
  · cases ha : ex A b e st with
    | none => rw [ha] at h; cases h
    | some q =>
      obtain ⟨x, e1, st1⟩ := q
      rw [ha] at h
      obtain ⟨n, hn⟩ := ex_iff.1 ha
      cases x with
      | normal =>
        obtain ⟨m, hm⟩ := ex_iff.1 h
        exact ⟨max n m + 1, by rw [evC_succ]; simp only [stepC, evC_le (Nat.le_max_left n m) hn, evC_le (Nat.le_max_right n m) hm]⟩
      | _ => exact ⟨n + 1, by rw [evC_succ]; simp only [stepC, hn]; exact h⟩

theorem ex_scope {b : ACode} : ex A (.scope b) e st = ex A (.scopeAt b b) e st := by
  refine ex_eq (fun r n h => ?_) (fun r h => ?_)
  · rw [evC_succ] at h; simp only [stepC] at h; exact ex_of h
  · obtain ⟨n, hn⟩ := ex_iff.1 h
    exact ⟨n + 1, by rw [evC_succ]; exact hn⟩

theorem ex_scopeAt {b cur : ACode} : ex A (.scopeAt b cur) e st = (match ex A cur e st with
    | some (.goto l, e', st') => (match findLabelA b l with | some rest => ex A (.scopeAt b rest) e' st' | none => some (.goto l, e', st'))
    | r => r) := by
  refine ex_eq (fun r n h => ?_) (fun r h => ?_)
  · rw [evC_succ] at h; simp only [stepC] at h
    cases ha : evC A n cur e st with
    | none => rw [ha] at h; cases h
    | some q =>
      obtain ⟨x, e1, st1⟩ := q
      rw [ha] at h
      rw [ex_of ha]
      cases x with
      | goto l =>
        simp only at h ⊢
        split at h
        · rename_i hf; try rw [hf]
          exact ex_of h
        · rename_i hf; try rw [hf]
          exact h
      | _ => exact h
  · cases ha : ex A cur e st with
    | none => rw [ha] at h; cases h
    | some q =>
      obtain ⟨x, e1, st1⟩ := q
      rw [ha] at h
      obtain ⟨n, hn⟩ := ex_iff.1 ha
      cases x with
      | goto l =>
        simp only at h
        split at h
        · rename_i rest hf
          obtain ⟨m, hm⟩ := ex_iff.1 h
          exact ⟨max n m + 1, by rw [evC_succ]; simp only [stepC, evC_le (Nat.le_max_left n m) hn, hf, evC_le (Nat.le_max_right n m) hm]⟩
        · rename_i hf
          exact ⟨n + 1, by rw [evC_succ]; simp only [stepC, hn, hf]; exact h⟩
      | _ => exact ⟨n + 1, by rw [evC_succ]; simp only [stepC, hn]; exact h⟩

theorem call_prim {f : Nat} {caps args : List PV} {p : List PV → Option PV} (hA : A f = some (.prim p)) : call A (.fn f caps) args st = (p (args ++ caps)).map fun v => (v, st) := by
  refine call_eq (fun r n h => ?_) (fun r h => ?_)
  · rw [evV_succ] at h; simp only [stepV, hA] at h; exact h
  · exact ⟨1, by rw [evV_succ]; simp only [stepV, hA]; exact h⟩

def primS (p : List PV → List (List PV) → Option (PV × Upd)) (args : List PV) (st : St) : Option (PV × St) := match p args st.boxes with
        | some (v, u) => (updS st u).map fun st' => (v, st')
        | none => none
def finish (st : St) (rs : List RV) : Option (Ex × Env × St) → Option (PV × St)
  | some (.normal, e, st1) => (resOf e st1 rs).map fun v => leave st st1 v
  | some (.ret, e, st1) => (resOf e st1 rs).map fun v => leave st st1 v
  | _ => none

theorem call_fn {f : Nat} {caps args : List PV} {fn : ACFn} (hA : A f = some (.code fn)) : call A (.fn f caps) args st = finish st fn.results (ex A fn.body (env0 (args ++ caps)) { st with low := st.boxes.length }) := by
  refine call_eq (fun r n h => ?_) (fun r h => ?_)
  · rw [evV_succ] at h; simp only [stepV, hA] at h
    split at h
    · rename_i e1 st1 he; rw [ex_of he]; exact h
    · rename_i e1 st1 he; rw [ex_of he]; exact h
    · cases h
  · unfold finish at h
    split at h
    · rename_i e1 st1 he
      obtain ⟨n, hn⟩ := ex_iff.1 he
      exact ⟨n + 1, by rw [evV_succ]; simp only [stepV, hA, hn]; exact h⟩
    · rename_i e1 st1 he
      obtain ⟨n, hn⟩ := ex_iff.1 he
      exact ⟨n + 1, by rw [evV_succ]; simp only [stepV, hA, hn]; exact h⟩
    · cases h

end eqs
end Go.Ab
/-
  From the evaluator's answer to the contract of a law.
-/
namespace Go.Ab

variable {P : Program} {g : GMap} {A : AP}

def κ0 (w : World) : K := { C := fun b i => w.cell? ⟨b, i, none⟩, φ := [], lam := [], τ := [], S := fun _ => none, μ := fun _ => false }
def st0 : St := { boxes := [], toks := [], loops := [], low := 0 }

theorem SR0 {w : World} (h : g.inv (κ0 w)) : SR P g w.heap.size (κ0 w) w st0 where
  cC b i v h := h
  sh b t h := by simp [κ0] at h
  bl := rfl
  bn := List.nodup_nil
  bx b blk cs h := by simp [st0] at h
  mx b blk cs h := by simp [st0] at h
  mz b _ := rfl
  tl := rfl
  tk i blk e ce h := by simp [st0] at h
  td i j bi ei ci bj ej cj h := by simp [st0] at h
  ll := rfl
  ln := List.nodup_nil
  lb l D h := by simp [κ0] at h
  lp k l D r h := by simp [st0] at h
  hb := Nat.le_refl _
  gv := h

theorem law_calls (hL : Linked P g A) {f' : FuncId} {f : Nat} {fn : ACFn} (hg : g f' = some f) (hA : A f = some (.code fn)) {w : World} {args : Array Value} {ps : List PV} {st' : St} (hi : g.inv (κ0 w))
    (hsz : args.size = ps.length) (hargs : ∀ (i : Nat) (u : Value) (q : PV), args[i]? = some u → ps[i]? = some q → R g (κ0 w) u q) (hc : call A (.fn f []) ps st0 = some (.bool true, st')) :
    Calls P f' args w fun e w' => e = .returned (.bool true) ∧ Go.RowKit.Below w.heap.size w w' := by
  obtain ⟨n, hn⟩ := call_iff.1 hc
  refine calls_of_ev hL hg hA (SR0 hi) hsz hargs (Nat.le_refl _) hn ?_
  intro κ' z w' h1 h2 h3 h4 h5
  cases h4
  exact ⟨rfl, h5.below⟩

theorem callsIn_of_calls {F : Fence} (hF : Wide F) {n : Nat} {f : FuncId} {args : Array Value} {w : World} {Rr : Ending → World → Prop} (h : Calls P f args w Rr) : CallsIn F n P f args w Rr := by
  have hfn : F.fn = fun _ => True := funext fun f => propext ⟨fun _ => trivial, fun _ => hF.2 f⟩
  obtain ⟨fnF, dep, al, ro⟩ := F
  simp only at hfn
  subst hfn
  obtain ⟨⟨h1, h2⟩, _⟩ := hF
  simp only at h1 h2
  subst h1 h2
  have := callsIn_wide (n := n) (P := P) (f := f) (args := args) (w := w) (R := Rr)
  exact this.2 h

theorem prim_of_calls {f' : FuncId} {p : List PV → Option PV} {pf : Func} (hpf : P.funcs[f']? = some pf) (hb : pf.body.isSome = true) (hn : pf.name ≠ "runtime.NumGoroutine")
    (h : ∀ (κ : K) (w : World) (args : Array Value) (ps : List PV) (v : PV), g.inv κ → (∀ b i u, κ.C b i = some u → w.cell? ⟨b, i, none⟩ = some u) → args.size = ps.length → (∀ (i : Nat) (u : Value) (q : PV), args[i]? = some u → ps[i]? = some q → R g κ u q) → p ps = some v →
      Calls P f' args w fun e w' => ∃ z, e = .returned z ∧ (∀ κ', R g κ' z v) ∧ w'.heap = w.heap ∧ w'.os = w.os ∧ w'.tape = w.tape ∧ w'.output = w.output) : PrimOK P g f' p := by
  intro base κ w st args ps v hsr hsz hargs hp F hF nn o a next Q hnext
  have hrun : (callFunc f' args).run P w = .ok (.enter f' args) w := by
    have hb2 : pf.body.isNone = false := by
      cases hbb : pf.body with
      | none => rw [hbb] at hb; cases hb
      | some c => rfl
    have hn2 : (pf.name == "runtime.NumGoroutine") = false := by simpa using hn
    unfold callFunc
    simp only [Sem.run_bind, Go.program, Sem.run, Result.andThen, hpf, hn2, hb2]
    rfl
  rw [hrun]
  refine ⟨hF.deep, callsIn_of_calls hF ?_⟩
  refine (h κ w args ps v hsr.gv hsr.cC hsz hargs hp).mono ?_
  rintro e w' ⟨z, rfl, hz, h1, h2, h3, h4⟩
  exact hnext κ z w' (K.le.refl κ) rfl (hsr.heap h1) (hz κ) (Fr.same h1 h2 h3 h4)
end Go.Ab
/-
  Rules for running abstract code by rewriting.
-/
namespace Go.Ab

variable {A : AP} {e : Env} {st : St}

def W (A : AP) (c : ACode) (e : Env) (st : St) (Q : Ex → Env → St → Prop) : Prop := ∃ r, ex A c e st = some r ∧ Q r.1 r.2.1 r.2.2

def WP (o : Option (PV × St)) (K : PV → St → Prop) : Prop := match o with | some (v, st') => K v st' | none => False

def WO (A : AP) : List AOper → Env → St → (Env → St → Prop) → Prop
  | [], e, st, Q => Q e st
  | o :: r, e, st, Q => if wantedA o.guard e = true then WP (evOp (call A) o.op e st) (fun v st' => WO A r (updO e o.dst v) st' Q) else WO A r (updO e o.dst .undef) st Q

theorem WO_iff : ∀ (ops : List AOper) (e : Env) (st : St) (Q : Env → St → Prop), WO A ops e st Q ↔ ∃ r, evOps (call A) ops e st = some r ∧ Q r.1 r.2 := by
  intro ops
  induction ops with
  | nil => intro e st Q; simp [WO, evOps]
  | cons o r ih =>
    intro e st Q
    simp only [WO, evOps]
    split
    · cases h : evOp (call A) o.op e st with
      | none => simp [WP]
      | some q => obtain ⟨v, st'⟩ := q; simp only [WP]; exact ih _ _ _
    · exact ih _ _ _

theorem qalz {Q : Env → St → Prop} : WO A [] e st Q = Q e st := rfl

def WN (A : AP) (o : Option (PV × St)) (d : Option Nat) (r : List AOper) (e : Env) (Q : Env → St → Prop) : Prop := match o with
  | some (v, st') => WO A r (updO e d v) st' Q
  | none => False
theorem qarz {v : PV} {st' : St} {d : Option Nat} {r : List AOper} {Q : Env → St → Prop} : WN A (some (v, st')) d r e Q = WO A r (updO e d v) st' Q := rfl
theorem qasz {d : Option Nat} {r : List AOper} {Q : Env → St → Prop} : WN A none d r e Q = False := rfl

theorem qajz {d : Option Nat} {op : AOp} {r : List AOper} {Q : Env → St → Prop} : WO A (⟨d, op, none⟩ :: r) e st Q = WN A (evOp (call A) op e st) d r e Q := by
  simp only [WO, wantedA, if_true]
  cases evOp (call A) op e st with
  | none => rfl
  | some q => rfl
theorem qakz {d : Option Nat} {op : AOp} {g : Nat} {b : Bool} {r : List AOper} {Q : Env → St → Prop} : WO A (⟨d, op, some (g, b)⟩ :: r) e st Q =
    if (wantedA (some (g, b)) e) = true then WN A (evOp (call A) op e st) d r e Q else WO A r (updO e d .undef) st Q := by
  simp only [WO]
  cases evOp (call A) op e st with
  | none => rfl
  | some q => rfl

def qanz (b : Bool) : PV → Bool
  | .bool c => c == b
  | _ => false
theorem qamz {g : Nat} {b : Bool} : wantedA (some (g, b)) e = qanz b (e g) := by
  simp only [wantedA, qanz]
  cases e g <;> rfl

def seqQ (A : AP) (b : ACode) (Q : Ex → Env → St → Prop) : Ex → Env → St → Prop
  | .normal, e, st => W A b e st Q
  | x, e, st => Q x e st
theorem qazz {b : ACode} {Q : Ex → Env → St → Prop} : seqQ A b Q .normal e st = W A b e st Q := rfl
theorem qbaz {b : ACode} {Q : Ex → Env → St → Prop} : seqQ A b Q .ret e st = Q .ret e st := rfl
theorem qbbz {b : ACode} {Q : Ex → Env → St → Prop} {i : Nat} : seqQ A b Q (.exit i) e st = Q (.exit i) e st := rfl
theorem qbcz {b : ACode} {Q : Ex → Env → St → Prop} {i : Nat} : seqQ A b Q (.goto i) e st = Q (.goto i) e st := rfl
def blockQ (id : Nat) (Q : Ex → Env → St → Prop) : Ex → Env → St → Prop
  | .exit i, e, st => if i = id then Q .normal e st else Q (.exit i) e st
  | x, e, st => Q x e st
def condW (A : AP) (v : PV) (a b : ACode) (e : Env) (st : St) (Q : Ex → Env → St → Prop) : Prop := match v with
  | .bool true => W A a e st Q
  | .bool false => W A b e st Q
  | _ => False
theorem qbhz {t : Bool} {a b : ACode} {Q : Ex → Env → St → Prop} : condW A (.bool t) a b e st Q = if t = true then W A a e st Q else W A b e st Q := by cases t <;> rfl
theorem qbdz {id : Nat} {Q : Ex → Env → St → Prop} : blockQ id Q .normal e st = Q .normal e st := rfl
theorem qbez {id : Nat} {Q : Ex → Env → St → Prop} : blockQ id Q .ret e st = Q .ret e st := rfl
theorem qbgz {id l : Nat} {Q : Ex → Env → St → Prop} : blockQ id Q (.goto l) e st = Q (.goto l) e st := rfl
theorem qbfz {id i : Nat} {Q : Ex → Env → St → Prop} : blockQ id Q (.exit i) e st = if i = id then Q .normal e st else Q (.exit i) e st := rfl
theorem qabz {ops : List AOper} {Q : Ex → Env → St → Prop} : W A (.region ops) e st Q = WO A ops e st (Q .normal) := by
  apply propext
  rw [WO_iff]
  simp only [W, ex_region]
  constructor
  · rintro ⟨r, hr, hq⟩
    cases h : evOps (call A) ops e st with
    | none => rw [h] at hr; cases hr
    | some q => rw [h] at hr; cases hr; exact ⟨q, rfl, hq⟩
  · rintro ⟨q, hq, h⟩
    exact ⟨_, by rw [hq]; rfl, h⟩

theorem qaaz {a b : ACode} {Q : Ex → Env → St → Prop} : W A (.seq a b) e st Q = W A a e st (seqQ A b Q) := by
  apply propext
  simp only [W, ex_seq]
  constructor
  · rintro ⟨r, hr, hq⟩
    cases h : ex A a e st with
    | none => rw [h] at hr; cases hr
    | some q =>
      obtain ⟨x, e1, st1⟩ := q
      rw [h] at hr
      refine ⟨_, rfl, ?_⟩
      cases x with
      | normal => exact ⟨r, hr, hq⟩
      | _ => cases hr; exact hq
  · rintro ⟨⟨x, e1, st1⟩, hr, hq⟩
    rw [hr]
    cases x with
    | normal =>
      obtain ⟨r, h1, h2⟩ := hq
      exact ⟨r, h1, h2⟩
    | _ => exact ⟨_, rfl, hq⟩

theorem qacz {c : Opd} {a b : ACode} {Q : Ex → Env → St → Prop} : W A (.cond c a b) e st Q = condW A (c.ev e) a b e st Q := by
  apply propext
  simp only [condW]
  simp only [W, ex_cond]
  cases c.ev e with
  | bool t => cases t <;> rfl
  | _ => simp

theorem qadz {id : Nat} {b : ACode} {Q : Ex → Env → St → Prop} : W A (.block id b) e st Q = W A b e st (blockQ id Q) := by
  apply propext
  simp only [W, ex_block]
  constructor
  · rintro ⟨r, hr, hq⟩
    cases h : ex A b e st with
    | none => rw [h] at hr; cases hr
    | some q =>
      obtain ⟨x, e1, st1⟩ := q
      rw [h] at hr
      refine ⟨_, rfl, ?_⟩
      cases x with
      | exit i =>
        simp only [Option.some.injEq] at hr
        subst hr
        simp only [blockQ]
        split
        · rename_i hi; simpa [hi] using hq
        · rename_i hi; simpa [hi] using hq
      | _ => cases hr; exact hq
  · rintro ⟨⟨x, e1, st1⟩, hr, hq⟩
    rw [hr]
    cases x with
    | exit i =>
      refine ⟨_, rfl, ?_⟩
      simp only [blockQ] at hq
      by_cases hi : i = id
      · simpa [hi] using hq
      · simpa [hi] using hq
    | _ => exact ⟨_, rfl, hq⟩

theorem qaez {Q : Ex → Env → St → Prop} : W A .skip e st Q = Q .normal e st := by simp [W, ex_skip]
theorem qagz {i : Nat} {Q : Ex → Env → St → Prop} : W A (.exit i) e st Q = Q (.exit i) e st := by simp [W, ex_exit]
theorem qahz {i : Nat} {Q : Ex → Env → St → Prop} : W A (.goto i) e st Q = Q (.goto i) e st := by simp [W, ex_goto]
theorem qaiz {Q : Ex → Env → St → Prop} : W A .ret e st Q = Q .ret e st := by simp [W, ex_ret]

theorem W_mono {c : ACode} {Q Q' : Ex → Env → St → Prop} (h : W A c e st Q) (hq : ∀ x e st, Q x e st → Q' x e st) : W A c e st Q' :=
  let ⟨r, h1, h2⟩ := h; ⟨r, h1, hq _ _ _ h2⟩

def loopQ (I : Nat → Env → St → Prop) (n : Nat) (Q : Ex → Env → St → Prop) : Ex → Env → St → Prop
  | .normal, e, st => ∃ m, m < n ∧ I m e st
  | x, e, st => Q x e st
theorem loopQ_normal {I : Nat → Env → St → Prop} {n : Nat} {Q : Ex → Env → St → Prop} : loopQ I n Q .normal e st = ∃ m, m < n ∧ I m e st := rfl
theorem qbiz {I : Nat → Env → St → Prop} {n : Nat} {Q : Ex → Env → St → Prop} : loopQ I n Q .ret e st = Q .ret e st := rfl
theorem qbjz {I : Nat → Env → St → Prop} {n i : Nat} {Q : Ex → Env → St → Prop} : loopQ I n Q (.exit i) e st = Q (.exit i) e st := rfl
theorem qbkz {I : Nat → Env → St → Prop} {n i : Nat} {Q : Ex → Env → St → Prop} : loopQ I n Q (.goto i) e st = Q (.goto i) e st := rfl

theorem loopQ_intro {I : Nat → Env → St → Prop} {n m : Nat} {Q : Ex → Env → St → Prop} (h : m < n) (hI : I m e st) : loopQ I n Q .normal e st := ⟨m, h, hI⟩

theorem W_loop {b : ACode} {Q : Ex → Env → St → Prop} (I : Nat → Env → St → Prop) (step : ∀ n e st, I n e st → W A b e st (loopQ I n Q)) {n : Nat} (h : I n e st) : W A (.loop b) e st Q := by
  induction n using Nat.strongRecOn generalizing e st with
  | _ n ih =>
    obtain ⟨⟨x, e1, st1⟩, h1, h2⟩ := step n e st h
    unfold W
    rw [ex_loop, h1]
    cases x with
    | normal =>
      obtain ⟨m, hm, hI⟩ := h2
      exact ih m hm hI
    | _ => exact ⟨_, rfl, h2⟩

theorem W_scope {b : ACode} {Q : Ex → Env → St → Prop} : W A (.scope b) e st Q = W A (.scopeAt b b) e st Q := by simp only [W, ex_scope]

theorem W_scopeAt {b cur : ACode} {Q : Ex → Env → St → Prop} (h : W A cur e st (fun x e' st' => match x with
    | .goto l => (match findLabelA b l with | some rest => W A (.scopeAt b rest) e' st' Q | none => Q (.goto l) e' st')
    | x => Q x e' st')) : W A (.scopeAt b cur) e st Q := by
  obtain ⟨⟨x, e1, st1⟩, h1, h2⟩ := h
  unfold W
  rw [ex_scopeAt, h1]
  cases x with
  | goto l =>
    simp only at h2 ⊢
    cases hf : findLabelA b l with
    | some rest => rw [hf] at h2; exact h2
    | none => rw [hf] at h2; exact ⟨_, rfl, h2⟩
  | _ => exact ⟨_, rfl, h2⟩

def endQ (st : St) (rs : List RV) (r : PV × St) : Ex → Env → St → Prop := fun x e1 st1 => (x = .normal ∨ x = .ret) ∧ ∃ rv, resOf e1 st1 rs = some rv ∧ leave st st1 rv = r
theorem qblz {st0 : St} {rs : List RV} {r : PV × St} : endQ st0 rs r .ret e st = ∃ rv, resOf e st rs = some rv ∧ leave st0 st rv = r := by simp [endQ]
theorem call_of_W {f : Nat} {caps args : List PV} {fn : ACFn} {v : PV} {st' : St} (hA : A f = some (.code fn))
    (h : W A fn.body (env0 (args ++ caps)) { st with low := st.boxes.length } (endQ st fn.results (v, st'))) :
    call A (.fn f caps) args st = some (v, st') := by
  obtain ⟨⟨x, e1, st1⟩, h1, h2, rv, h3, h4⟩ := h
  rw [call_fn hA, h1]
  rcases h2 with rfl | rfl
  · simp only [finish]; simp only at h3 h4; rw [h3]; simp [h4]
  · simp only [finish]; simp only at h3 h4; rw [h3]; simp [h4]

theorem qavz {d t : Nat} {v : PV} : upd e d v t = if t = d then v else e t := rfl
theorem qatz {d : Nat} {v : PV} : updO e (some d) v = upd e d v := rfl
theorem qauz {v : PV} : updO e none v = e := rfl
theorem qaoz {t : Nat} : (Opd.tmp t).ev e = e t := rfl
theorem qapz {v : PV} : (Opd.const v).ev e = v := rfl
theorem qaqz {f : Nat} : (Opd.fn f).ev e = .fn f [] := rfl

theorem qawz {v : PV} {l : List PV} : env0 (v :: l) 0 = v := rfl
theorem qaxz {v : PV} {l : List PV} {t : Nat} : env0 (v :: l) (t + 1) = env0 l t := rfl

def Tok.lt (n : Nat) : Tok → Bool
  | .own i => decide (i < n)
  | _ => true

theorem keep1 {n : Nat} {toks : List Bool} {v : PV} (h : keepVal n toks [] v = (v, [])) (ht : notTup v = true) : keepRes n toks v = (v, []) := by
  cases v <;> first | exact h | simp [notTup] at ht
theorem keep3 {n : Nat} {toks : List Bool} {v1 v2 v3 : PV} (h1 : keepVal n toks [] v1 = (v1, [])) (h2 : keepVal n toks [] v2 = (v2, [])) (h3 : keepVal n toks [] v3 = (v3, [])) : keepRes n toks (.tup [v1, v2, v3]) = (.tup [v1, v2, v3], []) := by
  simp [keepRes, keepVals, h1, h2, h3]

end Go.Ab
/-
  Primitives: functions of the library's whose contracts the shelf has.
-/
namespace Go.Ab
def PV.by : PV → Option (List UInt8)
  | .nils => some []
  | .bys _ l => some l
  | _ => none

def pStrIndex : List PV → Option PV
  | [.str a, .str b] => if a.length < 4294967281 then some (.int .i64 (Lib.index a b)) else none
  | _ => none

def pStrIndexByte : List PV → Option PV
  | [.str a, .b8 c] => some (.int .i64 (Lib.indexByte a c))
  | _ => none

def splitOn (sep : UInt8) : List UInt8 → List UInt8 → List (List UInt8)
  | acc, [] => [acc]
  | acc, c :: r => if c = sep then acc :: splitOn sep [] r else splitOn sep (acc ++ [c]) r

def pStrSplit : List PV → Option PV
  | [.str a, .str [c]] => if a.length < 4294967281 then some (.sl 1 .no ((splitOn c [] a).map .str)) else none
  | _ => none

end Go.Ab
/-
  Operations on what is known of values: numbers that are naturals, slices of bytes.
-/
namespace Go.Ab
variable {A : AP} {st : St} {e : Env}

theorem by_cases' {x : PV} {l : List UInt8} (h : x.by = some l) : (x = .nils ∧ l = []) ∨ ∃ t, x = .bys t l := by
  cases x <;> simp [PV.by] at h
  · exact .inl ⟨rfl, h⟩
  · subst h; exact .inr ⟨_, rfl⟩

theorem wrap64 {n : Int} (h1 : -9223372036854775808 ≤ n) (h2 : n < 9223372036854775808) : IntKind.i64.wrap n = n := by
  unfold IntKind.wrap
  simp only [IntKind.signed, IntKind.bits]
  simp
  omega

theorem add_n {ek : EK} {a : Nat} {c : Int} (h1 : 0 ≤ c) (h2 : a + c.toNat < 9223372036854775808) : binPV .add ek (.int .i64 (a : Int)) (.int .i64 c) = some (.int .i64 ((a + c.toNat : Nat) : Int)) := by
  simp only [binPV, binI, reduceIte, Option.some.injEq]
  rw [wrap64 (by omega) (by omega)]
  congr 1; omega
theorem sub_n {ek : EK} {a : Nat} {c : Int} (h1 : 0 ≤ c) (h2 : c.toNat ≤ a) (h3 : a < 9223372036854775808) : binPV .sub ek (.int .i64 (a : Int)) (.int .i64 c) = some (.int .i64 ((a - c.toNat : Nat) : Int)) := by
  simp only [binPV, binI, reduceIte, Option.some.injEq]
  rw [wrap64 (by omega) (by omega)]
  congr 1; omega
theorem add_i {ek : EK} {a c : Int} (h1 : -9223372036854775808 ≤ a + c) (h2 : a + c < 9223372036854775808) : binPV .add ek (.int .i64 a) (.int .i64 c) = some (.int .i64 (a + c)) := by
  simp only [binPV, binI, reduceIte, Option.some.injEq]
  rw [wrap64 (by omega) (by omega)]
theorem qbpz {k : IntKind} {ek : EK} {a c : Int} : binPV .lss ek (.int k a) (.int k c) = some (.bool (decide (a < c))) := by simp [binPV, binI]
theorem qbqz {k : IntKind} {ek : EK} {a c : Int} : binPV .leq ek (.int k a) (.int k c) = some (.bool (decide (a ≤ c))) := by simp [binPV, binI]
theorem qbrz {k : IntKind} {ek : EK} {a c : Int} : binPV .gtr ek (.int k a) (.int k c) = some (.bool (decide (c < a))) := by simp [binPV, binI]
theorem qbsz {k : IntKind} {ek : EK} {a c : Int} : binPV .geq ek (.int k a) (.int k c) = some (.bool (decide (c ≤ a))) := by simp [binPV, binI]
theorem qbtz {k : IntKind} {ek : EK} {a c : Int} : binPV .eql ek (.int k a) (.int k c) = some (.bool (decide (a = c))) := by
  simp [binPV, binI]; by_cases h : a = c <;> simp [h]
theorem qbuz {k : IntKind} {ek : EK} {a c : Int} : binPV .neq ek (.int k a) (.int k c) = some (.bool (decide (a ≠ c))) := by
  simp [binPV, binI]; by_cases h : a = c <;> simp [h]
theorem qbvz {ek : EK} {a c : UInt8} : binPV .eql ek (.b8 a) (.b8 c) = some (.bool (decide (a = c))) := by
  simp [binPV, bin8]; by_cases h : a = c <;> simp [h]
theorem qbwz {ek : EK} {a c : UInt8} : binPV .neq ek (.b8 a) (.b8 c) = some (.bool (decide (a ≠ c))) := by
  simp [binPV, bin8]; by_cases h : a = c <;> simp [h]
theorem qbxz {ek : EK} {a c : UInt8} : binPV .lss ek (.b8 a) (.b8 c) = some (.bool (decide (a < c))) := rfl
theorem qbyz {ek : EK} {a c : UInt8} : binPV .leq ek (.b8 a) (.b8 c) = some (.bool (decide (a ≤ c))) := rfl
theorem qbzz {ek : EK} {a c : UInt8} : binPV .gtr ek (.b8 a) (.b8 c) = some (.bool (decide (c < a))) := rfl
theorem qcaz {ek : EK} {a c : UInt8} : binPV .geq ek (.b8 a) (.b8 c) = some (.bool (decide (c ≤ a))) := rfl
theorem qcbz {ek : EK} {a c : List UInt8} : binPV .eql ek (.str a) (.str c) = some (.bool (decide (a = c))) := by
  simp [binPV, binS]; by_cases h : a = c <;> simp [h]
theorem qccz {ek : EK} {a c : List UInt8} : binPV .neq ek (.str a) (.str c) = some (.bool (decide (a ≠ c))) := by
  simp [binPV, binS]; by_cases h : a = c <;> simp [h]
theorem qcfz {b : Bool} : unPV .not (.bool b) = some (.bool !b) := rfl
theorem len_by {x : PV} {l : List UInt8} (h : x.by = some l) : lenPV false x = some (.int .i64 (l.length : Int)) := by
  rcases by_cases' h with ⟨rfl, rfl⟩ | ⟨t, rfl⟩ <;> rfl
theorem cutTok_no {i : Nat} : cutTok i .no = .no := by unfold cutTok; split <;> rfl
def PV.dropB (x : PV) (i : Nat) : PV := match x with
  | .bys t l => .bys (cutTok i t) (l.drop i)
  | x => x
def PV.midB (x : PV) (i j : Nat) : PV := match x with
  | .bys t l => .bys .no ((l.take j).drop i)
  | x => x
theorem dropB_by {x : PV} {l : List UInt8} {i : Nat} (h : x.by = some l) : (x.dropB i).by = some (l.drop i) := by
  rcases by_cases' h with ⟨rfl, rfl⟩ | ⟨t, rfl⟩ <;> simp [PV.dropB, PV.by]
theorem midB_by {x : PV} {l : List UInt8} {i j : Nat} (h : x.by = some l) : (x.midB i j).by = some ((l.take j).drop i) := by
  rcases by_cases' h with ⟨rfl, rfl⟩ | ⟨t, rfl⟩ <;> simp [PV.midB, PV.by]

theorem slc_lo {x : PV} {l : List UInt8} {k : IntKind} {c : Int} (h : x.by = some l) (h1 : 0 ≤ c) (h2 : c.toNat ≤ l.length) : slcPV 1 x (some (.int k c)) none none = some (x.dropB c.toNat) := by
  rcases by_cases' h with ⟨rfl, rfl⟩ | ⟨t, rfl⟩
  · simp at h2
    simp [slcPV, bnd, intOf, PV.dropB, show c = 0 by omega]
  · simp [slcPV, bnd, intOf, PV.dropB, h1, sufTok, show c ≤ l.length by omega]
theorem slc_lohi {x : PV} {l : List UInt8} {k k' : IntKind} {c d : Int} (h : x.by = some l) (h1 : 0 ≤ c) (h2 : c ≤ d) (h3 : d.toNat ≤ l.length) : slcPV 1 x (some (.int k c)) (some (.int k' d)) none = some (x.midB c.toNat d.toNat) := by
  rcases by_cases' h with ⟨rfl, rfl⟩ | ⟨t, rfl⟩
  · simp at h3
    simp [slcPV, bnd, intOf, PV.midB, show c = 0 by omega, show d = 0 by omega]
  · simp [slcPV, bnd, intOf, PV.midB, h1, sufTok, show d ≤ l.length by omega, show 0 ≤ d by omega, show c ≤ max d 0 by omega, cutTok_no]
theorem iaddr_by {x : PV} {l : List UInt8} {k : IntKind} {c : Int} (h : x.by = some l) (h1 : 0 ≤ c) (h2 : c.toNat < l.length) : iaddrPV 1 x (.int k c) = some (.cp [.b8 (l.getD c.toNat 0)]) := by
  rcases by_cases' h with ⟨rfl, rfl⟩ | ⟨t, rfl⟩
  · simp at h2
  · simp [iaddrPV, intOf, h1, show c < l.length by omega]
theorem qciz {v : PV} {sz : Nat} : loadPV st false sz (.cp [v]) = some v := rfl

theorem leave_pure {v : PV} (h1 : v.inB st.boxes.length = true) (h3 : keepRes st.toks.length st.toks v = (v, [])) :
    leave st { st with low := st.boxes.length } v = (v, st) := by
  simp [leave, h1, h3]
def PV.tokLt (n : Nat) : PV → Bool
  | .bys t _ => t.lt n
  | .sl _ t _ => t.lt n
  | _ => true
structure Kp (st : St) (v : PV) : Prop where
  nt : notTup v = true
  ib : v.inB st.boxes.length = true
  kp : keepVal st.toks.length st.toks [] v = (v, [])
theorem Kp_bool {b : Bool} : Kp st (.bool b) := ⟨rfl, rfl, rfl⟩
theorem Kp_str {s : List UInt8} : Kp st (.str s) := ⟨rfl, rfl, rfl⟩
theorem end1 {a : Nat} {v : PV} (ha : e a = v) (h : Kp st v) : ∃ rv, resOf e { boxes := st.boxes, toks := st.toks, loops := st.loops, low := st.boxes.length } [.tmp a] = some rv ∧ leave st { boxes := st.boxes, toks := st.toks, loops := st.loops, low := st.boxes.length } rv = (v, st) := by
  refine ⟨v, by simp [resOf, rvAll, rv1, ha, h.nt, packRes], leave_pure h.ib (keep1 h.kp h.nt)⟩
theorem end3 {a b c : Nat} {v w u : PV} (ha : e a = v) (hb : e b = w) (hc : e c = u) (h : Kp st v) (h2 : Kp st w) (h3 : Kp st u) : ∃ rv, resOf e { boxes := st.boxes, toks := st.toks, loops := st.loops, low := st.boxes.length } [.tmp a, .tmp b, .tmp c] = some rv ∧ leave st { boxes := st.boxes, toks := st.toks, loops := st.loops, low := st.boxes.length } rv = (.tup [v, w, u], st) := by
  refine ⟨.tup [v, w, u], by simp [resOf, rvAll, rv1, ha, hb, hc, h.nt, h2.nt, h3.nt, packRes], leave_pure (by simp [PV.inB, PV.inB.inBAll, h.ib, h2.ib, h3.ib]) (keep3 h.kp h2.kp h3.kp)⟩
end Go.Ab
/-
  Arguments of type []byte, opened.
-/
namespace Go.Ab
open Go.ChangeShapes Go.WideShapes Go.ChangeAt Go.RowKit
variable {P : Program} {g : GMap}

theorem byte_of_wf {x : Int} (h : (Lit.int .u8 x).wf = true) : 0 ≤ x ∧ x < 256 := by
  have h1 : IntKind.u8.min = 0 := rfl
  have h2 : IntKind.u8.max = 255 := rfl
  simp only [Lit.wf, Bool.and_eq_true, decide_eq_true_eq] at h
  omega

end Go.Ab
/-
  Arguments of plain types, opened: what they read as, as abstract values.
-/
namespace Go.Ab
open Go.ChangeShapes Go.WideShapes Go.ChangeAt Go.RowKit Go.Deep
variable {P : Program} {g : GMap}

inductive HasTy (P : Program) : TypeId → PV → Prop
  | bool {t : TypeId} (b : Bool) (ht : P.underlying t = some .bool) : HasTy P t (.bool b)
  | int {t : TypeId} {k : IntKind} (n : Int) (ht : P.underlying t = some (.int k)) (hk : k ≠ .u8) (h : k.min ≤ n ∧ n ≤ k.max) : HasTy P t (.int k n)
  | u8 {t : TypeId} (b : UInt8) (ht : P.underlying t = some (.int .u8)) : HasTy P t (.b8 b)
  | str {t : TypeId} (s : List UInt8) (ht : P.underlying t = some .string) (h : s.length ≤ reachBytes) : HasTy P t (.str s)
  | nils {t e : TypeId} (ht : P.underlying t = some (.slice e)) : HasTy P t .nils
  | bys {t e : TypeId} (l : List UInt8) (ht : P.underlying t = some (.slice e)) (he : P.underlying e = some (.int .u8)) (h : l.length ≤ maxLen) : HasTy P t (.bys .no l)
  | sl {t e : TypeId} (xs : List PV) (ht : P.underlying t = some (.slice e)) (he : P.underlying e ≠ some (.int .u8)) (h : xs.length ≤ maxLen) (hx : ∀ x ∈ xs, HasTy P e x) : HasTy P t (.sl (P.cellsOf e) .no xs)
  | agg {t : TypeId} {fs : Array Field} (xs : List PV) (ht : P.underlying t = some (.struct fs)) (hl : xs.length = fs.size) (hx : ∀ (i : Nat) (f : Field) (x : PV), fs[i]? = some f → xs[i]? = some x → HasTy P f.type x) : HasTy P t (.agg (flat xs))

def contig (P : Program) : List Field → Nat → Option Nat
  | [], n => some n
  | f :: fs, n => if f.offset = n then contig P fs (n + P.cellsOf f.type) else none

def okIn (P : Program) (ts : List TypeId) (t : TypeId) : Bool :=
  match P.underlying t with
  | some .bool => P.cellsOf t == 1
  | some (.int _) => P.cellsOf t == 1
  | some .string => P.cellsOf t == 1
  | some (.slice e) => P.cellsOf t == 1 && ts.contains e && decide (0 < P.cellsOf e) && (match P.underlying e with | some (.int .u8) => false | _ => true)
  | some (.struct fs) => contig P fs.toList 0 == some (P.cellsOf t) && fs.toList.all fun f => ts.contains f.type
  | _ => false
def okTop (P : Program) (ts us : List TypeId) (t : TypeId) : Bool :=
  match P.underlying t with
  | some .bool => P.cellsOf t == 1
  | some (.int _) => P.cellsOf t == 1
  | some .string => P.cellsOf t == 1
  | some (.slice e) => P.cellsOf t == 1 && (match P.underlying e with | some (.int .u8) => P.cellsOf e == 1 | _ => ts.contains e && decide (0 < P.cellsOf e))
  | some (.struct fs) => contig P fs.toList 0 == some (P.cellsOf t) && fs.toList.all fun f => us.contains f.type
  | _ => false

structure Opened (P : Program) (g : GMap) (w : World) (t : TypeId) (cs : List Value) (p : PV) : Prop where
  ty : HasTy P t p
  ln : p.cells.length = cs.length
  lt : p.cells.length = P.cellsOf t
  dt : p.data = true
  nt : notTup p = true
  lf : p.cells.all leafOk = true
  rr : ∀ (i : Nat) (v : Value) (q : PV), cs[i]? = some v → p.cells[i]? = some q → R g (κ0 w) v q

theorem one_get {v : Value} {q : PV} {R' : Value → PV → Prop} (h : R' v q) : ∀ (i : Nat) (v' : Value) (q' : PV), [v][i]? = some v' → [q][i]? = some q' → R' v' q' := by
  intro i v' q' a b
  cases i with
  | zero => simp at a b; subst a b; exact h
  | succ i => simp at a

theorem flatMap_get {α : Type} {f : Nat → List α} {c : Nat} : ∀ (n : Nat), (∀ i, i < n → (f i).length = c) → ((List.range n).flatMap f).length = n * c ∧ ∀ i, i < n * c → ((List.range n).flatMap f)[i]? = (f (i / c))[i % c]? := by
  intro n
  induction n with
  | zero => intro _; simp
  | succ n ih =>
    intro h
    obtain ⟨h1, h2⟩ := ih (fun i hi => h i (by omega))
    rw [List.range_succ, List.flatMap_append]
    simp only [List.flatMap_cons, List.flatMap_nil, List.append_nil, List.length_append, h1, h n (by omega)]
    refine ⟨(Nat.succ_mul n c).symm, fun i hi => ?_⟩
    by_cases hlt : i < n * c
    · rw [List.getElem?_append_left (by rw [h1]; exact hlt), h2 i hlt]
    · rw [List.getElem?_append_right (by rw [h1]; omega), h1]
      have hc : 0 < c := by
        rcases Nat.eq_zero_or_pos c with h0 | h0
        · subst h0; simp at hi
        · exact h0
      have hlt2 : i < n * c + c := by rw [← Nat.succ_mul]; exact hi
      have hd : i / c = n := by
        apply Nat.div_eq_of_lt_le
        · omega
        · rw [Nat.succ_mul]; omega
      have hm : i % c = i - n * c := by
        have := Nat.div_add_mod i c
        rw [hd] at this
        rw [Nat.mul_comm] at this; omega
      rw [hd, hm]

theorem spot_of_cell {w : World} {a : Addr} {v : Value} (h : w.cell? a = some v) : a.spot = none := by
  unfold World.cell? at h
  split at h
  · split at h
    · cases h
    · rename_i hs; simpa using hs
  · cases h

theorem open_fields {w : World} : ∀ (fs : List Field) (off tot : Nat) (cs : List Value), contig P fs off = some tot → cs.length = tot → (∀ (i : Nat) (f : Field), fs[i]? = some f → ∃ p, Opened P g w f.type ((cs.drop f.offset).take (P.cellsOf f.type)) p) →
    ∃ ps : List PV, ps.length = fs.length ∧ (∀ (i : Nat) (f : Field) (x : PV), fs[i]? = some f → ps[i]? = some x → HasTy P f.type x) ∧ (flat ps).length + off = tot ∧ dataAll (flat ps) = true ∧ (flat ps).all leafOk = true ∧
      ∀ (i : Nat) (v : Value) (q : PV), cs[off + i]? = some v → (flat ps)[i]? = some q → R g (κ0 w) v q := by
  intro fs
  induction fs with
  | nil =>
    intro off tot cs hc hl _
    simp only [contig, Option.some.injEq] at hc
    exact ⟨[], rfl, fun i f x h => by simp at h, by simp [flat, hc], rfl, rfl, fun i v q _ h => by simp [flat] at h⟩
  | cons f fs ih =>
    intro off tot cs hc hl hf
    simp only [contig] at hc
    split at hc
    · rename_i ho
      obtain ⟨p, hp⟩ := hf 0 f rfl
      obtain ⟨ps, h1, h2, h3, h4, h5, h6⟩ := ih (off + P.cellsOf f.type) tot cs hc hl (fun i f' h => hf (i + 1) f' h)
      refine ⟨p :: ps, by simp [h1], fun i f' x a b => ?_, ?_, ?_, ?_, fun i v q a b => ?_⟩
      · cases i with
        | zero => simp at a b; subst a b; exact hp.ty
        | succ i => simp at a b; exact h2 i f' x a b
      · have := hp.lt
        simp only [flat, List.flatMap_cons, List.length_append] at h3 ⊢; omega
      · simp only [flat, List.flatMap_cons] at h4 ⊢
        rw [dataAll_append, h4, data_cells hp.dt]; rfl
      · simp only [flat, List.flatMap_cons] at h5 ⊢
        rw [List.all_append, hp.lf, h5]; rfl
      · simp only [flat, List.flatMap_cons] at b
        by_cases hi : i < p.cells.length
        · rw [List.getElem?_append_left hi] at b
          refine hp.rr i v q ?_ b
          rw [List.getElem?_take, if_pos (by rw [← hp.lt]; exact hi), List.getElem?_drop, ho]; exact a
        · rw [List.getElem?_append_right (by omega)] at b
          refine h6 (i - p.cells.length) v q ?_ b
          rw [← hp.lt, show off + p.cells.length + (i - p.cells.length) = off + i by omega]; exact a
    · cases hc

theorem weightsEach_get {H : Type} : ∀ (ts : List TypeId) (ds : List (DataW H)), (DataW.weightsEach P ts ds).all (· ≤ reachBytes) = true → ∀ (i : Nat) (t : TypeId) (d : DataW H), ts[i]? = some t → ds[i]? = some d → (d.weights P t).all (· ≤ reachBytes) = true := by
  intro ts
  induction ts with
  | nil => intro ds _ i t d h; simp at h
  | cons t ts ih =>
    intro ds h i u d a b
    cases ds with
    | nil => simp at b
    | cons e ds =>
      simp only [DataW.weightsEach, List.all_append, Bool.and_eq_true] at h
      cases i with
      | zero => simp at a b; subst a b; exact h.1
      | succ i => simp at a b; exact ih ds h.2 i u d a b
theorem weightsAll_get {H : Type} {e : TypeId} : ∀ (ds : List (DataW H)), (DataW.weightsAll P e ds).all (· ≤ reachBytes) = true → ∀ (i : Nat) (d : DataW H), ds[i]? = some d → (d.weights P e).all (· ≤ reachBytes) = true := by
  intro ds
  induction ds with
  | nil => intro _ i d h; simp at h
  | cons e ds ih =>
    intro h i d b
    simp only [DataW.weightsAll, List.all_append, Bool.and_eq_true] at h
    cases i with
    | zero => simp at b; subst b; exact h.1
    | succ i => simp at b; exact ih h.2 i d b

theorem open_in {H : Type} {enc : TypeId × Value → H} {w : World} {ts us : List TypeId} (hin : ts.all (okIn P ts) = true) (htop : us.all (okTop P ts us) = true) : ∀ (fuel : Nat) (t : TypeId) (cs : List Value) (x : DataW H × List MemPlace), DataW.trod enc P w 0 (fun _ => true) true fuel t cs = some x → (x.1.weights P t).all (· ≤ reachBytes) = true →
    (t ∈ ts ∨ t ∈ us ∧ ∀ a len cap, Value.slice (some a) len cap ∈ cs → a.spot = none) → ∃ p, Opened P g w t cs p := by
  intro fuel
  induction fuel with
  | zero => intro t cs x h; simp [DataW.trod] at h
  | succ fuel ih =>
    intro t cs x h hwt hm
    have hok : okIn P ts t = true ∨ okTop P ts us t = true := by
      rcases hm with hm | hm
      · exact .inl ((List.all_eq_true.1 hin) t hm)
      · exact .inr ((List.all_eq_true.1 htop) t hm.1)
    have hone : (∀ e, P.underlying t ≠ some (.struct e)) → P.cellsOf t = 1 := by
      intro hne
      cases hu : P.underlying t with
      | none => rcases hok with hok | hok <;> simp [okIn, okTop, hu] at hok
      | some d =>
        rcases hok with hok | hok
        · simp only [okIn, hu] at hok
          cases d <;> first | exact (hne _ hu).elim | simp_all
        · simp only [okTop, hu] at hok
          cases d <;> first | exact (hne _ hu).elim | simp_all
    cases hu : P.underlying t with
    | none => rcases hok with hok | hok <;> simp [okIn, okTop, hu] at hok
    | some d =>
      cases d with
      | bool =>
        obtain ⟨b, rfl, _⟩ := DataW.trod_bool hu h
        exact ⟨.bool b, .bool b hu, rfl, (hone (fun e he => by rw [hu] at he; cases he)).symm, rfl, rfl, rfl, one_get (.bool b)⟩
      | int k =>
        obtain ⟨n, rfl, _, hw⟩ := DataW.trod_int hu h
        have hrange : k.min ≤ n ∧ n ≤ k.max := by simpa [Lit.wf] using hw
        by_cases hk : k = .u8
        · subst hk
          have h1 : IntKind.u8.min = 0 := rfl
          have h2 : IntKind.u8.max = 255 := rfl
          rw [h1, h2] at hrange
          refine ⟨.b8 (n.toNat.toUInt8), .u8 _ hu, rfl, (hone (fun e he => by rw [hu] at he; cases he)).symm, rfl, rfl, rfl, one_get (.b8 _ _ ?_)⟩
          simp [Nat.toUInt8]; omega
        · exact ⟨.int k n, .int n hu hk hrange, rfl, (hone (fun e he => by rw [hu] at he; cases he)).symm, rfl, rfl, rfl, one_get (.int k n hk)⟩
      | string =>
        obtain ⟨s, rfl, hxe, hs⟩ := DataW.trod_string hu h
        rw [hxe] at hwt
        simp only [DataW.weights, List.all_cons, List.all_nil, Bool.and_true, decide_eq_true_eq] at hwt
        exact ⟨.str s.data.toList, .str _ hu hwt, rfl, (hone (fun e he => by rw [hu] at he; cases he)).symm, rfl, rfl, rfl, one_get (.str s _ rfl)⟩
      | struct fs =>
        obtain ⟨xs, n, hn, hxe, hcl, hxl, hx⟩ := DataW.trod_struct hu h
        obtain rfl : n = fuel := by omega
        rw [hxe] at hwt
        simp only [DataW.weights, hu] at hwt
        have hc : contig P fs.toList 0 = some (P.cellsOf t) := by
          rcases hok with hok | hok
          · simp only [okIn, hu, Bool.and_eq_true, beq_iff_eq] at hok; exact hok.1
          · simp only [okTop, hu, Bool.and_eq_true, beq_iff_eq] at hok; exact hok.1
        have hmem : ∀ (i : Nat) (f : Field), fs.toList[i]? = some f → (f.type ∈ ts ∨ f.type ∈ us ∧ ∀ a len cap, Value.slice (some a) len cap ∈ cs → a.spot = none) := by
          intro i f hf
          have hfm := List.mem_of_getElem? hf
          rcases hm with hm | hm
          · have hok := (List.all_eq_true.1 hin) t hm
            simp only [okIn, hu, Bool.and_eq_true, List.all_eq_true] at hok
            exact .inl (by simpa using hok.2 f hfm)
          · have hok := (List.all_eq_true.1 htop) t hm.1
            simp only [okTop, hu, Bool.and_eq_true, List.all_eq_true] at hok
            exact .inr ⟨by simpa using hok.2 f hfm, hm.2⟩
        obtain ⟨ps, h1, h2, h3, h4, h5, h6⟩ := open_fields (g := g) (w := w) fs.toList 0 _ cs hc hcl (fun i f hf => by
          have hf' : fs[i]? = some f := by simpa using hf
          have hi : i < xs.length := by rw [hxl]; exact (Array.getElem?_eq_some_iff.1 hf').1
          have := hx i f hf'
          rw [List.getElem?_eq_getElem hi] at this
          refine ih _ _ _ this (weightsEach_get _ _ hwt i _ _ (by simp [hf]) (by simp [hi])) ?_
          rcases hmem i f hf with hm | hm
          · exact .inl hm
          · exact .inr ⟨hm.1, fun a len cap ha => hm.2 a len cap (List.mem_of_mem_drop (List.mem_of_mem_take ha))⟩)
        refine ⟨.agg (flat ps), .agg ps hu (by simpa using h1) (fun i f x a b => h2 i f x (by simpa using a) b), ?_, ?_, h4, rfl, h5, fun i v q a b => h6 i v q (by simpa using a) b⟩
        · show (flat ps).length = _
          omega
        · show (flat ps).length = _
          omega
      | slice e =>
        have hct := hone (fun e he => by rw [hu] at he; cases he)
        rcases DataW.trod_slice hu h with ⟨rfl, _⟩ | ⟨a, len, cap, elems, rest, n, hn, rfl, hxe, _, hl, hmx, hlen, hel, hspare, _⟩
        · exact ⟨.nils, .nils hu, rfl, hct.symm, rfl, rfl, rfl, one_get .nils⟩
        · obtain rfl : n = fuel := by omega
          -- an element's cells
          have hpart : ∀ i, i < len → ∃ cs', w.cells? 0 (a.add (i * P.cellsOf e)) (P.cellsOf e) = some cs' ∧ DataW.trod enc P w 0 (fun _ => true) true n e cs' = elems[i]? := fun i hi => by
            have := hel i hi
            rw [List.getElem?_eq_getElem (by omega)] at this
            obtain ⟨cs', h1, h2⟩ := Option.bind_eq_some_iff.1 this
            exact ⟨cs', h1, by rw [h2, List.getElem?_eq_getElem (by omega)]⟩
          by_cases he : P.underlying e = some (.int .u8)
          · -- bytes
            have hus : t ∈ us ∧ ∀ a' len' cap', Value.slice (some a') len' cap' ∈ [Value.slice (some a) len cap] → a'.spot = none := by
              rcases hm with hm | hm
              · have hok := (List.all_eq_true.1 hin) t hm
                simp [okIn, hu, he] at hok
              · exact hm
            have hce : P.cellsOf e = 1 := by
              have hok := (List.all_eq_true.1 htop) t hus.1
              simp only [okTop, hu, he, Bool.and_eq_true, beq_iff_eq] at hok
              exact hok.2
            have hsp := hus.2 a len cap (by simp)
            obtain ⟨blk, off, sp⟩ := a
            simp only at hsp
            subst hsp
            obtain ⟨f, hf⟩ := choose_lt (α := Int) (p := fun i z => w.cell? ⟨blk, off + i, none⟩ = some (.int .u8 z) ∧ 0 ≤ z ∧ z < 256) (n := len) (fun i hi => by
              obtain ⟨cs', h1, h2⟩ := hpart i hi
              rw [List.getElem?_eq_getElem (by omega)] at h2
              obtain ⟨z, rfl, _, hz⟩ := DataW.trod_int he h2
              rw [hce, Nat.mul_one] at h1
              have := cell_of_cells?_one h1
              rw [add_eq] at this
              exact ⟨z, this, byte_of_wf hz⟩)
            refine ⟨.bys .no ((List.range len).map fun i => (f i).toNat.toUInt8), .bys _ hu he (by simp; omega), rfl, hct.symm, rfl, rfl, rfl, one_get (.bys blk off len cap .no _ (by simp) hl (fun i b hb => ?_) trivial (fun i h => by cases h))⟩
            simp only [List.getElem?_map, Option.map_eq_some_iff] at hb
            obtain ⟨j, hj, rfl⟩ := hb
            have hi : i < len := by
              have := (List.getElem?_eq_some_iff.1 hj).1
              simpa using this
            rw [List.getElem?_range hi] at hj
            cases hj
            obtain ⟨q1, q2, q3⟩ := hf i hi
            show w.cell? ⟨blk, off + i, none⟩ = _
            rw [q1]
            have : (((f i).toNat.toUInt8).toNat : Int) = f i := by
              simp [Nat.toUInt8]; omega
            rw [this]
          · -- other elements
            have hein : e ∈ ts ∧ 0 < P.cellsOf e := by
              rcases hm with hm | hm
              · have hok := (List.all_eq_true.1 hin) t hm
                simp only [okIn, hu, Bool.and_eq_true, decide_eq_true_eq] at hok
                exact ⟨by simpa using hok.1.1.2, hok.1.2⟩
              · have hok := (List.all_eq_true.1 htop) t hm.1
                simp only [okTop, hu, Bool.and_eq_true] at hok
                have h2 := hok.2
                first
                | (split at h2
                   · rename_i h3; exact absurd h3 he
                   · simp only [Bool.and_eq_true, decide_eq_true_eq] at h2
                     exact ⟨by simpa using h2.1, h2.2⟩)
                | (simp only [decide_eq_true_eq] at h2
                   exact ⟨by simpa using h2.1, h2.2⟩)
            by_cases hcap : cap = 0
            · have hl0 : len = 0 := by omega
              subst hcap hl0
              exact ⟨.sl (P.cellsOf e) .no [], .sl [] hu he (Nat.zero_le _) (fun x hx => by simp at hx), rfl, hct.symm, rfl, rfl, rfl, one_get (.sl0 a _ _ (fun i h => by cases h))⟩
            · -- the address is a cell's
              have hsp : a.spot = none := by
                have h0 : ∃ cs', w.cells? 0 (a.add (0 * P.cellsOf e)) (P.cellsOf e) = some cs' := by
                  by_cases hl0 : 0 < len
                  · obtain ⟨cs', h1, _⟩ := hpart 0 hl0
                    exact ⟨cs', h1⟩
                  · obtain ⟨r1, r2⟩ := hspare rfl
                    have := r2 0 (by omega)
                    rw [List.getElem?_eq_getElem (by omega)] at this
                    obtain ⟨cs', h1, h2⟩ := Option.bind_eq_some_iff.1 this
                    rw [show len + 0 = 0 by omega] at h1
                    exact ⟨cs', h1⟩
                obtain ⟨cs', h1⟩ := h0
                obtain ⟨_, h2, h3⟩ := World.cells?_some h1
                have h4 := h3 0 hein.2
                rw [List.getElem?_eq_getElem (by omega)] at h4
                have := spot_of_cell h4
                simpa [Addr.add] using this
              obtain ⟨blk, off, sp⟩ := a
              simp only at hsp
              subst hsp
              obtain ⟨F, hF⟩ := choose_lt (α := List Value × PV) (p := fun i z => w.cells? 0 ((⟨blk, off, none⟩ : Addr).add (i * P.cellsOf e)) (P.cellsOf e) = some z.1 ∧ Opened P g w e z.1 z.2) (n := len) (fun i hi => by
                obtain ⟨cs', h1, h2⟩ := hpart i hi
                rw [List.getElem?_eq_getElem (by omega)] at h2
                rw [hxe] at hwt
                simp only [DataW.weights, hu, List.all_cons, List.all_append, Bool.and_eq_true] at hwt
                obtain ⟨p, hp⟩ := ih _ _ _ h2 (weightsAll_get _ hwt.2.1 i _ (by rw [List.getElem?_map, List.getElem?_eq_getElem (by omega)]; rfl)) (.inl hein.1)
                exact ⟨(cs', p), h1, hp⟩)
              have hflat : flat ((List.range len).map fun i => (F i).2) = (List.range len).flatMap fun i => (F i).2.cells := by simp [flat, List.flatMap_map]
              obtain ⟨v1, v2⟩ := flatMap_get (f := fun i => (F i).1) (c := P.cellsOf e) len (fun i hi => (World.cells?_some (hF i hi).1).2.1)
              obtain ⟨x1, x2⟩ := flatMap_get (f := fun i => (F i).2.cells) (c := P.cellsOf e) len (fun i hi => (hF i hi).2.lt)
              have hdm : ∀ i, i < len * P.cellsOf e → i / P.cellsOf e < len := fun i hi => by
                rw [Nat.div_lt_iff_lt_mul hein.2]; exact hi
              have hmd : ∀ i, i % P.cellsOf e < P.cellsOf e := fun i => Nat.mod_lt _ hein.2
              have hxs : ∀ x ∈ (List.range len).map (fun i => (F i).2), ∃ i, i < len ∧ x = (F i).2 := fun x hx => by
                simp only [List.mem_map, List.mem_range] at hx
                obtain ⟨i, h1, rfl⟩ := hx
                exact ⟨i, h1, rfl⟩
              have hda : ∀ xs : List PV, (∀ x ∈ xs, x.data = true) → dataAll xs = true := by
                intro xs
                induction xs with
                | nil => intro _; rfl
                | cons x xs ih => intro h; simp only [dataAll, h x (by simp), ih (fun y hy => h y (by simp [hy])), Bool.and_self]
              have hd : dataAll ((List.range len).map fun i => (F i).2) = true := hda _ fun x hx => by
                obtain ⟨i, hi, rfl⟩ := hxs x hx
                exact (hF i hi).2.dt
              refine ⟨.sl (P.cellsOf e) .no ((List.range len).map fun i => (F i).2), .sl _ hu he (by simp; omega) (fun x hx => ?_), rfl, hct.symm, by simp [PV.data, Tok.isNo, hd], rfl, rfl,
                one_get (.sl blk off len cap (P.cellsOf e) .no _ ((List.range len).flatMap fun i => (F i).1) (by simp) hl (fun x hx => ?_) (by rw [hflat, v1, x1]) (fun i v hi => ?_) (fun i v q a b => ?_) hd ?_ trivial)⟩
              · obtain ⟨i, hi, rfl⟩ := hxs x hx
                exact (hF i hi).2.ty
              · obtain ⟨i, hi, rfl⟩ := hxs x hx
                exact (hF i hi).2.lt
              · have hlt := (List.getElem?_eq_some_iff.1 hi).1
                rw [v1] at hlt
                rw [v2 i hlt] at hi
                have h3 := (World.cells?_some (hF _ (hdm i hlt)).1).2.2 (i % P.cellsOf e) (hmd i)
                rw [add_eq, add_eq, hi] at h3
                have h4 := Nat.div_add_mod i (P.cellsOf e)
                rw [Nat.mul_comm] at h4
                rw [Nat.add_assoc, h4] at h3
                exact h3
              · have hlt := (List.getElem?_eq_some_iff.1 a).1
                rw [v1] at hlt
                rw [v2 i hlt] at a
                rw [hflat, x2 i hlt] at b
                exact (hF _ (hdm i hlt)).2.rr _ _ _ a b
              · rw [hflat, List.all_eq_true]
                intro y hy
                obtain ⟨i, hi, hy⟩ := List.mem_flatMap.1 hy
                exact (List.all_eq_true.1 (hF i (by simpa using hi)).2.lf) y hy
      | _ => rcases hok with hok | hok <;> simp [okIn, okTop, hu] at hok

theorem cell_spot {w : World} {r : Reach} {base : Nat} {u : TypeId} {a : Addr} {len cap : Nat} (h : Cell.okWide P w r base u (.slice (some a) len cap)) : a.spot = none := by
  unfold Cell.okWide at h
  cases hu : P.underlying u with
  | none => simp [hu, Cell.ok] at h
  | some d =>
    cases d <;> simp [hu, Cell.ok] at h
    exact h.2.2.2.1

theorem open_arg {H : Type} {enc : TypeId × Value → H} {W : World} {base : Nat} {ts us : List TypeId} (hin : ts.all (okIn P ts) = true) (htop : us.all (okTop P ts us) = true) {t : TypeId} (ht : us.contains t = true) {v : Value} {d : DataW H} {p : List MemPlace}
    (hval : Value.okWide P W .any base t v) (h0 : DataW.Trod enc P W 0 (fun _ => true) true t v d p) (hwt : (d.weights P t).all (· ≤ reachBytes) = true) : ∃ q : PV, HasTy P t q ∧ q.data = true ∧ R g (κ0 W) v q := by
  have htm : t ∈ us := by simpa using ht
  obtain ⟨fuel, hf⟩ := h0
  have hok := (List.all_eq_true.1 htop) t htm
  have hsp : ∀ a len cap, Value.slice (some a) len cap ∈ v.cells.toList → a.spot = none := by
    intro a len cap ha
    unfold Value.okWide at hval
    cases hu : P.underlying t with
    | none => simp [okTop, hu] at hok
    | some d =>
      rw [hu] at hval
      cases d with
      | struct fs =>
        obtain ⟨cs, rfl, _, ts', _, _, hr⟩ := hval
        simp only [Value.cells] at ha
        obtain ⟨i, hi⟩ := List.getElem?_of_mem ha
        obtain ⟨u, _, hc⟩ := hr i _ (by simpa using hi)
        exact cell_spot hc
      | bool =>
        obtain ⟨b, rfl⟩ := okWide_bool hu (by unfold Value.okWide; rw [hu]; exact hval)
        simp [Value.cells] at ha
      | int k =>
        obtain ⟨b, rfl⟩ := okWide_int hu (by unfold Value.okWide; rw [hu]; exact hval)
        simp [Value.cells] at ha
      | string =>
        obtain ⟨b, rfl⟩ := okWide_string hu (by unfold Value.okWide; rw [hu]; exact hval)
        simp [Value.cells] at ha
      | slice e =>
        obtain ⟨a', l', c', rfl⟩ := okWide_slice hu (by unfold Value.okWide; rw [hu]; exact hval)
        simp [Value.cells] at ha
        obtain ⟨rfl, rfl, rfl⟩ := ha
        exact cell_spot hval
      | _ => simp [okTop, hu] at hok
  obtain ⟨q, hq⟩ := open_in (g := g) hin htop fuel t _ _ hf hwt (.inr ⟨htm, hsp⟩)
  refine ⟨q, hq.ty, hq.dt, ?_⟩
  have single : v.cells = #[v] → q.cells = [q] → R g (κ0 W) v q := fun h1 h2 => hq.rr 0 v q (by rw [h1]; rfl) (by rw [h2]; rfl)
  cases hu : P.underlying t with
  | none => simp [okTop, hu] at hok
  | some d =>
    cases d with
    | struct fs =>
      obtain ⟨cs, rfl, _⟩ := okWide_struct hu hval
      have hqt := hq.ty
      cases hqt with
      | agg xs ht hl hx =>
        have := hq.lf
        simp only [PV.cells] at this
        refine .agg cs (flat xs) ?_ (leafB_all this) (fun i u q a b => hq.rr i u q (by simpa [Value.cells] using a) b)
        have := hq.ln
        simp [Value.cells, PV.cells] at this; omega
      | _ => simp_all
    | bool =>
      obtain ⟨b, rfl⟩ := okWide_bool hu hval
      refine single rfl ?_
      have hqt := hq.ty
      cases hqt <;> first | rfl | simp_all
    | int k =>
      obtain ⟨b, rfl⟩ := okWide_int hu hval
      refine single rfl ?_
      have hqt := hq.ty
      cases hqt <;> first | rfl | simp_all
    | string =>
      obtain ⟨b, rfl⟩ := okWide_string hu hval
      refine single rfl ?_
      have hqt := hq.ty
      cases hqt <;> first | rfl | simp_all
    | slice e =>
      obtain ⟨a', l', c', rfl⟩ := okWide_slice hu hval
      refine single rfl ?_
      have hqt := hq.ty
      cases hqt <;> first | rfl | simp_all
    | _ => simp [okTop, hu] at hok

theorem HasTy.bytes {t e : TypeId} {q : PV} (h : HasTy P t q) (ht : P.underlying t = some (.slice e)) (he : P.underlying e = some (.int .u8)) : ∃ l, q.by = some l ∧ q.tokLt 0 = true ∧ l.length ≤ maxLen := by
  cases h with
  | nils => exact ⟨[], rfl, rfl, Nat.zero_le _⟩
  | bys l _ _ hl => exact ⟨l, rfl, rfl, hl⟩
  | sl xs h1 h2 _ _ =>
    rw [ht] at h1
    simp only [Option.some.injEq, TypeDesc.slice.injEq] at h1
    subst h1; exact absurd he h2
  | _ => simp_all
theorem HasTy.int' {t : TypeId} {k : IntKind} {q : PV} (h : HasTy P t q) (ht : P.underlying t = some (.int k)) (hk : k ≠ .u8) : ∃ n, q = .int k n ∧ k.min ≤ n ∧ n ≤ k.max := by
  cases h with
  | int n h1 _ h2 =>
    rw [ht] at h1
    simp only [Option.some.injEq, TypeDesc.int.injEq] at h1
    subst h1
    exact ⟨n, rfl, h2⟩
  | u8 b h1 => rw [ht] at h1; simp_all
  | _ => simp_all
theorem HasTy.strR {t : TypeId} {q : PV} (h : HasTy P t q) (ht : P.underlying t = some .string) : ∃ s, q = .str s ∧ s.length ≤ reachBytes := by
  cases h with
  | str s h1 h2 => exact ⟨s, rfl, h2⟩
  | _ => simp_all
theorem HasTy.str' {t : TypeId} {q : PV} (h : HasTy P t q) (ht : P.underlying t = some .string) : ∃ s, q = .str s ∧ s.length ≤ maxLen := by
  obtain ⟨s, h1, h2⟩ := HasTy.strR h ht
  exact ⟨s, h1, Nat.le_trans h2 (by decide)⟩
end Go.Ab
/-
  From the evaluator's answer to a law's row: what all rows share.
-/
namespace Go.Ab
open Go.ChangeShapes Go.WideShapes Go.ChangeAt Go.RowKit
variable {P : Program} {g : GMap} {H : Type} {enc : TypeId × Value → H}

theorem args_open {W : World} {base : Nat} {ts us : List TypeId} (hin : ts.all (okIn P ts) = true) (htop : us.all (okTop P ts us) = true) : ∀ (ps : List TypeId) (vs : List Value) (ds : List (DataW H)) (q : List MemPlace) (us2 : List TypeId) (gs : List (DataW H)), ps.all us.contains = true →
    DataW.TrodAll enc P W 0 (fun _ => true) true ps vs ds q → (DataW.weightsEach P (ps ++ us2) (ds ++ gs)).all (· ≤ reachBytes) = true → (∀ (j : Nat) t v, ps[j]? = some t → vs[j]? = some v → Value.okWide P W .any base t v) →
    ∃ xs : List PV, xs.length = ps.length ∧ vs.length = ps.length ∧ ds.length = ps.length ∧ (∀ (i : Nat) (t : TypeId) (x : PV), ps[i]? = some t → xs[i]? = some x → HasTy P t x ∧ x.data = true) ∧ ∀ (i : Nat) (v : Value) (x : PV), vs[i]? = some v → xs[i]? = some x → R g (κ0 W) v x := by
  intro ps
  induction ps with
  | nil =>
    intro vs ds q us2 gs _ h _ _
    obtain ⟨rfl, rfl, rfl⟩ := trodAll_nil h
    exact ⟨[], rfl, rfl, rfl, fun i t x a => by simp at a, fun i v x a => by simp at a⟩
  | cons t ps ih =>
    intro vs ds q us2 gs hall h hwt hval
    obtain ⟨v, vs', d, ds', p, q', rfl, rfl, rfl, h0, hr⟩ := trodAll_cons h
    simp only [List.cons_append, DataW.weightsEach, List.all_append, Bool.and_eq_true] at hwt
    simp only [List.all_cons, Bool.and_eq_true] at hall
    obtain ⟨x, x1, x2, x3⟩ := open_arg (g := g) hin htop hall.1 (hval 0 t v rfl rfl) h0 hwt.1
    obtain ⟨xs, y1, y2, y3, y4, y5⟩ := ih vs' ds' q' us2 gs hall.2 hr hwt.2 (fun j t' v' a b => hval (j + 1) t' v' (by simpa using a) (by simpa using b))
    refine ⟨x :: xs, by simp [y1], by simp [y2], by simp [y3], fun i t' x' a b => ?_, fun i v' x' a b => ?_⟩
    · cases i with
      | zero => simp at a b; subst a b; exact ⟨x1, x2⟩
      | succ i => simp at a b; exact y4 i t' x' a b
    · cases i with
      | zero => simp at a b; subst a b; exact x3
      | succ i => simp at a b; exact y5 i v' x' a b

theorem trodAll_below {W W' : World} (hl : laidOutB P = true) (hb : Below W.heap.size W W') : ∀ (ps : List TypeId) (vs : List Value) (ds : List (DataW H)) (q : List MemPlace), ps.all (fun t => P.readableRec t && decide (t < P.types.size)) = true →
    DataW.TrodAll enc P W 0 (fun _ => true) true ps vs ds q → (∀ x ∈ q, x.block < W.heap.size) → DataW.TrodAll enc P W' 0 (fun b => decide (b < W.heap.size)) true ps vs ds q := by
  intro ps
  induction ps with
  | nil =>
    intro vs ds q _ h _
    obtain ⟨rfl, rfl, rfl⟩ := trodAll_nil h
    exact trodAll_mk0
  | cons t ps ih =>
    intro vs ds q hall h hlt
    obtain ⟨v, vs', d, ds', p, q', rfl, rfl, rfl, h0, hr⟩ := trodAll_cons h
    simp only [List.all_cons, Bool.and_eq_true, decide_eq_true_eq] at hall
    exact ⟨_, _, (Below.trod hl hall.1.1 hall.1.2 h0 hb (fun x hx => hlt x (by simp [hx]))), (ih vs' ds' q' (by simpa using hall.2) hr (fun x hx => hlt x (by simp [hx]))), rfl⟩

theorem post_of {s : ChangeSpec} {f : Func} {tb : TypeId} {apart : Bool} (hl : laidOutB P = true) (hread : f.params.toList.all (fun t => P.readableRec t && decide (t < P.types.size)) = true) (hres : f.resultTypes = #[tb]) (htb : P.underlying tb = some .bool)
    (hv : s.vars = []) (hfn : ∀ ds : List (DataW H), ds.length = f.params.toList.length → s.fn H ds = { results := [.lit (.bool true)], args := ds }) {W W' : World} {args : Array Value} {ds gs : List (DataW H)} {before : List MemPlace}
    (hW : DataW.Whole enc P f.params.toList s.vars apart W args.toList ds gs before) (hds : ds.length = f.params.toList.length) (hb : Below W.heap.size W W') : s.post enc P f apart true false false W args (.bool true) W' := by
  have hW0 := hW
  obtain ⟨p, q, hA, hV, rfl, hz, hn⟩ := hW
  rw [hv] at hV
  obtain ⟨rfl, rfl⟩ := trodVars_none hV
  simp only [List.append_nil] at hW0
  refine ⟨ds, [], p, [], p, [], hW0, ?_, ?_, ?_, hb.frame _, fun h => by cases h⟩
  · rw [List.append_nil, hfn ds hds, hres]
    exact trodAll_mk1 (shut_bool htb true)
  · rw [List.append_nil, hfn ds hds]
    exact trodAll_below hl hb _ _ _ _ hread hA (fun x hx => hW0.lt x hx)
  · rw [List.append_nil, hfn ds hds, hv]
    rfl
end Go.Ab
/-
  The abstract code of functions, printed by program (abgen.py, abput2.py).
-/
namespace Go.Ab

def F_utf_Valid : ACFn := { nt := 13,results := [.tmp 2],body := (.seq (.region [⟨some 2,.mov (.const (.bool false)),none⟩]) (.seq (.region [⟨some 6,.mov (.tmp 0),none⟩,⟨some 7,.call (.fn 69) [(.tmp 6)],none⟩,⟨some 5,.mov (.tmp 7),none⟩,
 ⟨some 8,.ext 0 (.tmp 5),none⟩,⟨some 9,.ext 1 (.tmp 5),none⟩,⟨some 4,.alloc [.int .i64 0,.int .i64 0],none⟩,⟨some 3,.mov (.tmp 8),none⟩,⟨none,.store 2 (.tmp 4) (.tmp 9),none⟩]) (.seq (.region [⟨some 10,.faddr 1 (.tmp 4),none⟩,
 ⟨some 11,.load false 1 (.tmp 10),none⟩,⟨some 12,.bin .eql .no (.tmp 11) (.const (.int .i64 0)),none⟩,⟨some 2,.mov (.tmp 12),none⟩]) (.ret)))) }

def F_utf_Points : ACFn := { nt := 35,results := [.tmp 2,.cell 3 true 2],body := (.seq (.region [⟨some 2,.mov (.const (.nils)),none⟩,⟨some 3,.alloc [.int .i64 0,.int .i64 0],none⟩]) (.seq (.region [⟨some 4,.mov (.const (.nils)),none⟩]) (.seq (.seq (.region [⟨some 5,.mov (.const (.int .i64 0)),none⟩]) (.block 0 (.loop (.seq (.seq (.region [⟨some 9,.mov (.tmp 5),none⟩,
 ⟨some 10,.mov (.tmp 0),none⟩,⟨some 11,.len false (.tmp 10),none⟩,⟨some 12,.bin .lss .no (.tmp 9) (.tmp 11),none⟩]) (.cond (.tmp 12) (.skip) (.exit 0))) (.block 1 (.seq (.region [⟨some 14,.mov (.tmp 0),none⟩,
 ⟨some 15,.mov (.tmp 5),none⟩,⟨some 16,.slc 1 (.tmp 14) (some (.tmp 15)) none none,none⟩,⟨some 17,.call (.fn 77) [(.tmp 16)],none⟩,⟨some 13,.mov (.tmp 17),none⟩,⟨some 18,.ext 0 (.tmp 13),none⟩,⟨some 19,.ext 1 (.tmp 13),none⟩,
 ⟨some 20,.ext 2 (.tmp 13),none⟩,⟨some 6,.mov (.tmp 18),none⟩,⟨some 7,.mov (.tmp 19),none⟩,⟨some 8,.mov (.tmp 20),none⟩]) (.seq (.seq (.region [⟨some 21,.mov (.tmp 8),none⟩,⟨some 22,.bin .neq .no (.tmp 21) (.const (.int .i64 0)),none⟩]) (.cond (.tmp 22) (.seq (.region [⟨some 23,.mov (.tmp 5),none⟩,
 ⟨some 24,.mov (.tmp 8),none⟩,⟨some 25,.build [.int .i64 0,.int .i64 0] [(0,1,(.tmp 23)),(1,1,(.tmp 24))],none⟩,⟨some 2,.mov (.const (.nils)),none⟩,⟨none,.store 2 (.tmp 3) (.tmp 25),none⟩]) (.ret)) (.skip))) (.seq (.region [⟨some 26,.mov (.tmp 4),none⟩,
 ⟨some 27,.mov (.tmp 6),none⟩,⟨some 28,.lit 1 (.int .i32 0) 1 [(0,(.tmp 27))],none⟩,⟨some 29,.app false 1 (.tmp 26) (.tmp 28),none⟩,⟨some 4,.mov (.tmp 29),none⟩]) (.region [⟨some 30,.mov (.tmp 5),none⟩,
 ⟨some 31,.mov (.tmp 7),none⟩,⟨some 32,.bin .add .no (.tmp 30) (.tmp 31),none⟩,⟨some 5,.mov (.tmp 32),none⟩]))))))))) (.seq (.region [⟨some 33,.mov (.tmp 4),none⟩,⟨some 34,.build [.int .i64 0,.int .i64 0] [],none⟩,
 ⟨some 2,.mov (.tmp 33),none⟩,⟨none,.store 2 (.tmp 3) (.tmp 34),none⟩]) (.ret))))) }

def F_utf_Next : ACFn := { nt := 97,results := [.tmp 2,.tmp 3,.tmp 4],body := (.seq (.region [⟨some 2,.mov (.const (.int .i32 0)),none⟩,⟨some 3,.mov (.const (.int .i64 0)),none⟩,⟨some 4,.mov (.const (.int .i64 0)),none⟩]) (.scope (.seq (.region [⟨some 5,.mov (.const (.int .i32 0)),none⟩]) (.seq (.region [⟨some 6,.mov (.const (.int .i64 0)),none⟩]) (.seq (.seq (.region [⟨some 10,.mov (.tmp 0),none⟩,
 ⟨some 11,.len false (.tmp 10),none⟩,⟨some 12,.bin .eql .no (.tmp 11) (.const (.int .i64 0)),none⟩]) (.cond (.tmp 12) (.seq (.region [⟨some 2,.mov (.const (.int .i32 0)),none⟩,⟨some 3,.mov (.const (.int .i64 0)),none⟩,
 ⟨some 4,.mov (.const (.int .i64 42)),none⟩]) (.ret)) (.skip))) (.seq (.seq (.region [⟨some 13,.mov (.tmp 0),none⟩,⟨some 14,.iaddr 1 (.tmp 13) (.const (.int .i64 0)),none⟩,⟨some 15,.load false 1 (.tmp 14),none⟩,
 ⟨some 7,.mov (.tmp 15),none⟩]) (.block 0 (.seq (.region [⟨some 17,.mov (.tmp 7),none⟩,⟨some 18,.bin .lss .no (.tmp 17) (.const (.b8 128)),none⟩,⟨some 16,.mov (.tmp 18),none⟩]) (.cond (.tmp 16) (.seq (.region [⟨some 19,.mov (.tmp 7),none⟩,
 ⟨some 20,.cInt .i32 (.tmp 19),none⟩,⟨some 2,.mov (.tmp 20),none⟩,⟨some 3,.mov (.const (.int .i64 1)),none⟩,⟨some 4,.mov (.const (.int .i64 0)),none⟩]) (.ret)) (.seq (.region [⟨some 22,.mov (.tmp 7),none⟩,
 ⟨some 23,.bin .shr .no (.tmp 22) (.const (.int .u64 5)),none⟩,⟨some 24,.bin .eql .no (.tmp 23) (.const (.b8 6)),none⟩,⟨some 21,.mov (.tmp 24),none⟩]) (.cond (.tmp 21) (.region [⟨some 25,.mov (.tmp 7),none⟩,
 ⟨some 26,.bin .and .no (.tmp 25) (.const (.b8 31)),none⟩,⟨some 27,.cInt .i32 (.tmp 26),none⟩,⟨some 5,.mov (.tmp 27),none⟩,⟨some 6,.mov (.const (.int .i64 2)),none⟩]) (.seq (.region [⟨some 29,.mov (.tmp 7),none⟩,
 ⟨some 30,.bin .shr .no (.tmp 29) (.const (.int .u64 4)),none⟩,⟨some 31,.bin .eql .no (.tmp 30) (.const (.b8 14)),none⟩,⟨some 28,.mov (.tmp 31),none⟩]) (.cond (.tmp 28) (.region [⟨some 32,.mov (.tmp 7),none⟩,
 ⟨some 33,.bin .and .no (.tmp 32) (.const (.b8 15)),none⟩,⟨some 34,.cInt .i32 (.tmp 33),none⟩,⟨some 5,.mov (.tmp 34),none⟩,⟨some 6,.mov (.const (.int .i64 3)),none⟩]) (.seq (.region [⟨some 36,.mov (.tmp 7),none⟩,
 ⟨some 37,.bin .shr .no (.tmp 36) (.const (.int .u64 3)),none⟩,⟨some 38,.bin .eql .no (.tmp 37) (.const (.b8 30)),none⟩,⟨some 35,.mov (.tmp 38),none⟩]) (.cond (.tmp 35) (.region [⟨some 39,.mov (.tmp 7),none⟩,
 ⟨some 40,.bin .and .no (.tmp 39) (.const (.b8 7)),none⟩,⟨some 41,.cInt .i32 (.tmp 40),none⟩,⟨some 5,.mov (.tmp 41),none⟩,⟨some 6,.mov (.const (.int .i64 4)),none⟩]) (.skip))))))))))) (.seq (.seq (.region [⟨some 42,.mov (.tmp 6),none⟩,
 ⟨some 43,.bin .eql .no (.tmp 42) (.const (.int .i64 0)),none⟩,⟨some 44,.mov (.tmp 43),none⟩,⟨some 45,.mov (.tmp 0),some (44,false)⟩,⟨some 46,.len false (.tmp 45),some (44,false)⟩,⟨some 47,.mov (.tmp 6),some (44,false)⟩,
 ⟨some 48,.bin .lss .no (.tmp 46) (.tmp 47),some (44,false)⟩,⟨some 49,.pick (.tmp 44) (.const (.bool true)) (.tmp 48),none⟩]) (.cond (.tmp 49) (.goto 0) (.skip))) (.seq (.seq (.region [⟨some 50,.mov (.tmp 0),none⟩,
 ⟨some 51,.mov (.tmp 6),none⟩,⟨some 52,.slc 1 (.tmp 50) (some (.const (.int .i64 1))) (some (.tmp 51)) none,none⟩,⟨some 53,.len false (.tmp 52),none⟩,⟨some 54,.mov (.const (.int .i64 0)),none⟩]) (.block 1 (.loop (.seq (.region [⟨some 55,.bin .lss .no (.tmp 54) (.tmp 53),none⟩]) (.seq (.cond (.tmp 55) (.skip) (.exit 1)) (.seq (.block 2 (.seq (.region [⟨some 56,.iaddr 1 (.tmp 52) (.tmp 54),none⟩,
 ⟨some 57,.load false 1 (.tmp 56),none⟩,⟨some 9,.mov (.tmp 57),none⟩]) (.seq (.seq (.region [⟨some 58,.mov (.tmp 9),none⟩,⟨some 59,.bin .shr .no (.tmp 58) (.const (.int .u64 6)),none⟩,⟨some 60,.bin .neq .no (.tmp 59) (.const (.b8 2)),none⟩]) (.cond (.tmp 60) (.goto 0) (.skip))) (.region [⟨some 61,.mov (.tmp 5),none⟩,
 ⟨some 62,.bin .shl .no (.tmp 61) (.const (.int .u64 6)),none⟩,⟨some 63,.mov (.tmp 9),none⟩,⟨some 64,.bin .and .no (.tmp 63) (.const (.b8 63)),none⟩,⟨some 65,.cInt .i32 (.tmp 64),none⟩,⟨some 66,.bin .or .no (.tmp 62) (.tmp 65),none⟩,
 ⟨some 5,.mov (.tmp 66),none⟩])))) (.region [⟨some 67,.bin .add .no (.tmp 54) (.const (.int .i64 1)),none⟩,⟨some 54,.mov (.tmp 67),none⟩]))))))) (.seq (.seq (.region [⟨some 68,.mov (.tmp 5),none⟩,⟨some 69,.call (.fn 83) [(.tmp 68)],none⟩,
 ⟨some 70,.un .not (.tmp 69),none⟩,⟨some 71,.mov (.tmp 70),none⟩,⟨some 72,.mov (.tmp 6),some (71,false)⟩,⟨some 73,.bin .eql .no (.tmp 72) (.const (.int .i64 2)),some (71,false)⟩,⟨some 74,.mov (.tmp 73),some (71,false)⟩,
 ⟨some 75,.mov (.tmp 5),some (74,true)⟩,⟨some 76,.bin .lss .no (.tmp 75) (.const (.int .i32 128)),some (74,true)⟩,⟨some 77,.pick (.tmp 74) (.tmp 76) (.const (.bool false)),some (71,false)⟩,⟨some 78,.pick (.tmp 71) (.const (.bool true)) (.tmp 77),none⟩,
 ⟨some 79,.mov (.tmp 78),none⟩,⟨some 80,.mov (.tmp 6),some (79,false)⟩,⟨some 81,.bin .eql .no (.tmp 80) (.const (.int .i64 3)),some (79,false)⟩,⟨some 82,.mov (.tmp 81),some (79,false)⟩,⟨some 83,.mov (.tmp 5),some (82,true)⟩,
 ⟨some 84,.bin .lss .no (.tmp 83) (.const (.int .i32 2048)),some (82,true)⟩,⟨some 85,.pick (.tmp 82) (.tmp 84) (.const (.bool false)),some (79,false)⟩,⟨some 86,.pick (.tmp 79) (.const (.bool true)) (.tmp 85),none⟩,
 ⟨some 87,.mov (.tmp 86),none⟩,⟨some 88,.mov (.tmp 6),some (87,false)⟩,⟨some 89,.bin .eql .no (.tmp 88) (.const (.int .i64 4)),some (87,false)⟩,⟨some 90,.mov (.tmp 89),some (87,false)⟩,⟨some 91,.mov (.tmp 5),some (90,true)⟩,
 ⟨some 92,.bin .lss .no (.tmp 91) (.const (.int .i32 65536)),some (90,true)⟩,⟨some 93,.pick (.tmp 90) (.tmp 92) (.const (.bool false)),some (87,false)⟩,⟨some 94,.pick (.tmp 87) (.const (.bool true)) (.tmp 93),none⟩]) (.cond (.tmp 94) (.goto 0) (.skip))) (.seq (.seq (.region [⟨some 95,.mov (.tmp 5),none⟩,
 ⟨some 96,.mov (.tmp 6),none⟩,⟨some 2,.mov (.tmp 95),none⟩,⟨some 3,.mov (.tmp 96),none⟩,⟨some 4,.mov (.const (.int .i64 0)),none⟩]) (.ret)) (.seq (.label 0) (.seq (.region [⟨some 2,.mov (.const (.int .i32 0)),none⟩,
 ⟨some 3,.mov (.const (.int .i64 0)),none⟩,⟨some 4,.mov (.const (.int .i64 20)),none⟩]) (.ret))))))))))))) }

def F_utf_isPoint : ACFn := { nt := 17,results := [.tmp 2],body := (.seq (.region [⟨some 2,.mov (.const (.bool false)),none⟩]) (.seq (.region [⟨some 3,.mov (.tmp 0),none⟩,⟨some 4,.bin .geq .no (.tmp 3) (.const (.int .i32 0)),none⟩,
 ⟨some 5,.mov (.tmp 4),none⟩,⟨some 6,.mov (.tmp 0),some (5,true)⟩,⟨some 7,.bin .leq .no (.tmp 6) (.const (.int .i32 1114111)),some (5,true)⟩,⟨some 8,.pick (.tmp 5) (.tmp 7) (.const (.bool false)),none⟩,
 ⟨some 9,.mov (.tmp 8),none⟩,⟨some 10,.mov (.tmp 0),some (9,true)⟩,⟨some 11,.bin .lss .no (.tmp 10) (.const (.int .i32 55296)),some (9,true)⟩,⟨some 12,.mov (.tmp 11),some (9,true)⟩,⟨some 13,.mov (.tmp 0),some (12,false)⟩,
 ⟨some 14,.bin .gtr .no (.tmp 13) (.const (.int .i32 57343)),some (12,false)⟩,⟨some 15,.pick (.tmp 12) (.const (.bool true)) (.tmp 14),some (9,true)⟩,⟨some 16,.pick (.tmp 9) (.tmp 15) (.const (.bool false)),none⟩,
 ⟨some 2,.mov (.tmp 16),none⟩]) (.ret))) }

def F_addr_Right : ACFn := { nt := 28,results := [.tmp 2],body := (.seq (.region [⟨some 1,.box (.tmp 0),none⟩,⟨some 2,.mov (.const (.bool false)),none⟩]) (.seq (.region [⟨some 3,.faddr 1 (.tmp 1),none⟩,⟨some 4,.load false 1 (.tmp 3),none⟩,
 ⟨some 5,.len true (.tmp 4),none⟩,⟨some 6,.bin .leq .no (.tmp 5) (.const (.int .i64 64)),none⟩,⟨some 7,.mov (.tmp 6),none⟩,⟨some 8,.faddr 1 (.tmp 1),some (7,true)⟩,⟨some 9,.load false 1 (.tmp 8),some (7,true)⟩,
 ⟨some 10,.call (.fn 124) [(.tmp 9),(.const (.str [46])),(.fn 125)],some (7,true)⟩,⟨some 11,.pick (.tmp 7) (.tmp 10) (.const (.bool false)),none⟩,⟨some 12,.mov (.tmp 11),none⟩,⟨some 13,.faddr 2 (.tmp 1),some (12,true)⟩,
 ⟨some 14,.load false 1 (.tmp 13),some (12,true)⟩,⟨some 15,.len true (.tmp 14),some (12,true)⟩,⟨some 16,.bin .leq .no (.tmp 15) (.const (.int .i64 253)),some (12,true)⟩,⟨some 17,.pick (.tmp 12) (.tmp 16) (.const (.bool false)),none⟩,
 ⟨some 18,.mov (.tmp 17),none⟩,⟨some 19,.faddr 2 (.tmp 1),some (18,true)⟩,⟨some 20,.load false 1 (.tmp 19),some (18,true)⟩,⟨some 21,.call (.fn 124) [(.tmp 20),(.const (.str [46])),(.fn 126)],some (18,true)⟩,
 ⟨some 22,.pick (.tmp 18) (.tmp 21) (.const (.bool false)),none⟩,⟨some 23,.mov (.tmp 22),none⟩,⟨some 24,.faddr 0 (.tmp 1),some (23,true)⟩,⟨some 25,.load false 1 (.tmp 24),some (23,true)⟩,⟨some 26,.call (.fn 127) [(.tmp 25)],some (23,true)⟩,
 ⟨some 27,.pick (.tmp 23) (.tmp 26) (.const (.bool false)),none⟩,⟨some 2,.mov (.tmp 27),none⟩]) (.ret))) }

def F_addr_Normal : ACFn := { nt := 37,results := [.tmp 2],body := (.seq (.region [⟨some 1,.box (.tmp 0),none⟩,⟨some 2,.mov (.const (.str [])),none⟩]) (.seq (.seq (.region [⟨some 6,.load true 3 (.tmp 1),none⟩,⟨some 7,.call (.fn 111) [(.tmp 6)],none⟩,
 ⟨some 8,.un .not (.tmp 7),none⟩]) (.cond (.tmp 8) (.seq (.region [⟨some 2,.mov (.const (.str [])),none⟩]) (.ret)) (.skip))) (.seq (.region [⟨some 9,.faddr 1 (.tmp 1),none⟩,⟨some 10,.load false 1 (.tmp 9),none⟩,
 ⟨some 11,.bin .add .no (.tmp 10) (.const (.str [64])),none⟩,⟨some 12,.faddr 2 (.tmp 1),none⟩,⟨some 13,.load false 1 (.tmp 12),none⟩,⟨some 14,.bin .add .no (.tmp 11) (.tmp 13),none⟩,⟨some 15,.cS2B true (.tmp 14),none⟩,
 ⟨some 3,.mov (.tmp 15),none⟩]) (.seq (.seq (.region [⟨some 16,.mov (.tmp 3),none⟩,⟨some 17,.len false (.tmp 16),none⟩,⟨some 18,.mov (.const (.int .i64 0)),none⟩]) (.block 0 (.loop (.seq (.region [⟨some 19,.bin .lss .no (.tmp 18) (.tmp 17),none⟩]) (.seq (.cond (.tmp 19) (.skip) (.exit 0)) (.seq (.block 1 (.seq (.region [⟨some 20,.mov (.tmp 18),none⟩,
 ⟨some 21,.iaddr 1 (.tmp 16) (.tmp 18),none⟩,⟨some 22,.load false 1 (.tmp 21),none⟩,⟨some 4,.mov (.tmp 20),none⟩,⟨some 5,.mov (.tmp 22),none⟩]) (.seq (.region [⟨some 23,.mov (.tmp 5),none⟩,⟨some 24,.bin .geq .no (.tmp 23) (.const (.b8 65)),none⟩,
 ⟨some 25,.mov (.tmp 24),none⟩,⟨some 26,.mov (.tmp 5),some (25,true)⟩,⟨some 27,.bin .leq .no (.tmp 26) (.const (.b8 90)),some (25,true)⟩,⟨some 28,.pick (.tmp 25) (.tmp 27) (.const (.bool false)),none⟩]) (.cond (.tmp 28) (.region [⟨some 29,.mov (.tmp 3),none⟩,
 ⟨some 30,.mov (.tmp 4),none⟩,⟨some 31,.mov (.tmp 5),none⟩,⟨some 32,.bin .add .no (.tmp 31) (.const (.b8 32)),none⟩,⟨some 33,.iaddr 1 (.tmp 29) (.tmp 30),none⟩,⟨none,.store 1 (.tmp 33) (.tmp 32),none⟩]) (.skip))))) (.region [⟨some 34,.bin .add .no (.tmp 18) (.const (.int .i64 1)),none⟩,
 ⟨some 18,.mov (.tmp 34),none⟩]))))))) (.seq (.region [⟨some 35,.mov (.tmp 3),none⟩,⟨some 36,.cB2S true (.tmp 35),none⟩,⟨some 2,.mov (.tmp 36),none⟩]) (.ret)))))) }

def F_addr_Plain : ACFn := { nt := 22,results := [.cell 2 true 3,.tmp 3],body := (.seq (.region [⟨some 2,.alloc [.str [],.str [],.str []],none⟩,⟨some 3,.mov (.const (.int .i64 0)),none⟩]) (.seq (.region [⟨some 9,.mov (.tmp 0),none⟩,
 ⟨some 10,.call (.fn 128) [(.tmp 9),(.const (.str [64]))],none⟩,⟨some 8,.mov (.tmp 10),none⟩,⟨some 11,.ext 0 (.tmp 8),none⟩,⟨some 12,.ext 1 (.tmp 8),none⟩,⟨some 13,.ext 2 (.tmp 8),none⟩,⟨some 4,.mov (.tmp 11),none⟩,
 ⟨some 5,.mov (.tmp 12),none⟩,⟨some 6,.mov (.tmp 13),none⟩]) (.seq (.region [⟨some 14,.mov (.tmp 4),none⟩,⟨some 15,.mov (.tmp 5),none⟩,⟨some 16,.build [.str [],.str [],.str []] [(1,1,(.tmp 14)),(2,1,(.tmp 15))],none⟩,
 ⟨some 7,.alloc [.str [],.str [],.str []],none⟩,⟨none,.store 3 (.tmp 7) (.tmp 16),none⟩]) (.seq (.seq (.region [⟨some 17,.load true 3 (.tmp 7),none⟩,⟨some 18,.call (.fn 111) [(.tmp 17)],none⟩,⟨some 19,.un .not (.tmp 18),none⟩]) (.cond (.tmp 19) (.seq (.region [⟨some 20,.build [.str [],.str [],.str []] [],none⟩,
 ⟨none,.store 3 (.tmp 2) (.tmp 20),none⟩,⟨some 3,.mov (.const (.int .i64 60)),none⟩]) (.ret)) (.skip))) (.seq (.region [⟨some 21,.load true 3 (.tmp 7),none⟩,⟨none,.store 3 (.tmp 2) (.tmp 21),none⟩,⟨some 3,.mov (.const (.int .i64 0)),none⟩]) (.ret)))))) }

def F_addr_parts : ACFn := { nt := 22,results := [.tmp 6],body := (.seq (.region [⟨some 6,.mov (.const (.bool false)),none⟩]) (.seq (.seq (.region [⟨some 9,.mov (.tmp 0),none⟩,⟨some 10,.mov (.tmp 1),none⟩,⟨some 11,.call (.fn 133) [(.tmp 9),(.tmp 10)],none⟩,
 ⟨some 12,.len false (.tmp 11),none⟩,⟨some 13,.mov (.const (.int .i64 0)),none⟩]) (.block 0 (.loop (.seq (.region [⟨some 14,.bin .lss .no (.tmp 13) (.tmp 12),none⟩]) (.seq (.cond (.tmp 14) (.skip) (.exit 0)) (.seq (.block 1 (.seq (.region [⟨some 15,.iaddr 1 (.tmp 11) (.tmp 13),none⟩,
 ⟨some 16,.load false 1 (.tmp 15),none⟩,⟨some 8,.mov (.tmp 16),none⟩]) (.seq (.region [⟨some 17,.mov (.tmp 2),none⟩,⟨some 18,.mov (.tmp 8),none⟩,⟨some 19,.call (.tmp 17) [(.tmp 18)],none⟩,⟨some 20,.un .not (.tmp 19),none⟩]) (.cond (.tmp 20) (.seq (.region [⟨some 6,.mov (.const (.bool false)),none⟩]) (.ret)) (.skip))))) (.region [⟨some 21,.bin .add .no (.tmp 13) (.const (.int .i64 1)),none⟩,
 ⟨some 13,.mov (.tmp 21),none⟩]))))))) (.seq (.region [⟨some 6,.mov (.const (.bool true)),none⟩]) (.ret)))) }

def F_addr_isAtom : ACFn := { nt := 24,results := [.tmp 2],body := (.seq (.region [⟨some 2,.mov (.const (.bool false)),none⟩]) (.seq (.seq (.region [⟨some 4,.mov (.tmp 0),none⟩,⟨some 5,.len true (.tmp 4),none⟩,⟨some 6,.mov (.const (.int .i64 0)),none⟩]) (.block 0 (.loop (.seq (.region [⟨some 7,.bin .lss .no (.tmp 6) (.tmp 5),none⟩]) (.seq (.cond (.tmp 7) (.skip) (.exit 0)) (.seq (.block 1 (.seq (.region [⟨some 8,.mov (.tmp 6),none⟩,
 ⟨some 3,.mov (.tmp 8),none⟩]) (.seq (.region [⟨some 9,.mov (.tmp 0),none⟩,⟨some 10,.mov (.tmp 3),none⟩,⟨some 11,.idxS (.tmp 9) (.tmp 10),none⟩,⟨some 12,.call (.fn 134) [(.tmp 11)],none⟩,⟨some 13,.un .not (.tmp 12),none⟩,
 ⟨some 14,.mov (.tmp 13),none⟩,⟨some 15,.mov (.tmp 0),some (14,true)⟩,⟨some 16,.mov (.tmp 3),some (14,true)⟩,⟨some 17,.idxS (.tmp 15) (.tmp 16),some (14,true)⟩,⟨some 18,.call (.fn 78) [(.const (.str [33,35,36,37,38,39,42,43,45,47,61,63,94,95,123,124,125,126,96])),(.tmp 17)],some (14,true)⟩,
 ⟨some 19,.bin .lss .no (.tmp 18) (.const (.int .i64 0)),some (14,true)⟩,⟨some 20,.pick (.tmp 14) (.tmp 19) (.const (.bool false)),none⟩]) (.cond (.tmp 20) (.seq (.region [⟨some 2,.mov (.const (.bool false)),none⟩]) (.ret)) (.skip))))) (.region [⟨some 21,.bin .add .no (.tmp 6) (.const (.int .i64 1)),none⟩,
 ⟨some 6,.mov (.tmp 21),none⟩]))))))) (.seq (.region [⟨some 22,.mov (.tmp 0),none⟩,⟨some 23,.bin .neq .no (.tmp 22) (.const (.str [])),none⟩,⟨some 2,.mov (.tmp 23),none⟩]) (.ret)))) }

def F_addr_isLabel : ACFn := { nt := 41,results := [.tmp 2],body := (.seq (.region [⟨some 2,.mov (.const (.bool false)),none⟩]) (.seq (.seq (.region [⟨some 4,.mov (.tmp 0),none⟩,⟨some 5,.len true (.tmp 4),none⟩,⟨some 6,.mov (.const (.int .i64 0)),none⟩]) (.block 0 (.loop (.seq (.region [⟨some 7,.bin .lss .no (.tmp 6) (.tmp 5),none⟩]) (.seq (.cond (.tmp 7) (.skip) (.exit 0)) (.seq (.block 1 (.seq (.region [⟨some 8,.mov (.tmp 6),none⟩,
 ⟨some 3,.mov (.tmp 8),none⟩]) (.seq (.region [⟨some 9,.mov (.tmp 0),none⟩,⟨some 10,.mov (.tmp 3),none⟩,⟨some 11,.idxS (.tmp 9) (.tmp 10),none⟩,⟨some 12,.call (.fn 134) [(.tmp 11)],none⟩,⟨some 13,.un .not (.tmp 12),none⟩,
 ⟨some 14,.mov (.tmp 13),none⟩,⟨some 15,.mov (.tmp 0),some (14,true)⟩,⟨some 16,.mov (.tmp 3),some (14,true)⟩,⟨some 17,.idxS (.tmp 15) (.tmp 16),some (14,true)⟩,⟨some 18,.bin .neq .no (.tmp 17) (.const (.b8 45)),some (14,true)⟩,
 ⟨some 19,.pick (.tmp 14) (.tmp 18) (.const (.bool false)),none⟩]) (.cond (.tmp 19) (.seq (.region [⟨some 2,.mov (.const (.bool false)),none⟩]) (.ret)) (.skip))))) (.region [⟨some 20,.bin .add .no (.tmp 6) (.const (.int .i64 1)),none⟩,
 ⟨some 6,.mov (.tmp 20),none⟩]))))))) (.seq (.region [⟨some 21,.mov (.tmp 0),none⟩,⟨some 22,.bin .neq .no (.tmp 21) (.const (.str [])),none⟩,⟨some 23,.mov (.tmp 22),none⟩,⟨some 24,.mov (.tmp 0),some (23,true)⟩,
 ⟨some 25,.len true (.tmp 24),some (23,true)⟩,⟨some 26,.bin .leq .no (.tmp 25) (.const (.int .i64 63)),some (23,true)⟩,⟨some 27,.pick (.tmp 23) (.tmp 26) (.const (.bool false)),none⟩,⟨some 28,.mov (.tmp 27),none⟩,
 ⟨some 29,.mov (.tmp 0),some (28,true)⟩,⟨some 30,.idxS (.tmp 29) (.const (.int .i64 0)),some (28,true)⟩,⟨some 31,.bin .neq .no (.tmp 30) (.const (.b8 45)),some (28,true)⟩,⟨some 32,.pick (.tmp 28) (.tmp 31) (.const (.bool false)),none⟩,
 ⟨some 33,.mov (.tmp 32),none⟩,⟨some 34,.mov (.tmp 0),some (33,true)⟩,⟨some 35,.mov (.tmp 0),some (33,true)⟩,⟨some 36,.len true (.tmp 35),some (33,true)⟩,⟨some 37,.bin .sub .no (.tmp 36) (.const (.int .i64 1)),some (33,true)⟩,
 ⟨some 38,.idxS (.tmp 34) (.tmp 37),some (33,true)⟩,⟨some 39,.bin .neq .no (.tmp 38) (.const (.b8 45)),some (33,true)⟩,⟨some 40,.pick (.tmp 33) (.tmp 39) (.const (.bool false)),none⟩,⟨some 2,.mov (.tmp 40),none⟩]) (.ret)))) }

def F_addr_isName : ACFn := { nt := 23,results := [.tmp 2],body := (.seq (.region [⟨some 2,.mov (.const (.bool false)),none⟩]) (.seq (.seq (.region [⟨some 4,.mov (.tmp 0),none⟩,⟨some 5,.len true (.tmp 4),none⟩,⟨some 6,.mov (.const (.int .i64 0)),none⟩]) (.block 0 (.loop (.seq (.region [⟨some 7,.bin .lss .no (.tmp 6) (.tmp 5),none⟩]) (.seq (.cond (.tmp 7) (.skip) (.exit 0)) (.seq (.block 1 (.seq (.region [⟨some 8,.mov (.tmp 6),none⟩,
 ⟨some 3,.mov (.tmp 8),none⟩]) (.seq (.region [⟨some 9,.mov (.tmp 0),none⟩,⟨some 10,.mov (.tmp 3),none⟩,⟨some 11,.idxS (.tmp 9) (.tmp 10),none⟩,⟨some 12,.bin .lss .no (.tmp 11) (.const (.b8 32)),none⟩,⟨some 13,.mov (.tmp 12),none⟩,
 ⟨some 14,.mov (.tmp 0),some (13,false)⟩,⟨some 15,.mov (.tmp 3),some (13,false)⟩,⟨some 16,.idxS (.tmp 14) (.tmp 15),some (13,false)⟩,⟨some 17,.bin .gtr .no (.tmp 16) (.const (.b8 126)),some (13,false)⟩,
 ⟨some 18,.pick (.tmp 13) (.const (.bool true)) (.tmp 17),none⟩]) (.cond (.tmp 18) (.seq (.region [⟨some 2,.mov (.const (.bool false)),none⟩]) (.ret)) (.skip))))) (.region [⟨some 19,.bin .add .no (.tmp 6) (.const (.int .i64 1)),none⟩,
 ⟨some 6,.mov (.tmp 19),none⟩]))))))) (.seq (.region [⟨some 20,.mov (.tmp 0),none⟩,⟨some 21,.len true (.tmp 20),none⟩,⟨some 22,.bin .leq .no (.tmp 21) (.const (.int .i64 128)),none⟩,⟨some 2,.mov (.tmp 22),none⟩]) (.ret)))) }

def F_strings_Cut : ACFn := { nt := 13,results := [.tmp 4,.tmp 5,.tmp 6],body := (.seq (.region [⟨some 4,.mov (.const (.str [])),none⟩,⟨some 5,.mov (.const (.str [])),none⟩,⟨some 6,.mov (.const (.bool false)),none⟩]) (.seq (.region [⟨some 7,.mov (.tmp 0),none⟩,
 ⟨some 8,.mov (.tmp 1),none⟩,⟨some 9,.call (.fn 135) [(.tmp 7),(.tmp 8)],none⟩,⟨some 10,.ext 0 (.tmp 9),none⟩,⟨some 11,.ext 1 (.tmp 9),none⟩,⟨some 12,.ext 2 (.tmp 9),none⟩,⟨some 4,.mov (.tmp 10),none⟩,⟨some 5,.mov (.tmp 11),none⟩,
 ⟨some 6,.mov (.tmp 12),none⟩]) (.ret))) }

def F_addr_alnum : ACFn := { nt := 24,results := [.tmp 2],body := (.seq (.region [⟨some 2,.mov (.const (.bool false)),none⟩]) (.seq (.block 0 (.seq (.block 3 (.block 2 (.block 1 (.seq (.seq (.seq (.region [⟨some 4,.mov (.tmp 0),none⟩,
 ⟨some 5,.bin .geq .no (.tmp 4) (.const (.b8 97)),none⟩,⟨some 6,.mov (.tmp 5),none⟩,⟨some 7,.mov (.tmp 0),some (6,true)⟩,⟨some 8,.bin .leq .no (.tmp 7) (.const (.b8 122)),some (6,true)⟩,⟨some 9,.pick (.tmp 6) (.tmp 8) (.const (.bool false)),none⟩,
 ⟨some 3,.mov (.tmp 9),none⟩]) (.cond (.tmp 3) (.exit 1) (.skip))) (.seq (.seq (.region [⟨some 11,.mov (.tmp 0),none⟩,⟨some 12,.bin .geq .no (.tmp 11) (.const (.b8 65)),none⟩,⟨some 13,.mov (.tmp 12),none⟩,
 ⟨some 14,.mov (.tmp 0),some (13,true)⟩,⟨some 15,.bin .leq .no (.tmp 14) (.const (.b8 90)),some (13,true)⟩,⟨some 16,.pick (.tmp 13) (.tmp 15) (.const (.bool false)),none⟩,⟨some 10,.mov (.tmp 16),none⟩]) (.cond (.tmp 10) (.exit 2) (.skip))) (.seq (.region [⟨some 18,.mov (.tmp 0),none⟩,
 ⟨some 19,.bin .geq .no (.tmp 18) (.const (.b8 48)),none⟩,⟨some 20,.mov (.tmp 19),none⟩,⟨some 21,.mov (.tmp 0),some (20,true)⟩,⟨some 22,.bin .leq .no (.tmp 21) (.const (.b8 57)),some (20,true)⟩,⟨some 23,.pick (.tmp 20) (.tmp 22) (.const (.bool false)),none⟩,
 ⟨some 17,.mov (.tmp 23),none⟩]) (.cond (.tmp 17) (.exit 3) (.skip))))) (.exit 0))))) (.seq (.seq (.region [⟨some 2,.mov (.const (.bool true)),none⟩]) (.ret)) (.exit 0)))) (.seq (.region [⟨some 2,.mov (.const (.bool false)),none⟩]) (.ret)))) }

def F_internal_stringslite_Cut : ACFn := { nt := 23,results := [.tmp 4,.tmp 5,.tmp 6],body := (.seq (.region [⟨some 4,.mov (.const (.str [])),none⟩,⟨some 5,.mov (.const (.str [])),none⟩,⟨some 6,.mov (.const (.bool false)),none⟩]) (.seq (.seq (.region [⟨some 8,.mov (.tmp 0),none⟩,
 ⟨some 9,.mov (.tmp 1),none⟩,⟨some 10,.call (.fn 82) [(.tmp 8),(.tmp 9)],none⟩,⟨some 7,.mov (.tmp 10),none⟩]) (.seq (.region [⟨some 11,.mov (.tmp 7),none⟩,⟨some 12,.bin .geq .no (.tmp 11) (.const (.int .i64 0)),none⟩]) (.cond (.tmp 12) (.seq (.region [⟨some 13,.mov (.tmp 0),none⟩,
 ⟨some 14,.mov (.tmp 7),none⟩,⟨some 15,.slc 0 (.tmp 13) none (some (.tmp 14)) none,none⟩,⟨some 16,.mov (.tmp 0),none⟩,⟨some 17,.mov (.tmp 7),none⟩,⟨some 18,.mov (.tmp 1),none⟩,⟨some 19,.len true (.tmp 18),none⟩,
 ⟨some 20,.bin .add .no (.tmp 17) (.tmp 19),none⟩,⟨some 21,.slc 0 (.tmp 16) (some (.tmp 20)) none none,none⟩,⟨some 4,.mov (.tmp 15),none⟩,⟨some 5,.mov (.tmp 21),none⟩,⟨some 6,.mov (.const (.bool true)),none⟩]) (.ret)) (.skip)))) (.seq (.region [⟨some 22,.mov (.tmp 0),none⟩,
 ⟨some 4,.mov (.tmp 22),none⟩,⟨some 5,.mov (.const (.str [])),none⟩,⟨some 6,.mov (.const (.bool false)),none⟩]) (.ret)))) }

def F_posthornlaw13_Great : ACFn := { nt := 57,results := [.tmp 2],body := (.seq (.region [⟨some 1,.boxc (.tmp 0),none⟩,⟨some 2,.mov (.const (.bool false)),none⟩]) (.seq (.seq (.region [⟨some 4,.faddr 6 (.tmp 1),none⟩,⟨some 5,.loadc false 1 (.tmp 4),none⟩,
 ⟨some 6,.len false (.tmp 5),none⟩,⟨some 7,.bin .gtr .no (.tmp 6) (.const (.int .i64 60)),none⟩,⟨some 8,.mov (.tmp 7),none⟩,⟨some 9,.faddr 0 (.tmp 1),some (8,false)⟩,⟨some 10,.loadc false 1 (.tmp 9),some (8,false)⟩,
 ⟨some 11,.len true (.tmp 10),some (8,false)⟩,⟨some 12,.faddr 1 (.tmp 1),some (8,false)⟩,⟨some 13,.loadc false 1 (.tmp 12),some (8,false)⟩,⟨some 14,.len true (.tmp 13),some (8,false)⟩,⟨some 15,.bin .add .no (.tmp 11) (.tmp 14),some (8,false)⟩,
 ⟨some 16,.bin .gtr .no (.tmp 15) (.const (.int .i64 1000)),some (8,false)⟩,⟨some 17,.pick (.tmp 8) (.const (.bool true)) (.tmp 16),none⟩,⟨some 18,.mov (.tmp 17),none⟩,⟨some 19,.faddr 5 (.tmp 1),some (18,false)⟩,
 ⟨some 20,.loadc false 1 (.tmp 19),some (18,false)⟩,⟨some 21,.len true (.tmp 20),some (18,false)⟩,⟨some 22,.bin .gtr .no (.tmp 21) (.const (.int .i64 1000)),some (18,false)⟩,⟨some 23,.pick (.tmp 18) (.const (.bool true)) (.tmp 22),none⟩,
 ⟨some 24,.mov (.tmp 23),none⟩,⟨some 25,.faddr 9 (.tmp 1),some (24,false)⟩,⟨some 26,.loadc false 1 (.tmp 25),some (24,false)⟩,⟨some 27,.len true (.tmp 26),some (24,false)⟩,⟨some 28,.faddr 10 (.tmp 1),some (24,false)⟩,
 ⟨some 29,.loadc false 1 (.tmp 28),some (24,false)⟩,⟨some 30,.len true (.tmp 29),some (24,false)⟩,⟨some 31,.bin .add .no (.tmp 27) (.tmp 30),some (24,false)⟩,⟨some 32,.bin .gtr .no (.tmp 31) (.const (.int .i64 4000)),some (24,false)⟩,
 ⟨some 33,.pick (.tmp 24) (.const (.bool true)) (.tmp 32),none⟩]) (.cond (.tmp 33) (.seq (.region [⟨some 2,.mov (.const (.bool true)),none⟩]) (.ret)) (.skip))) (.seq (.seq (.region [⟨some 3,.mov (.const (.int .i64 0)),none⟩]) (.block 0 (.loop (.seq (.seq (.region [⟨some 34,.mov (.tmp 3),none⟩,
 ⟨some 35,.faddr 6 (.tmp 1),none⟩,⟨some 36,.loadc false 1 (.tmp 35),none⟩,⟨some 37,.len false (.tmp 36),none⟩,⟨some 38,.bin .lss .no (.tmp 34) (.tmp 37),none⟩]) (.cond (.tmp 38) (.skip) (.exit 0))) (.seq (.block 1 (.seq (.region [⟨some 41,.faddr 6 (.tmp 1),none⟩,
 ⟨some 42,.loadc false 1 (.tmp 41),none⟩,⟨some 43,.mov (.tmp 3),none⟩,⟨some 44,.iaddr 2 (.tmp 42) (.tmp 43),none⟩,⟨some 45,.faddr 0 (.tmp 44),none⟩,⟨some 46,.load false 1 (.tmp 45),none⟩,⟨some 47,.len true (.tmp 46),none⟩,
 ⟨some 48,.faddr 6 (.tmp 1),none⟩,⟨some 49,.loadc false 1 (.tmp 48),none⟩,⟨some 50,.mov (.tmp 3),none⟩,⟨some 51,.iaddr 2 (.tmp 49) (.tmp 50),none⟩,⟨some 52,.faddr 1 (.tmp 51),none⟩,⟨some 53,.load false 1 (.tmp 52),none⟩,
 ⟨some 54,.len true (.tmp 53),none⟩,⟨some 55,.bin .add .no (.tmp 47) (.tmp 54),none⟩,⟨some 56,.bin .gtr .no (.tmp 55) (.const (.int .i64 600)),none⟩]) (.cond (.tmp 56) (.seq (.region [⟨some 2,.mov (.const (.bool true)),none⟩]) (.ret)) (.skip)))) (.region [⟨some 39,.mov (.tmp 3),none⟩,
 ⟨some 40,.bin .add .no (.tmp 39) (.const (.int .i64 1)),none⟩,⟨some 3,.mov (.tmp 40),none⟩])))))) (.seq (.region [⟨some 2,.mov (.const (.bool false)),none⟩]) (.ret))))) }

def F_posthornlaw14_alive : ACFn := { nt := 37,results := [.tmp 0],body := (.seq (.region [⟨some 0,.mov (.const (.bool false)),none⟩]) (.seq (.region [⟨some 4,.call (.fn 192) [],none⟩,⟨some 1,.alloc [.str [],.str [],.int .i64 0,.int .i64 0,.int .i64 0,.str [],.nils,.int .i64 0,.int .i64 0,.str [],.str []],none⟩,
 ⟨none,.store 11 (.tmp 1) (.tmp 4),none⟩]) (.seq (.region [⟨some 6,.load true 11 (.tmp 1),none⟩,⟨some 7,.call (.fn 185) [(.tmp 6)],none⟩,⟨some 5,.mov (.tmp 7),none⟩,⟨some 8,.ext 0 (.tmp 5),none⟩,⟨some 9,.ext 1 (.tmp 5),none⟩,
 ⟨some 2,.mov (.tmp 8),none⟩,⟨some 3,.mov (.tmp 9),none⟩]) (.seq (.region [⟨some 10,.faddr 0 (.tmp 1),none⟩,⟨none,.store 1 (.tmp 10) (.const (.str [82,69,80,76,89])),none⟩,⟨some 11,.faddr 6 (.tmp 1),none⟩,
 ⟨none,.store 1 (.tmp 11) (.const (.nils)),none⟩]) (.seq (.region [⟨some 12,.mov (.tmp 2),none⟩,⟨some 13,.bin .eql .no (.tmp 12) (.const (.str [111,64,120])),none⟩,⟨some 14,.mov (.tmp 13),none⟩,⟨some 15,.mov (.tmp 3),some (14,true)⟩,
 ⟨some 16,.bin .eql .no (.tmp 15) (.const (.int .i64 0)),some (14,true)⟩,⟨some 17,.pick (.tmp 14) (.tmp 16) (.const (.bool false)),none⟩,⟨some 18,.mov (.tmp 17),none⟩,⟨some 19,.load true 11 (.tmp 1),some (18,true)⟩,
 ⟨some 20,.call (.fn 178) [(.tmp 19)],some (18,true)⟩,⟨some 21,.bin .eql .no (.tmp 20) (.const (.int .i64 131)),some (18,true)⟩,⟨some 22,.pick (.tmp 18) (.tmp 21) (.const (.bool false)),none⟩,⟨some 23,.mov (.tmp 22),none⟩,
 ⟨some 24,.build [.int .i64 0,.int .i64 0] [(0,1,(.const (.int .i64 1)))],some (23,true)⟩,⟨some 25,.build [.int .i64 0,.int .i64 0] [(1,1,(.const (.int .i64 9)))],some (23,true)⟩,⟨some 26,.call (.fn 182) [(.tmp 24),(.tmp 25)],some (23,true)⟩,
 ⟨some 27,.pick (.tmp 23) (.tmp 26) (.const (.bool false)),none⟩,⟨some 28,.mov (.tmp 27),none⟩,⟨some 29,.call (.fn 180) [(.const (.str [82,69,80,76,89]))],some (28,true)⟩,⟨some 30,.bin .eql .no (.tmp 29) (.const (.int .i64 2)),some (28,true)⟩,
 ⟨some 31,.pick (.tmp 28) (.tmp 30) (.const (.bool false)),none⟩,⟨some 32,.mov (.tmp 31),none⟩,⟨some 33,.call (.fn 176) [],some (32,true)⟩,⟨some 34,.len false (.tmp 33),some (32,true)⟩,⟨some 35,.bin .eql .no (.tmp 34) (.const (.int .i64 8)),some (32,true)⟩,
 ⟨some 36,.pick (.tmp 32) (.tmp 35) (.const (.bool false)),none⟩,⟨some 0,.mov (.tmp 36),none⟩]) (.ret)))))) }

def F_rules_Methods : ACFn := { nt := 2,results := [.tmp 0],body := (.seq (.region [⟨some 0,.mov (.const (.nils)),none⟩]) (.seq (.region [⟨some 1,.lit 1 (.str []) 8 [(0,(.const (.str [65,68,68]))),(1,(.const (.str [67,65,78,67,69,76]))),(2,(.const (.str [67,79,85,78,84,69,82]))),(3,(.const (.str [68,69,67,76,73,78,69,67,79,85,78,84,69,82]))),(4,(.const (.str [80,85,66,76,73,83,72]))),(5,(.const (.str [82,69,70,82,69,83,72]))),(6,(.const (.str [82,69,80,76,89]))),(7,(.const (.str [82,69,81,85,69,83,84])))],none⟩,
 ⟨some 0,.mov (.tmp 1),none⟩]) (.ret))) }

def F_rules_Check : ACFn := { nt := 72,results := [.tmp 2],body := (.seq (.region [⟨some 1,.boxc (.tmp 0),none⟩,⟨some 2,.mov (.const (.int .i64 0)),none⟩]) (.seq (.region [⟨some 5,.faddr 0 (.tmp 1),none⟩,⟨some 6,.loadc false 1 (.tmp 5),none⟩,
 ⟨some 7,.callp (.fn 193) [(.tmp 6)],none⟩,⟨some 8,.faddr 6 (.tmp 1),none⟩,⟨some 9,.loadc false 1 (.tmp 8),none⟩,⟨some 10,.len false (.tmp 9),none⟩,⟨some 3,.alloc [.int .i64 0,.int .i64 0,.bool false,.bool false,.bool false],none⟩,
 ⟨none,.store 5 (.tmp 3) (.tmp 7),none⟩,⟨some 4,.mov (.tmp 10),none⟩]) (.seq (.block 0 (.seq (.region [⟨some 12,.loadc true 11 (.tmp 1),none⟩,⟨some 13,.call (.fn 194) [(.tmp 12)],none⟩,⟨some 14,.un .not (.tmp 13),none⟩,
 ⟨some 11,.mov (.tmp 14),none⟩]) (.cond (.tmp 11) (.seq (.region [⟨some 2,.mov (.const (.int .i64 120)),none⟩]) (.ret)) (.seq (.region [⟨some 16,.faddr 0 (.tmp 1),none⟩,⟨some 17,.loadc false 1 (.tmp 16),none⟩,
 ⟨some 18,.call (.fn 180) [(.tmp 17)],none⟩,⟨some 19,.bin .eql .no (.tmp 18) (.const (.int .i64 0)),none⟩,⟨some 15,.mov (.tmp 19),none⟩]) (.cond (.tmp 15) (.seq (.region [⟨some 2,.mov (.const (.int .i64 130)),none⟩]) (.ret)) (.seq (.region [⟨some 21,.faddr 5 (.tmp 1),none⟩,
 ⟨some 22,.loadc false 1 (.tmp 21),none⟩,⟨some 23,.bin .eql .no (.tmp 22) (.const (.str [])),none⟩,⟨some 24,.mov (.tmp 23),none⟩,⟨some 25,.mov (.tmp 4),some (24,false)⟩,⟨some 26,.faddr 0 (.tmp 3),some (24,false)⟩,
 ⟨some 27,.load false 1 (.tmp 26),some (24,false)⟩,⟨some 28,.bin .lss .no (.tmp 25) (.tmp 27),some (24,false)⟩,⟨some 29,.pick (.tmp 24) (.const (.bool true)) (.tmp 28),none⟩,⟨some 20,.mov (.tmp 29),none⟩]) (.cond (.tmp 20) (.seq (.region [⟨some 2,.mov (.const (.int .i64 131)),none⟩]) (.ret)) (.seq (.region [⟨some 31,.mov (.tmp 4),none⟩,
 ⟨some 32,.faddr 1 (.tmp 3),none⟩,⟨some 33,.load false 1 (.tmp 32),none⟩,⟨some 34,.bin .gtr .no (.tmp 31) (.tmp 33),none⟩,⟨some 30,.mov (.tmp 34),none⟩]) (.cond (.tmp 30) (.seq (.region [⟨some 2,.mov (.const (.int .i64 132)),none⟩]) (.ret)) (.seq (.region [⟨some 36,.faddr 0 (.tmp 1),none⟩,
 ⟨some 37,.loadc false 1 (.tmp 36),none⟩,⟨some 38,.bin .eql .no (.tmp 37) (.const (.str [82,69,80,76,89])),none⟩,⟨some 39,.mov (.tmp 38),none⟩,⟨some 40,.faddr 6 (.tmp 1),some (39,true)⟩,⟨some 41,.loadc false 1 (.tmp 40),some (39,true)⟩,
 ⟨some 42,.iaddr 2 (.tmp 41) (.const (.int .i64 0)),some (39,true)⟩,⟨some 43,.faddr 1 (.tmp 42),some (39,true)⟩,⟨some 44,.load false 1 (.tmp 43),some (39,true)⟩,⟨some 45,.bin .eql .no (.tmp 44) (.const (.str [78,69,69,68,83,45,65,67,84,73,79,78])),some (39,true)⟩,
 ⟨some 46,.pick (.tmp 39) (.tmp 45) (.const (.bool false)),none⟩,⟨some 35,.mov (.tmp 46),none⟩]) (.cond (.tmp 35) (.seq (.region [⟨some 2,.mov (.const (.int .i64 3)),none⟩]) (.ret)) (.seq (.region [⟨some 48,.faddr 2 (.tmp 3),none⟩,
 ⟨some 49,.load false 1 (.tmp 48),none⟩,⟨some 50,.mov (.tmp 49),none⟩,⟨some 51,.faddr 4 (.tmp 1),some (50,true)⟩,⟨some 52,.loadc false 1 (.tmp 51),some (50,true)⟩,⟨some 53,.bin .lss .no (.tmp 52) (.const (.int .i64 0)),some (50,true)⟩,
 ⟨some 54,.pick (.tmp 50) (.tmp 53) (.const (.bool false)),none⟩,⟨some 55,.mov (.tmp 54),none⟩,⟨some 56,.faddr 3 (.tmp 3),some (55,false)⟩,⟨some 57,.load false 1 (.tmp 56),some (55,false)⟩,⟨some 58,.mov (.tmp 57),some (55,false)⟩,
 ⟨some 59,.faddr 7 (.tmp 1),some (58,true)⟩,⟨some 60,.loadc false 1 (.tmp 59),some (58,true)⟩,⟨some 61,.bin .lss .no (.tmp 60) (.const (.int .i64 0)),some (58,true)⟩,⟨some 62,.pick (.tmp 58) (.tmp 61) (.const (.bool false)),some (55,false)⟩,
 ⟨some 63,.pick (.tmp 55) (.const (.bool true)) (.tmp 62),none⟩,⟨some 47,.mov (.tmp 63),none⟩]) (.cond (.tmp 47) (.seq (.region [⟨some 2,.mov (.const (.int .i64 131)),none⟩]) (.ret)) (.seq (.region [⟨some 65,.faddr 4 (.tmp 3),none⟩,
 ⟨some 66,.load false 1 (.tmp 65),none⟩,⟨some 67,.mov (.tmp 66),none⟩,⟨some 68,.faddr 7 (.tmp 1),some (67,true)⟩,⟨some 69,.loadc false 1 (.tmp 68),some (67,true)⟩,⟨some 70,.bin .geq .no (.tmp 69) (.const (.int .i64 0)),some (67,true)⟩,
 ⟨some 71,.pick (.tmp 67) (.tmp 70) (.const (.bool false)),none⟩,⟨some 64,.mov (.tmp 71),none⟩]) (.cond (.tmp 64) (.seq (.region [⟨some 2,.mov (.const (.int .i64 132)),none⟩]) (.ret)) (.skip)))))))))))))))) (.seq (.region [⟨some 2,.mov (.const (.int .i64 0)),none⟩]) (.ret))))) }

def F_rules_Role : ACFn := { nt := 15,results := [.tmp 2],body := (.seq (.region [⟨some 2,.mov (.const (.int .i64 0)),none⟩]) (.seq (.seq (.region [⟨some 3,.mov (.tmp 0),none⟩]) (.block 0 (.seq (.block 3 (.seq (.block 2 (.block 1 (.seq (.seq (.seq (.seq (.region [⟨some 5,.bin .eql .no (.tmp 3) (.const (.str [80,85,66,76,73,83,72])),none⟩,
 ⟨some 4,.mov (.tmp 5),none⟩]) (.cond (.tmp 4) (.skip) (.region [⟨some 6,.bin .eql .no (.tmp 3) (.const (.str [82,69,81,85,69,83,84])),none⟩,⟨some 4,.mov (.tmp 6),none⟩]))) (.cond (.tmp 4) (.exit 1) (.skip))) (.seq (.seq (.seq (.region [⟨some 8,.bin .eql .no (.tmp 3) (.const (.str [65,68,68])),none⟩,
 ⟨some 7,.mov (.tmp 8),none⟩]) (.cond (.tmp 7) (.skip) (.seq (.region [⟨some 9,.bin .eql .no (.tmp 3) (.const (.str [67,65,78,67,69,76])),none⟩,⟨some 7,.mov (.tmp 9),none⟩]) (.cond (.tmp 7) (.skip) (.region [⟨some 10,.bin .eql .no (.tmp 3) (.const (.str [68,69,67,76,73,78,69,67,79,85,78,84,69,82])),none⟩,
 ⟨some 7,.mov (.tmp 10),none⟩]))))) (.cond (.tmp 7) (.exit 2) (.skip))) (.seq (.seq (.region [⟨some 12,.bin .eql .no (.tmp 3) (.const (.str [82,69,80,76,89])),none⟩,⟨some 11,.mov (.tmp 12),none⟩]) (.cond (.tmp 11) (.skip) (.seq (.region [⟨some 13,.bin .eql .no (.tmp 3) (.const (.str [82,69,70,82,69,83,72])),none⟩,
 ⟨some 11,.mov (.tmp 13),none⟩]) (.cond (.tmp 11) (.skip) (.region [⟨some 14,.bin .eql .no (.tmp 3) (.const (.str [67,79,85,78,84,69,82])),none⟩,⟨some 11,.mov (.tmp 14),none⟩]))))) (.cond (.tmp 11) (.exit 3) (.skip))))) (.exit 0)))) (.seq (.seq (.region [⟨some 2,.mov (.const (.int .i64 1)),none⟩]) (.ret)) (.exit 0)))) (.seq (.seq (.region [⟨some 2,.mov (.const (.int .i64 2)),none⟩]) (.ret)) (.exit 0))))) (.seq (.region [⟨some 2,.mov (.const (.int .i64 0)),none⟩]) (.ret)))) }

def F_rules_Newer : ACFn := { nt := 27,results := [.tmp 4],body := (.seq (.region [⟨some 2,.boxc (.tmp 0),none⟩,⟨some 3,.boxc (.tmp 1),none⟩,⟨some 4,.mov (.const (.bool false)),none⟩]) (.seq (.seq (.region [⟨some 5,.loadc true 2 (.tmp 2),none⟩,
 ⟨some 6,.loadc true 2 (.tmp 3),none⟩,⟨some 7,.bin .eql (.struct [.i,.i]) (.tmp 5) (.tmp 6),none⟩]) (.cond (.tmp 7) (.seq (.region [⟨some 4,.mov (.const (.bool false)),none⟩]) (.ret)) (.skip))) (.seq (.region [⟨some 8,.faddr 0 (.tmp 2),none⟩,
 ⟨some 9,.loadc false 1 (.tmp 8),none⟩,⟨some 10,.faddr 0 (.tmp 3),none⟩,⟨some 11,.loadc false 1 (.tmp 10),none⟩,⟨some 12,.bin .gtr .no (.tmp 9) (.tmp 11),none⟩,⟨some 13,.mov (.tmp 12),none⟩,⟨some 14,.faddr 0 (.tmp 2),some (13,false)⟩,
 ⟨some 15,.loadc false 1 (.tmp 14),some (13,false)⟩,⟨some 16,.faddr 0 (.tmp 3),some (13,false)⟩,⟨some 17,.loadc false 1 (.tmp 16),some (13,false)⟩,⟨some 18,.bin .eql .no (.tmp 15) (.tmp 17),some (13,false)⟩,
 ⟨some 19,.mov (.tmp 18),some (13,false)⟩,⟨some 20,.faddr 1 (.tmp 2),some (19,true)⟩,⟨some 21,.loadc false 1 (.tmp 20),some (19,true)⟩,⟨some 22,.faddr 1 (.tmp 3),some (19,true)⟩,⟨some 23,.loadc false 1 (.tmp 22),some (19,true)⟩,
 ⟨some 24,.bin .gtr .no (.tmp 21) (.tmp 23),some (19,true)⟩,⟨some 25,.pick (.tmp 19) (.tmp 24) (.const (.bool false)),some (13,false)⟩,⟨some 26,.pick (.tmp 13) (.const (.bool true)) (.tmp 25),none⟩,⟨some 4,.mov (.tmp 26),none⟩]) (.ret)))) }

def F_rules_Sender : ACFn := { nt := 21,results := [.tmp 2,.tmp 3],body := (.seq (.region [⟨some 1,.boxc (.tmp 0),none⟩,⟨some 2,.mov (.const (.str [])),none⟩,⟨some 3,.mov (.const (.int .i64 0)),none⟩]) (.seq (.seq (.region [⟨some 5,.loadc true 11 (.tmp 1),none⟩,
 ⟨some 6,.call (.fn 178) [(.tmp 5)],none⟩,⟨some 4,.mov (.tmp 6),none⟩]) (.seq (.region [⟨some 7,.mov (.tmp 4),none⟩,⟨some 8,.bin .neq .no (.tmp 7) (.const (.int .i64 0)),none⟩]) (.cond (.tmp 8) (.seq (.region [⟨some 9,.mov (.tmp 4),none⟩,
 ⟨some 2,.mov (.const (.str [])),none⟩,⟨some 3,.mov (.tmp 9),none⟩]) (.ret)) (.skip)))) (.seq (.seq (.region [⟨some 10,.faddr 0 (.tmp 1),none⟩,⟨some 11,.loadc false 1 (.tmp 10),none⟩,⟨some 12,.call (.fn 180) [(.tmp 11)],none⟩,
 ⟨some 13,.bin .eql .no (.tmp 12) (.const (.int .i64 2)),none⟩]) (.cond (.tmp 13) (.seq (.region [⟨some 14,.faddr 6 (.tmp 1),none⟩,⟨some 15,.loadc false 1 (.tmp 14),none⟩,⟨some 16,.iaddr 2 (.tmp 15) (.const (.int .i64 0)),none⟩,
 ⟨some 17,.faddr 0 (.tmp 16),none⟩,⟨some 18,.load false 1 (.tmp 17),none⟩,⟨some 2,.mov (.tmp 18),none⟩,⟨some 3,.mov (.const (.int .i64 0)),none⟩]) (.ret)) (.skip))) (.seq (.region [⟨some 19,.faddr 5 (.tmp 1),none⟩,
 ⟨some 20,.loadc false 1 (.tmp 19),none⟩,⟨some 2,.mov (.tmp 20),none⟩,⟨some 3,.mov (.const (.int .i64 0)),none⟩]) (.ret))))) }

def F_posthornlaw14_RulesOthers : ACFn := { nt := 48,results := [.tmp 4],body := (.seq (.region [⟨some 2,.box (.tmp 0),none⟩,⟨some 4,.mov (.const (.bool false)),none⟩]) (.seq (.seq (.region [⟨some 8,.load true 11 (.tmp 2),none⟩,⟨some 9,.call (.fn 174) [(.tmp 8)],none⟩,
 ⟨some 10,.mov (.tmp 9),none⟩,⟨some 11,.load true 11 (.tmp 2),some (10,false)⟩,⟨some 12,.call (.fn 178) [(.tmp 11)],some (10,false)⟩,⟨some 13,.bin .neq .no (.tmp 12) (.const (.int .i64 0)),some (10,false)⟩,
 ⟨some 14,.pick (.tmp 10) (.const (.bool true)) (.tmp 13),none⟩]) (.cond (.tmp 14) (.seq (.region [⟨some 15,.call (.fn 175) [],none⟩,⟨some 4,.mov (.tmp 15),none⟩]) (.ret)) (.skip))) (.seq (.region [⟨some 16,.call (.fn 176) [],none⟩,
 ⟨some 5,.mov (.tmp 16),none⟩]) (.seq (.seq (.region [⟨some 6,.mov (.const (.int .i64 0)),none⟩]) (.block 0 (.loop (.seq (.seq (.region [⟨some 17,.mov (.tmp 6),none⟩,⟨some 18,.mov (.tmp 5),none⟩,⟨some 19,.len false (.tmp 18),none⟩,
 ⟨some 20,.bin .lss .no (.tmp 17) (.tmp 19),none⟩]) (.cond (.tmp 20) (.skip) (.exit 0))) (.seq (.block 1 (.seq (.region [⟨some 23,.mov (.tmp 5),none⟩,⟨some 24,.mov (.tmp 6),none⟩,⟨some 25,.iaddr 1 (.tmp 23) (.tmp 24),none⟩,
 ⟨some 26,.load false 1 (.tmp 25),none⟩,⟨some 27,.mov (.tmp 1),none⟩,⟨some 28,.bin .eql .no (.tmp 26) (.tmp 27),none⟩]) (.cond (.tmp 28) (.seq (.region [⟨some 29,.call (.fn 175) [],none⟩,⟨some 4,.mov (.tmp 29),none⟩]) (.ret)) (.skip)))) (.region [⟨some 21,.mov (.tmp 6),none⟩,
 ⟨some 22,.bin .add .no (.tmp 21) (.const (.int .i64 1)),none⟩,⟨some 6,.mov (.tmp 22),none⟩])))))) (.seq (.region [⟨some 30,.mov (.tmp 1),none⟩,⟨some 31,.faddr 0 (.tmp 2),none⟩,⟨none,.store 1 (.tmp 31) (.tmp 30),none⟩]) (.seq (.region [⟨some 32,.load true 11 (.tmp 2),none⟩,
 ⟨some 33,.call (.fn 178) [(.tmp 32)],none⟩,⟨some 7,.mov (.tmp 33),none⟩]) (.seq (.region [⟨some 34,.call (.fn 175) [],none⟩,⟨some 35,.mov (.tmp 34),none⟩,⟨some 36,.mov (.tmp 7),some (35,true)⟩,⟨some 37,.bin .eql .no (.tmp 36) (.const (.int .i64 130)),some (35,true)⟩,
 ⟨some 38,.mov (.tmp 37),some (35,true)⟩,⟨some 39,.mov (.tmp 7),some (38,false)⟩,⟨some 40,.bin .eql .no (.tmp 39) (.const (.int .i64 120)),some (38,false)⟩,⟨some 41,.pick (.tmp 38) (.const (.bool true)) (.tmp 40),some (35,true)⟩,
 ⟨some 42,.pick (.tmp 35) (.tmp 41) (.const (.bool false)),none⟩,⟨some 43,.mov (.tmp 42),none⟩,⟨some 44,.mov (.tmp 1),some (43,true)⟩,⟨some 45,.call (.fn 180) [(.tmp 44)],some (43,true)⟩,⟨some 46,.bin .eql .no (.tmp 45) (.const (.int .i64 0)),some (43,true)⟩,
 ⟨some 47,.pick (.tmp 43) (.tmp 46) (.const (.bool false)),none⟩,⟨some 4,.mov (.tmp 47),none⟩]) (.ret)))))))) }

def F_posthornlaw13_Message : ACFn := { nt := 4,results := [.cell 0 true 11],body := (.seq (.region [⟨some 0,.alloc [.str [],.str [],.int .i64 0,.int .i64 0,.int .i64 0,.str [],.nils,.int .i64 0,.int .i64 0,.str [],.str []],none⟩]) (.seq (.region [⟨some 1,.build [.str [],.str []] [(0,1,(.const (.str [97,64,120]))),(1,1,(.const (.str [78,69,69,68,83,45,65,67,84,73,79,78])))],none⟩,
 ⟨some 2,.lit 2 (.agg [.str [],.str []]) 1 [(0,(.tmp 1))],none⟩,⟨some 3,.build [.str [],.str [],.int .i64 0,.int .i64 0,.int .i64 0,.str [],.nils,.int .i64 0,.int .i64 0,.str [],.str []] [(0,1,(.const (.str [82,69,81,85,69,83,84]))),(1,1,(.const (.str [117]))),(4,1,(.const (.int .i64 (-1)))),(5,1,(.const (.str [111,64,120]))),(6,1,(.tmp 2)),(7,1,(.const (.int .i64 0))),(8,1,(.const (.int .i64 60))),(9,1,(.const (.str [115])))],none⟩,
 ⟨none,.store 11 (.tmp 0) (.tmp 3),none⟩]) (.ret))) }

def F_rules_needs : ACFn := { nt := 23,results := [.cell 2 true 5],body := (.seq (.region [⟨some 2,.alloc [.int .i64 0,.int .i64 0,.bool false,.bool false,.bool false],none⟩]) (.seq (.seq (.region [⟨some 3,.mov (.tmp 0),none⟩]) (.block 0 (.seq (.region [⟨some 5,.bin .eql .no (.tmp 3) (.const (.str [80,85,66,76,73,83,72])),none⟩,
 ⟨some 4,.mov (.tmp 5),none⟩]) (.cond (.tmp 4) (.seq (.region [⟨some 6,.build [.int .i64 0,.int .i64 0,.bool false,.bool false,.bool false] [(3,1,(.const (.bool true)))],none⟩,⟨none,.store 5 (.tmp 2) (.tmp 6),none⟩]) (.ret)) (.seq (.region [⟨some 8,.bin .eql .no (.tmp 3) (.const (.str [82,69,81,85,69,83,84])),none⟩,
 ⟨some 7,.mov (.tmp 8),none⟩]) (.cond (.tmp 7) (.seq (.region [⟨some 9,.build [.int .i64 0,.int .i64 0,.bool false,.bool false,.bool false] [(0,1,(.const (.int .i64 1))),(1,1,(.const (.int .i64 32))),(3,1,(.const (.bool true)))],none⟩,
 ⟨none,.store 5 (.tmp 2) (.tmp 9),none⟩]) (.ret)) (.seq (.region [⟨some 11,.bin .eql .no (.tmp 3) (.const (.str [65,68,68])),none⟩,⟨some 10,.mov (.tmp 11),none⟩]) (.cond (.tmp 10) (.seq (.region [⟨some 12,.build [.int .i64 0,.int .i64 0,.bool false,.bool false,.bool false] [(0,1,(.const (.int .i64 1))),(1,1,(.const (.int .i64 32))),(2,1,(.const (.bool true))),(3,1,(.const (.bool true)))],none⟩,
 ⟨none,.store 5 (.tmp 2) (.tmp 12),none⟩]) (.ret)) (.seq (.region [⟨some 14,.bin .eql .no (.tmp 3) (.const (.str [67,65,78,67,69,76])),none⟩,⟨some 13,.mov (.tmp 14),none⟩]) (.cond (.tmp 13) (.seq (.region [⟨some 15,.build [.int .i64 0,.int .i64 0,.bool false,.bool false,.bool false] [(1,1,(.const (.int .i64 32)))],none⟩,
 ⟨none,.store 5 (.tmp 2) (.tmp 15),none⟩]) (.ret)) (.seq (.region [⟨some 17,.bin .eql .no (.tmp 3) (.const (.str [82,69,70,82,69,83,72])),none⟩,⟨some 16,.mov (.tmp 17),none⟩]) (.cond (.tmp 16) (.seq (.region [⟨some 18,.build [.int .i64 0,.int .i64 0,.bool false,.bool false,.bool false] [(0,1,(.const (.int .i64 1))),(1,1,(.const (.int .i64 1))),(4,1,(.const (.bool true)))],none⟩,
 ⟨none,.store 5 (.tmp 2) (.tmp 18),none⟩]) (.ret)) (.seq (.region [⟨some 20,.bin .eql .no (.tmp 3) (.const (.str [67,79,85,78,84,69,82])),none⟩,⟨some 19,.mov (.tmp 20),none⟩]) (.cond (.tmp 19) (.seq (.region [⟨some 21,.build [.int .i64 0,.int .i64 0,.bool false,.bool false,.bool false] [(0,1,(.const (.int .i64 1))),(1,1,(.const (.int .i64 1))),(3,1,(.const (.bool true)))],none⟩,
 ⟨none,.store 5 (.tmp 2) (.tmp 21),none⟩]) (.ret)) (.skip))))))))))))))) (.seq (.region [⟨some 22,.build [.int .i64 0,.int .i64 0,.bool false,.bool false,.bool false] [(0,1,(.const (.int .i64 1))),(1,1,(.const (.int .i64 1)))],none⟩,
 ⟨none,.store 5 (.tmp 2) (.tmp 22),none⟩]) (.ret)))) }

def F_event_Right : ACFn := { nt := 87,results := [.tmp 2],body := (.seq (.region [⟨some 1,.boxc (.tmp 0),none⟩,⟨some 2,.mov (.const (.bool false)),none⟩]) (.seq (.region [⟨some 5,.faddr 3 (.tmp 1),none⟩,⟨some 6,.loadc false 1 (.tmp 5),none⟩,
 ⟨some 7,.call (.fn 199) [(.tmp 6)],none⟩,⟨some 8,.mov (.tmp 7),none⟩,⟨some 9,.faddr 4 (.tmp 1),some (8,true)⟩,⟨some 10,.loadc false 1 (.tmp 9),some (8,true)⟩,⟨some 11,.call (.fn 200) [(.tmp 10)],some (8,true)⟩,
 ⟨some 12,.pick (.tmp 8) (.tmp 11) (.const (.bool false)),none⟩,⟨some 13,.mov (.tmp 12),none⟩,⟨some 14,.faddr 7 (.tmp 1),some (13,true)⟩,⟨some 15,.loadc false 1 (.tmp 14),some (13,true)⟩,⟨some 16,.call (.fn 200) [(.tmp 15)],some (13,true)⟩,
 ⟨some 17,.pick (.tmp 13) (.tmp 16) (.const (.bool false)),none⟩,⟨some 18,.mov (.tmp 17),none⟩,⟨some 19,.faddr 8 (.tmp 1),some (18,true)⟩,⟨some 20,.loadc false 1 (.tmp 19),some (18,true)⟩,⟨some 21,.call (.fn 200) [(.tmp 20)],some (18,true)⟩,
 ⟨some 22,.pick (.tmp 18) (.tmp 21) (.const (.bool false)),none⟩,⟨some 3,.mov (.tmp 22),none⟩]) (.seq (.region [⟨some 23,.faddr 8 (.tmp 1),none⟩,⟨some 24,.loadc false 1 (.tmp 23),none⟩,⟨some 25,.bin .eql .no (.tmp 24) (.const (.int .i64 (-1))),none⟩,
 ⟨some 26,.mov (.tmp 25),none⟩,⟨some 27,.faddr 7 (.tmp 1),some (26,false)⟩,⟨some 28,.loadc false 1 (.tmp 27),some (26,false)⟩,⟨some 29,.bin .neq .no (.tmp 28) (.const (.int .i64 (-1))),some (26,false)⟩,
 ⟨some 30,.mov (.tmp 29),some (26,false)⟩,⟨some 31,.faddr 8 (.tmp 1),some (30,true)⟩,⟨some 32,.loadc false 1 (.tmp 31),some (30,true)⟩,⟨some 33,.faddr 7 (.tmp 1),some (30,true)⟩,⟨some 34,.loadc false 1 (.tmp 33),some (30,true)⟩,
 ⟨some 35,.bin .gtr .no (.tmp 32) (.tmp 34),some (30,true)⟩,⟨some 36,.pick (.tmp 30) (.tmp 35) (.const (.bool false)),some (26,false)⟩,⟨some 37,.pick (.tmp 26) (.const (.bool true)) (.tmp 36),none⟩,⟨some 4,.mov (.tmp 37),none⟩]) (.seq (.region [⟨some 38,.faddr 0 (.tmp 1),none⟩,
 ⟨some 39,.loadc false 1 (.tmp 38),none⟩,⟨some 40,.call (.fn 201) [(.tmp 39)],none⟩,⟨some 41,.mov (.tmp 40),none⟩,⟨some 42,.faddr 1 (.tmp 1),some (41,true)⟩,⟨some 43,.loadc false 1 (.tmp 42),some (41,true)⟩,
 ⟨some 44,.call (.fn 202) [(.tmp 43)],some (41,true)⟩,⟨some 45,.pick (.tmp 41) (.tmp 44) (.const (.bool false)),none⟩,⟨some 46,.mov (.tmp 45),none⟩,⟨some 47,.faddr 2 (.tmp 1),some (46,true)⟩,⟨some 48,.loadc false 1 (.tmp 47),some (46,true)⟩,
 ⟨some 49,.bin .geq .no (.tmp 48) (.const (.int .i64 0)),some (46,true)⟩,⟨some 50,.pick (.tmp 46) (.tmp 49) (.const (.bool false)),none⟩,⟨some 51,.mov (.tmp 50),none⟩,⟨some 52,.faddr 2 (.tmp 1),some (51,true)⟩,
 ⟨some 53,.loadc false 1 (.tmp 52),some (51,true)⟩,⟨some 54,.bin .leq .no (.tmp 53) (.const (.int .i64 2147483647)),some (51,true)⟩,⟨some 55,.pick (.tmp 51) (.tmp 54) (.const (.bool false)),none⟩,⟨some 56,.mov (.tmp 55),none⟩,
 ⟨some 57,.mov (.tmp 3),some (56,true)⟩,⟨some 58,.pick (.tmp 56) (.tmp 57) (.const (.bool false)),none⟩,⟨some 59,.mov (.tmp 58),none⟩,⟨some 60,.mov (.tmp 4),some (59,true)⟩,⟨some 61,.pick (.tmp 59) (.tmp 60) (.const (.bool false)),none⟩,
 ⟨some 62,.mov (.tmp 61),none⟩,⟨some 63,.faddr 5 (.tmp 1),some (62,true)⟩,⟨some 64,.loadc false 1 (.tmp 63),some (62,true)⟩,⟨some 65,.bin .eql .no (.tmp 64) (.const (.str [])),some (62,true)⟩,⟨some 66,.mov (.tmp 65),some (62,true)⟩,
 ⟨some 67,.faddr 5 (.tmp 1),some (66,false)⟩,⟨some 68,.loadc false 1 (.tmp 67),some (66,false)⟩,⟨some 69,.call (.fn 203) [(.tmp 68)],some (66,false)⟩,⟨some 70,.pick (.tmp 66) (.const (.bool true)) (.tmp 69),some (62,true)⟩,
 ⟨some 71,.pick (.tmp 62) (.tmp 70) (.const (.bool false)),none⟩,⟨some 72,.mov (.tmp 71),none⟩,⟨some 73,.faddr 6 (.tmp 1),some (72,true)⟩,⟨some 74,.loadc false 1 (.tmp 73),some (72,true)⟩,⟨some 75,.call (.fn 204) [(.tmp 74)],some (72,true)⟩,
 ⟨some 76,.pick (.tmp 72) (.tmp 75) (.const (.bool false)),none⟩,⟨some 77,.mov (.tmp 76),none⟩,⟨some 78,.faddr 9 (.tmp 1),some (77,true)⟩,⟨some 79,.loadc false 1 (.tmp 78),some (77,true)⟩,⟨some 80,.call (.fn 205) [(.tmp 79)],some (77,true)⟩,
 ⟨some 81,.pick (.tmp 77) (.tmp 80) (.const (.bool false)),none⟩,⟨some 82,.mov (.tmp 81),none⟩,⟨some 83,.faddr 10 (.tmp 1),some (82,true)⟩,⟨some 84,.loadc false 1 (.tmp 83),some (82,true)⟩,⟨some 85,.call (.fn 205) [(.tmp 84)],some (82,true)⟩,
 ⟨some 86,.pick (.tmp 82) (.tmp 85) (.const (.bool false)),none⟩,⟨some 2,.mov (.tmp 86),none⟩]) (.ret))))) }

def F_when_Right : ACFn := { nt := 9,results := [.tmp 2],body := (.seq (.region [⟨some 2,.mov (.const (.bool false)),none⟩]) (.seq (.region [⟨some 3,.mov (.tmp 0),none⟩,⟨some 4,.bin .geq .no (.tmp 3) (.const (.int .i64 0)),none⟩,
 ⟨some 5,.mov (.tmp 4),none⟩,⟨some 6,.mov (.tmp 0),some (5,true)⟩,⟨some 7,.bin .leq .no (.tmp 6) (.const (.int .i64 253402300799)),some (5,true)⟩,⟨some 8,.pick (.tmp 5) (.tmp 7) (.const (.bool false)),none⟩,
 ⟨some 2,.mov (.tmp 8),none⟩]) (.ret))) }

def F_event_optional : ACFn := { nt := 9,results := [.tmp 2],body := (.seq (.region [⟨some 2,.mov (.const (.bool false)),none⟩]) (.seq (.region [⟨some 3,.mov (.tmp 0),none⟩,⟨some 4,.bin .eql .no (.tmp 3) (.const (.int .i64 (-1))),none⟩,
 ⟨some 5,.mov (.tmp 4),none⟩,⟨some 6,.mov (.tmp 0),some (5,false)⟩,⟨some 7,.call (.fn 199) [(.tmp 6)],some (5,false)⟩,⟨some 8,.pick (.tmp 5) (.const (.bool true)) (.tmp 7),none⟩,⟨some 2,.mov (.tmp 8),none⟩]) (.ret))) }

def F_event_isMethod : ACFn := { nt := 27,results := [.tmp 2],body := (.seq (.region [⟨some 2,.mov (.const (.bool false)),none⟩]) (.seq (.seq (.region [⟨some 4,.mov (.tmp 0),none⟩,⟨some 5,.len true (.tmp 4),none⟩,⟨some 6,.mov (.const (.int .i64 0)),none⟩]) (.block 0 (.loop (.seq (.region [⟨some 7,.bin .lss .no (.tmp 6) (.tmp 5),none⟩]) (.seq (.cond (.tmp 7) (.skip) (.exit 0)) (.seq (.block 1 (.seq (.region [⟨some 8,.mov (.tmp 6),none⟩,
 ⟨some 3,.mov (.tmp 8),none⟩]) (.seq (.region [⟨some 9,.mov (.tmp 0),none⟩,⟨some 10,.mov (.tmp 3),none⟩,⟨some 11,.idxS (.tmp 9) (.tmp 10),none⟩,⟨some 12,.bin .lss .no (.tmp 11) (.const (.b8 65)),none⟩,⟨some 13,.mov (.tmp 12),none⟩,
 ⟨some 14,.mov (.tmp 0),some (13,false)⟩,⟨some 15,.mov (.tmp 3),some (13,false)⟩,⟨some 16,.idxS (.tmp 14) (.tmp 15),some (13,false)⟩,⟨some 17,.bin .gtr .no (.tmp 16) (.const (.b8 90)),some (13,false)⟩,⟨some 18,.pick (.tmp 13) (.const (.bool true)) (.tmp 17),none⟩]) (.cond (.tmp 18) (.seq (.region [⟨some 2,.mov (.const (.bool false)),none⟩]) (.ret)) (.skip))))) (.region [⟨some 19,.bin .add .no (.tmp 6) (.const (.int .i64 1)),none⟩,
 ⟨some 6,.mov (.tmp 19),none⟩]))))))) (.seq (.region [⟨some 20,.mov (.tmp 0),none⟩,⟨some 21,.bin .neq .no (.tmp 20) (.const (.str [])),none⟩,⟨some 22,.mov (.tmp 21),none⟩,⟨some 23,.mov (.tmp 0),some (22,true)⟩,
 ⟨some 24,.len true (.tmp 23),some (22,true)⟩,⟨some 25,.bin .leq .no (.tmp 24) (.const (.int .i64 32)),some (22,true)⟩,⟨some 26,.pick (.tmp 22) (.tmp 25) (.const (.bool false)),none⟩,⟨some 2,.mov (.tmp 26),none⟩]) (.ret)))) }

def F_event_isUID : ACFn := { nt := 45,results := [.tmp 2],body := (.seq (.region [⟨some 2,.mov (.const (.bool false)),none⟩]) (.seq (.seq (.region [⟨some 4,.mov (.tmp 0),none⟩,⟨some 5,.len true (.tmp 4),none⟩,⟨some 6,.mov (.const (.int .i64 0)),none⟩]) (.block 0 (.loop (.seq (.region [⟨some 7,.bin .lss .no (.tmp 6) (.tmp 5),none⟩]) (.seq (.cond (.tmp 7) (.skip) (.exit 0)) (.seq (.block 1 (.seq (.region [⟨some 8,.mov (.tmp 6),none⟩,
 ⟨some 3,.mov (.tmp 8),none⟩]) (.seq (.region [⟨some 9,.mov (.tmp 0),none⟩,⟨some 10,.mov (.tmp 3),none⟩,⟨some 11,.idxS (.tmp 9) (.tmp 10),none⟩,⟨some 12,.bin .lss .no (.tmp 11) (.const (.b8 33)),none⟩,⟨some 13,.mov (.tmp 12),none⟩,
 ⟨some 14,.mov (.tmp 0),some (13,false)⟩,⟨some 15,.mov (.tmp 3),some (13,false)⟩,⟨some 16,.idxS (.tmp 14) (.tmp 15),some (13,false)⟩,⟨some 17,.bin .gtr .no (.tmp 16) (.const (.b8 126)),some (13,false)⟩,
 ⟨some 18,.pick (.tmp 13) (.const (.bool true)) (.tmp 17),none⟩,⟨some 19,.mov (.tmp 18),none⟩,⟨some 20,.mov (.tmp 0),some (19,false)⟩,⟨some 21,.mov (.tmp 3),some (19,false)⟩,⟨some 22,.idxS (.tmp 20) (.tmp 21),some (19,false)⟩,
 ⟨some 23,.bin .eql .no (.tmp 22) (.const (.b8 92)),some (19,false)⟩,⟨some 24,.pick (.tmp 19) (.const (.bool true)) (.tmp 23),none⟩,⟨some 25,.mov (.tmp 24),none⟩,⟨some 26,.mov (.tmp 0),some (25,false)⟩,
 ⟨some 27,.mov (.tmp 3),some (25,false)⟩,⟨some 28,.idxS (.tmp 26) (.tmp 27),some (25,false)⟩,⟨some 29,.bin .eql .no (.tmp 28) (.const (.b8 59)),some (25,false)⟩,⟨some 30,.pick (.tmp 25) (.const (.bool true)) (.tmp 29),none⟩,
 ⟨some 31,.mov (.tmp 30),none⟩,⟨some 32,.mov (.tmp 0),some (31,false)⟩,⟨some 33,.mov (.tmp 3),some (31,false)⟩,⟨some 34,.idxS (.tmp 32) (.tmp 33),some (31,false)⟩,⟨some 35,.bin .eql .no (.tmp 34) (.const (.b8 44)),some (31,false)⟩,
 ⟨some 36,.pick (.tmp 31) (.const (.bool true)) (.tmp 35),none⟩]) (.cond (.tmp 36) (.seq (.region [⟨some 2,.mov (.const (.bool false)),none⟩]) (.ret)) (.skip))))) (.region [⟨some 37,.bin .add .no (.tmp 6) (.const (.int .i64 1)),none⟩,
 ⟨some 6,.mov (.tmp 37),none⟩]))))))) (.seq (.region [⟨some 38,.mov (.tmp 0),none⟩,⟨some 39,.bin .neq .no (.tmp 38) (.const (.str [])),none⟩,⟨some 40,.mov (.tmp 39),none⟩,⟨some 41,.mov (.tmp 0),some (40,true)⟩,
 ⟨some 42,.len true (.tmp 41),some (40,true)⟩,⟨some 43,.bin .leq .no (.tmp 42) (.const (.int .i64 200)),some (40,true)⟩,⟨some 44,.pick (.tmp 40) (.tmp 43) (.const (.bool false)),none⟩,⟨some 2,.mov (.tmp 44),none⟩]) (.ret)))) }

def F_event_isPerson : ACFn := { nt := 18,results := [.tmp 2],body := (.seq (.region [⟨some 2,.mov (.const (.bool false)),none⟩]) (.seq (.region [⟨some 6,.mov (.tmp 0),none⟩,⟨some 7,.call (.fn 115) [(.tmp 6)],none⟩,⟨some 5,.mov (.tmp 7),none⟩,
 ⟨some 8,.ext 0 (.tmp 5),none⟩,⟨some 9,.ext 1 (.tmp 5),none⟩,⟨some 3,.alloc [.str [],.str [],.str []],none⟩,⟨none,.store 3 (.tmp 3) (.tmp 8),none⟩,⟨some 4,.mov (.tmp 9),none⟩]) (.seq (.region [⟨some 10,.mov (.tmp 4),none⟩,
 ⟨some 11,.bin .eql .no (.tmp 10) (.const (.int .i64 0)),none⟩,⟨some 12,.mov (.tmp 11),none⟩,⟨some 13,.load true 3 (.tmp 3),some (12,true)⟩,⟨some 14,.call (.fn 113) [(.tmp 13)],some (12,true)⟩,⟨some 15,.mov (.tmp 0),some (12,true)⟩,
 ⟨some 16,.bin .eql .no (.tmp 14) (.tmp 15),some (12,true)⟩,⟨some 17,.pick (.tmp 12) (.tmp 16) (.const (.bool false)),none⟩,⟨some 2,.mov (.tmp 17),none⟩]) (.ret)))) }

def F_event_people : ACFn := { nt := 36,results := [.tmp 2],body := (.seq (.region [⟨some 2,.mov (.const (.bool false)),none⟩]) (.seq (.region [⟨some 6,.mkmap,none⟩,⟨some 3,.mov (.tmp 6),none⟩]) (.seq (.seq (.region [⟨some 7,.mov (.tmp 0),none⟩,
 ⟨some 8,.len false (.tmp 7),none⟩,⟨some 9,.mov (.const (.int .i64 0)),none⟩]) (.block 0 (.loop (.seq (.region [⟨some 10,.bin .lss .no (.tmp 9) (.tmp 8),none⟩]) (.seq (.cond (.tmp 10) (.skip) (.exit 0)) (.seq (.block 1 (.seq (.region [⟨some 11,.iaddr 2 (.tmp 7) (.tmp 9),none⟩,
 ⟨some 12,.load true 2 (.tmp 11),none⟩,⟨some 5,.alloc [.str [],.str []],none⟩,⟨none,.store 2 (.tmp 5) (.tmp 12),none⟩]) (.seq (.seq (.region [⟨some 13,.faddr 0 (.tmp 5),none⟩,⟨some 14,.load false 1 (.tmp 13),none⟩,
 ⟨some 15,.call (.fn 203) [(.tmp 14)],none⟩,⟨some 16,.un .not (.tmp 15),none⟩,⟨some 17,.mov (.tmp 16),none⟩,⟨some 18,.faddr 1 (.tmp 5),some (17,false)⟩,⟨some 19,.load false 1 (.tmp 18),some (17,false)⟩,
 ⟨some 20,.call (.fn 214) [(.tmp 19)],some (17,false)⟩,⟨some 21,.un .not (.tmp 20),some (17,false)⟩,⟨some 22,.pick (.tmp 17) (.const (.bool true)) (.tmp 21),none⟩,⟨some 23,.mov (.tmp 22),none⟩,⟨some 24,.mov (.tmp 3),some (23,false)⟩,
 ⟨some 25,.faddr 0 (.tmp 5),some (23,false)⟩,⟨some 26,.load false 1 (.tmp 25),some (23,false)⟩,⟨some 27,.mget (.tmp 24) (.tmp 26),some (23,false)⟩,⟨some 28,.pick (.tmp 23) (.const (.bool true)) (.tmp 27),none⟩]) (.cond (.tmp 28) (.seq (.region [⟨some 2,.mov (.const (.bool false)),none⟩]) (.ret)) (.skip))) (.region [⟨some 29,.mov (.tmp 3),none⟩,
 ⟨some 30,.faddr 0 (.tmp 5),none⟩,⟨some 31,.load false 1 (.tmp 30),none⟩,⟨none,.mput (.tmp 29) (.tmp 31) (.const (.bool true)),none⟩])))) (.region [⟨some 32,.bin .add .no (.tmp 9) (.const (.int .i64 1)),none⟩,
 ⟨some 9,.mov (.tmp 32),none⟩]))))))) (.seq (.region [⟨some 33,.mov (.tmp 0),none⟩,⟨some 34,.len false (.tmp 33),none⟩,⟨some 35,.bin .leq .no (.tmp 34) (.const (.int .i64 32)),none⟩,⟨some 2,.mov (.tmp 35),none⟩]) (.ret))))) }

def F_event_isNote : ACFn := { nt := 40,results := [.tmp 2],body := (.seq (.region [⟨some 2,.mov (.const (.bool false)),none⟩]) (.seq (.seq (.region [⟨some 4,.mov (.tmp 0),none⟩,⟨some 5,.len true (.tmp 4),none⟩,⟨some 6,.mov (.const (.int .i64 0)),none⟩]) (.block 0 (.loop (.seq (.region [⟨some 7,.bin .lss .no (.tmp 6) (.tmp 5),none⟩]) (.seq (.cond (.tmp 7) (.skip) (.exit 0)) (.seq (.block 1 (.seq (.region [⟨some 8,.mov (.tmp 6),none⟩,
 ⟨some 3,.mov (.tmp 8),none⟩]) (.seq (.region [⟨some 9,.mov (.tmp 0),none⟩,⟨some 10,.mov (.tmp 3),none⟩,⟨some 11,.idxS (.tmp 9) (.tmp 10),none⟩,⟨some 12,.bin .lss .no (.tmp 11) (.const (.b8 32)),none⟩,⟨some 13,.mov (.tmp 12),none⟩,
 ⟨some 14,.mov (.tmp 0),some (13,true)⟩,⟨some 15,.mov (.tmp 3),some (13,true)⟩,⟨some 16,.idxS (.tmp 14) (.tmp 15),some (13,true)⟩,⟨some 17,.bin .neq .no (.tmp 16) (.const (.b8 9)),some (13,true)⟩,⟨some 18,.pick (.tmp 13) (.tmp 17) (.const (.bool false)),none⟩,
 ⟨some 19,.mov (.tmp 18),none⟩,⟨some 20,.mov (.tmp 0),some (19,true)⟩,⟨some 21,.mov (.tmp 3),some (19,true)⟩,⟨some 22,.idxS (.tmp 20) (.tmp 21),some (19,true)⟩,⟨some 23,.bin .neq .no (.tmp 22) (.const (.b8 10)),some (19,true)⟩,
 ⟨some 24,.pick (.tmp 19) (.tmp 23) (.const (.bool false)),none⟩,⟨some 25,.mov (.tmp 24),none⟩,⟨some 26,.mov (.tmp 0),some (25,false)⟩,⟨some 27,.mov (.tmp 3),some (25,false)⟩,⟨some 28,.idxS (.tmp 26) (.tmp 27),some (25,false)⟩,
 ⟨some 29,.bin .eql .no (.tmp 28) (.const (.b8 127)),some (25,false)⟩,⟨some 30,.pick (.tmp 25) (.const (.bool true)) (.tmp 29),none⟩]) (.cond (.tmp 30) (.seq (.region [⟨some 2,.mov (.const (.bool false)),none⟩]) (.ret)) (.skip))))) (.region [⟨some 31,.bin .add .no (.tmp 6) (.const (.int .i64 1)),none⟩,
 ⟨some 6,.mov (.tmp 31),none⟩]))))))) (.seq (.region [⟨some 32,.mov (.tmp 0),none⟩,⟨some 33,.len true (.tmp 32),none⟩,⟨some 34,.bin .leq .no (.tmp 33) (.const (.int .i64 1000)),none⟩,⟨some 35,.mov (.tmp 34),none⟩,
 ⟨some 36,.mov (.tmp 0),some (35,true)⟩,⟨some 37,.cS2B false (.tmp 36),some (35,true)⟩,⟨some 38,.call (.fn 53) [(.tmp 37)],some (35,true)⟩,⟨some 39,.pick (.tmp 35) (.tmp 38) (.const (.bool false)),none⟩,
 ⟨some 2,.mov (.tmp 39),none⟩]) (.ret)))) }

def F_event_isAnswer : ACFn := { nt := 9,results := [.tmp 2],body := (.seq (.region [⟨some 2,.mov (.const (.bool false)),none⟩]) (.seq (.seq (.region [⟨some 3,.mov (.tmp 0),none⟩]) (.block 0 (.seq (.seq (.region [⟨some 5,.bin .eql .no (.tmp 3) (.const (.str [78,69,69,68,83,45,65,67,84,73,79,78])),none⟩,
 ⟨some 4,.mov (.tmp 5),none⟩]) (.cond (.tmp 4) (.skip) (.seq (.region [⟨some 6,.bin .eql .no (.tmp 3) (.const (.str [65,67,67,69,80,84,69,68])),none⟩,⟨some 4,.mov (.tmp 6),none⟩]) (.cond (.tmp 4) (.skip) (.seq (.region [⟨some 7,.bin .eql .no (.tmp 3) (.const (.str [68,69,67,76,73,78,69,68])),none⟩,
 ⟨some 4,.mov (.tmp 7),none⟩]) (.cond (.tmp 4) (.skip) (.region [⟨some 8,.bin .eql .no (.tmp 3) (.const (.str [84,69,78,84,65,84,73,86,69])),none⟩,⟨some 4,.mov (.tmp 8),none⟩]))))))) (.cond (.tmp 4) (.seq (.region [⟨some 2,.mov (.const (.bool true)),none⟩]) (.ret)) (.skip))))) (.seq (.region [⟨some 2,.mov (.const (.bool false)),none⟩]) (.ret)))) }

end Go.Ab
/-
  The abstract program: functions by their numbers.
-/
namespace Go.Ab
def prog : AP := fun n => (if n < 175 then (if n < 124 then (if n < 82 then (if n < 77 then (if n < 69 then (if n = 53 then some (.code F_utf_Valid) else none)
  else (if n = 69 then some (.code F_utf_Points) else none))
  else (if n < 78 then (if n = 77 then some (.code F_utf_Next) else none)
  else (if n = 78 then some (.prim pStrIndexByte) else none)))
  else (if n < 111 then (if n < 83 then (if n = 82 then some (.prim pStrIndex) else none)
  else (if n = 83 then some (.code F_utf_isPoint) else none))
  else (if n < 113 then (if n = 111 then some (.code F_addr_Right) else none)
  else (if n < 115 then (if n = 113 then some (.code F_addr_Normal) else none)
  else (if n = 115 then some (.code F_addr_Plain) else none)))))
  else (if n < 128 then (if n < 126 then (if n < 125 then (if n = 124 then some (.code F_addr_parts) else none)
  else (if n = 125 then some (.code F_addr_isAtom) else none))
  else (if n < 127 then (if n = 126 then some (.code F_addr_isLabel) else none)
  else (if n = 127 then some (.code F_addr_isName) else none)))
  else (if n < 134 then (if n < 133 then (if n = 128 then some (.code F_strings_Cut) else none)
  else (if n = 133 then some (.prim pStrSplit) else none))
  else (if n < 135 then (if n = 134 then some (.code F_addr_alnum) else none)
  else (if n < 174 then (if n = 135 then some (.code F_internal_stringslite_Cut) else none)
  else (if n = 174 then some (.code F_posthornlaw13_Great) else none))))))
  else (if n < 194 then (if n < 182 then (if n < 178 then (if n < 176 then (if n = 175 then some (.code F_posthornlaw14_alive) else none)
  else (if n = 176 then some (.code F_rules_Methods) else none))
  else (if n < 180 then (if n = 178 then some (.code F_rules_Check) else none)
  else (if n = 180 then some (.code F_rules_Role) else none)))
  else (if n < 187 then (if n < 185 then (if n = 182 then some (.code F_rules_Newer) else none)
  else (if n = 185 then some (.code F_rules_Sender) else none))
  else (if n < 192 then (if n = 187 then some (.code F_posthornlaw14_RulesOthers) else none)
  else (if n < 193 then (if n = 192 then some (.code F_posthornlaw13_Message) else none)
  else (if n = 193 then some (.code F_rules_needs) else none)))))
  else (if n < 202 then (if n < 200 then (if n < 199 then (if n = 194 then some (.code F_event_Right) else none)
  else (if n = 199 then some (.code F_when_Right) else none))
  else (if n < 201 then (if n = 200 then some (.code F_event_optional) else none)
  else (if n = 201 then some (.code F_event_isMethod) else none)))
  else (if n < 204 then (if n < 203 then (if n = 202 then some (.code F_event_isUID) else none)
  else (if n = 203 then some (.code F_event_isPerson) else none))
  else (if n < 205 then (if n = 204 then some (.code F_event_people) else none)
  else (if n < 214 then (if n = 205 then some (.code F_event_isNote) else none)
  else (if n = 214 then some (.code F_event_isAnswer) else none)))))))
theorem prog_53 : prog 53 = some (.code F_utf_Valid) := rfl
theorem prog_69 : prog 69 = some (.code F_utf_Points) := rfl
theorem prog_77 : prog 77 = some (.code F_utf_Next) := rfl
theorem prog_78 : prog 78 = some (.prim pStrIndexByte) := rfl
theorem prog_82 : prog 82 = some (.prim pStrIndex) := rfl
theorem prog_83 : prog 83 = some (.code F_utf_isPoint) := rfl
theorem prog_111 : prog 111 = some (.code F_addr_Right) := rfl
theorem prog_113 : prog 113 = some (.code F_addr_Normal) := rfl
theorem prog_115 : prog 115 = some (.code F_addr_Plain) := rfl
theorem prog_124 : prog 124 = some (.code F_addr_parts) := rfl
theorem prog_125 : prog 125 = some (.code F_addr_isAtom) := rfl
theorem prog_126 : prog 126 = some (.code F_addr_isLabel) := rfl
theorem prog_127 : prog 127 = some (.code F_addr_isName) := rfl
theorem prog_128 : prog 128 = some (.code F_strings_Cut) := rfl
theorem prog_133 : prog 133 = some (.prim pStrSplit) := rfl
theorem prog_134 : prog 134 = some (.code F_addr_alnum) := rfl
theorem prog_135 : prog 135 = some (.code F_internal_stringslite_Cut) := rfl
theorem prog_174 : prog 174 = some (.code F_posthornlaw13_Great) := rfl
theorem prog_175 : prog 175 = some (.code F_posthornlaw14_alive) := rfl
theorem prog_176 : prog 176 = some (.code F_rules_Methods) := rfl
theorem prog_178 : prog 178 = some (.code F_rules_Check) := rfl
theorem prog_180 : prog 180 = some (.code F_rules_Role) := rfl
theorem prog_182 : prog 182 = some (.code F_rules_Newer) := rfl
theorem prog_185 : prog 185 = some (.code F_rules_Sender) := rfl
theorem prog_187 : prog 187 = some (.code F_posthornlaw14_RulesOthers) := rfl
theorem prog_192 : prog 192 = some (.code F_posthornlaw13_Message) := rfl
theorem prog_193 : prog 193 = some (.code F_rules_needs) := rfl
theorem prog_194 : prog 194 = some (.code F_event_Right) := rfl
theorem prog_199 : prog 199 = some (.code F_when_Right) := rfl
theorem prog_200 : prog 200 = some (.code F_event_optional) := rfl
theorem prog_201 : prog 201 = some (.code F_event_isMethod) := rfl
theorem prog_202 : prog 202 = some (.code F_event_isUID) := rfl
theorem prog_203 : prog 203 = some (.code F_event_isPerson) := rfl
theorem prog_204 : prog 204 = some (.code F_event_people) := rfl
theorem prog_205 : prog 205 = some (.code F_event_isNote) := rfl
theorem prog_214 : prog 214 = some (.code F_event_isAnswer) := rfl
end Go.Ab
/-
  Slices that grow: what a function has made itself.
-/
namespace Go.Ab

structure GrewAt (B : List (List PV)) (T : List Bool) (L : List LoopS) (lo : Nat) (s : St) : Prop where
  bx : s.boxes = B
  lp : s.loops = L
  lw : s.low = lo
  tk : s.toks.take T.length = T
abbrev Grew (st s : St) : Prop := GrewAt st.boxes st.toks st.loops st.boxes.length s

variable {B : List (List PV)} {T : List Bool} {L : List LoopS} {lo : Nat}
theorem GrewAt.len {s : St} (h : GrewAt B T L lo s) : T.length ≤ s.toks.length := by
  have := congrArg List.length h.tk
  simp at this; omega
theorem Grew.start {st : St} : Grew st { boxes := st.boxes, toks := st.toks, loops := st.loops, low := st.boxes.length } := ⟨rfl, rfl, rfl, by simp⟩
theorem GrewAt.start {ts : List Bool} : GrewAt B T L lo ⟨B, T ++ ts, L, lo⟩ := ⟨rfl, rfl, rfl, by simp⟩
def St.tok1 (s : St) : St := { s with toks := s.toks ++ [true] }
theorem GrewAt.tok1 {s : St} (h : GrewAt B T L lo s) : GrewAt B T L lo s.tok1 := ⟨h.bx, h.lp, h.lw, by
  show (s.toks ++ [true]).take T.length = T
  rw [List.take_append_of_le_length h.len]; exact h.tk⟩

def Own (st s : St) (esz : Nat) (v : PV) (xs : List PV) : Prop := (v = .nils ∧ xs = []) ∨ ∃ i, v = .sl esz (.own i) xs ∧ st.toks.length ≤ i ∧ s.toks[i]? = some true
def OwnB (st s : St) (v : PV) (l : List UInt8) : Prop := (v = .nils ∧ l = []) ∨ ∃ i, v = .bys (.own i) l ∧ st.toks.length ≤ i ∧ s.toks[i]? = some true

theorem Own.tok1 {st s : St} {esz : Nat} {v : PV} {xs : List PV} (h : Own st s esz v xs) : Own st s.tok1 esz v xs := by
  rcases h with h | ⟨i, h1, h2, h3⟩
  · exact .inl h
  · exact .inr ⟨i, h1, h2, by show (s.toks ++ [true])[i]? = some true; rw [List.getElem?_append_left (List.getElem?_eq_some_iff.1 h3).1]; exact h3⟩
theorem OwnB.tok1 {st s : St} {v : PV} {l : List UInt8} (h : OwnB st s v l) : OwnB st s.tok1 v l := by
  rcases h with h | ⟨i, h1, h2, h3⟩
  · exact .inl h
  · exact .inr ⟨i, h1, h2, by show (s.toks ++ [true])[i]? = some true; rw [List.getElem?_append_left (List.getElem?_eq_some_iff.1 h3).1]; exact h3⟩
theorem OwnB.by {st s : St} {v : PV} {l : List UInt8} (h : OwnB st s v l) : v.by = some l := by
  rcases h with ⟨rfl, rfl⟩ | ⟨i, rfl, _, _⟩ <;> rfl

def appS (s : St) (v : PV) : St := match v with
  | .sl _ (.own i) _ => { s with toks := s.toks.set i false ++ [true] }
  | .bys (.own i) _ => { s with toks := s.toks.set i false ++ [true] }
  | _ => s.tok1
theorem appV_own {st s : St} {esz : Nat} {v u : PV} {xs : List PV} {t : Tok} (h : Own st s esz v xs) (hl : xs.length + 1 ≤ room) :
    appV esz s v (.sl esz t [u]) = some (.sl esz (.own s.toks.length) (xs ++ [u]), appS s v) := by
  rcases h with ⟨rfl, rfl⟩ | ⟨i, rfl, h2, h3⟩
  · simp [appV, srcV, freshT, room, appS, St.tok1]
  · simp [appV, srcV, freshT, appTok, appS, h3, hl]
theorem Own.app {st s : St} {esz : Nat} {v : PV} {xs ys : List PV} (hg : GrewAt B st.toks L lo s) (h : Own st s esz v xs) : GrewAt B st.toks L lo (appS s v) ∧ Own st (appS s v) esz (.sl esz (.own s.toks.length) ys) ys := by
  have hlen := hg.len
  rcases h with ⟨rfl, rfl⟩ | ⟨i, rfl, h2, h3⟩
  · refine ⟨hg.tok1, .inr ⟨_, rfl, hlen, ?_⟩⟩
    simp [appS, St.tok1]
  · refine ⟨⟨hg.bx, hg.lp, hg.lw, ?_⟩, .inr ⟨_, rfl, hlen, ?_⟩⟩
    · show (s.toks.set i false ++ [true]).take st.toks.length = st.toks
      rw [List.take_append_of_le_length (by simpa using hlen), List.take_set_of_le h2]; exact hg.tk
    · show (s.toks.set i false ++ [true])[s.toks.length]? = some true
      rw [List.getElem?_append_right (by simp)]; simp
theorem OwnB.app {st s : St} {v : PV} {l m : List UInt8} (hg : GrewAt B st.toks L lo s) (h : OwnB st s v l) : GrewAt B st.toks L lo (appS s v) ∧ OwnB st (appS s v) (.bys (.own s.toks.length) m) m := by
  have hlen := hg.len
  rcases h with ⟨rfl, rfl⟩ | ⟨i, rfl, h2, h3⟩
  · refine ⟨hg.tok1, .inr ⟨_, rfl, hlen, ?_⟩⟩
    simp [appS, St.tok1]
  · refine ⟨⟨hg.bx, hg.lp, hg.lw, ?_⟩, .inr ⟨_, rfl, hlen, ?_⟩⟩
    · show (s.toks.set i false ++ [true]).take st.toks.length = st.toks
      rw [List.take_append_of_le_length (by simpa using hlen), List.take_set_of_le h2]; exact hg.tk
    · show (s.toks.set i false ++ [true])[s.toks.length]? = some true
      rw [List.getElem?_append_right (by simp)]; simp

theorem GrewAt.loops {s : St} {L' : List LoopS} (h : GrewAt B T L lo s) : GrewAt B T L' lo { s with loops := L' } := ⟨h.bx, rfl, h.lw, h.tk⟩
theorem OwnB.loops {st s : St} {v : PV} {l : List UInt8} {L' : List LoopS} (h : OwnB st s v l) : OwnB st { s with loops := L' } v l := h
def newSl (st : St) (esz : Nat) (xs : List PV) : PV := if xs = [] then .nils else .sl esz (.own st.toks.length) xs
def newS (st : St) (b : Bool) : St := if b then st else st.tok1
theorem lit1 {esz : Nat} {v u z : PV} (h : strip v = some u) (hc : u.cells.length = esz) : litFill esz (List.replicate 1 z) [(0, v)] = some [u] := by
  simp [litFill, h, hc]
theorem freshT_eq {s : St} : freshT s = (.own s.toks.length, s.tok1) := rfl
def Leaf (v : PV) : Prop := v.cells = [v] ∧ leafOk v = true
end Go.Ab
/-
  Ranges over functions; memory that grows.
-/
namespace Go.Ab
variable {A : AP} {st : St} {e : Env}

theorem set_app {α : Type} {l r : List α} {k : Nat} {v : α} : (l ++ r).set (l.length + k) v = l ++ r.set k v := by
  rw [List.set_append_right _ _ (by omega)]; congr 2; omega
theorem set_app0 {α : Type} {l r : List α} {a v : α} : (l ++ a :: r).set l.length v = l ++ v :: r := by
  have := set_app (l := l) (r := a :: r) (k := 0) (v := v)
  simp only [Nat.add_zero, List.set_cons_zero] at this; exact this

def PV.vs (esz : Nat) : PV → Option (List PV)
  | .nils => some []
  | .sl e _ xs => if e = esz then some xs else none
  | _ => none
theorem vs_cases {esz : Nat} {x : PV} {xs : List PV} (h : x.vs esz = some xs) : (x = .nils ∧ xs = []) ∨ ∃ t, x = .sl esz t xs := by
  cases x <;> simp [PV.vs] at h
  · exact .inl ⟨rfl, h⟩
  · obtain ⟨rfl, rfl⟩ := h; exact .inr ⟨_, rfl⟩
theorem len_vs {esz : Nat} {x : PV} {xs : List PV} (h : x.vs esz = some xs) : lenPV false x = some (.int .i64 (xs.length : Int)) := by
  rcases vs_cases h with ⟨rfl, rfl⟩ | ⟨t, rfl⟩ <;> rfl
theorem iaddr_vs {esz : Nat} {x : PV} {xs : List PV} {k : IntKind} {c : Int} (h : x.vs esz = some xs) (h1 : 0 ≤ c) (h2 : c.toNat < xs.length) : iaddrPV esz x (.int k c) = some (.cp (xs.getD c.toNat .undef).cells) := by
  rcases vs_cases h with ⟨rfl, rfl⟩ | ⟨t, rfl⟩
  · simp at h2
  · simp [iaddrPV, intOf, h1, show c < xs.length by omega]
end Go.Ab
/-
  Cuts in code; slices that live on in boxes.
-/
namespace Go.Ab
variable {A : AP} {st : St} {e : Env}

theorem W_cut {a b : ACode} {Q : Ex → Env → St → Prop} (M : Env → St → Prop) (h1 : W A a e st (fun x e' s' => x = .normal ∧ M e' s')) (h2 : ∀ e' s', M e' s' → W A b e' s' Q) : W A (.seq a b) e st Q := by
  rw [qaaz]
  refine W_mono h1 ?_
  rintro x e s ⟨rfl, h⟩
  exact h2 e s h

theorem law_of_W {f k : Nat} {args : List PV} {fn : ACFn} (hA : A f = some (.code fn)) (hr : fn.results = [.tmp k])
    (h : W A fn.body (env0 args) { st with low := st.boxes.length } (fun x e _ => (x = .normal ∨ x = .ret) ∧ e k = .bool true)) : ∃ s', call A (.fn f []) args st = some (.bool true, s') := by
  obtain ⟨⟨x, e1, st1⟩, h1, h2, h3⟩ := h
  simp only at h2 h3
  have hl : ∃ s', leave st st1 (.bool true) = (.bool true, s') := by
    unfold leave
    simp only [PV.inB, if_true]
    split
    · exact ⟨_, rfl⟩
    · exact ⟨_, rfl⟩
  obtain ⟨s', hl⟩ := hl
  refine ⟨s', ?_⟩
  have hres : resOf e1 st1 fn.results = some (.bool true) := by rw [hr]; simp [resOf, rvAll, rv1, h3, notTup, packRes]
  refine call_of_W hA ⟨(x, e1, st1), by rw [List.append_nil]; exact h1, h2, .bool true, hres, hl⟩

def Live (s : St) (v : PV) (l : List UInt8) : Prop := (v = .nils ∧ l = []) ∨ ∃ i, v = .bys (.own i) l ∧ s.toks[i]? = some true
theorem Live.by {s : St} {v : PV} {l : List UInt8} (h : Live s v l) : v.by = some l := by
  rcases h with ⟨rfl, rfl⟩ | ⟨i, rfl, _⟩ <;> rfl
theorem Live.lt {s : St} {v : PV} {l : List UInt8} (h : Live s v l) {i : Nat} (hi : tokOf v = some i) : i < s.toks.length ∧ s.toks[i]? = some true := by
  rcases h with ⟨rfl, rfl⟩ | ⟨j, rfl, hj⟩
  · cases hi
  · simp only [tokOf, Option.some.injEq] at hi
    subst hi
    exact ⟨(List.getElem?_eq_some_iff.1 hj).1, hj⟩
theorem Live.tokLt {s : St} {v : PV} {l : List UInt8} (h : Live s v l) : v.tokLt s.toks.length = true := by
  rcases h with ⟨rfl, rfl⟩ | ⟨j, rfl, hj⟩
  · rfl
  · simp [PV.tokLt, Tok.lt, (List.getElem?_eq_some_iff.1 hj).1]
theorem Live.move {s s' : St} {v : PV} {l : List UInt8} (h : Live s v l) (ht : ∀ i, tokOf v = some i → s'.toks[i]? = s.toks[i]?) : Live s' v l := by
  rcases h with h | ⟨j, rfl, hj⟩
  · exact .inl h
  · exact .inr ⟨j, rfl, by rw [ht j rfl]; exact hj⟩
theorem Live.tok1 {s : St} {v : PV} {l : List UInt8} (h : Live s v l) : Live s.tok1 v l := h.move fun i hi => by
  show (s.toks ++ [true])[i]? = _
  rw [List.getElem?_append_left (h.lt hi).1]

theorem app8_live {s : St} {v y : PV} {l m : List UInt8} (h : Live s v l) (hy : src8 s y = some m) (hl : l.length + m.length ≤ room) :
    ∃ v' s', app8 s v y = some (v', s') ∧ s'.boxes = s.boxes ∧ s'.loops = s.loops ∧ s'.low = s.low ∧ Live s' v' (l ++ m) ∧ s.toks.length ≤ s'.toks.length ∧
      (∀ i, i < s.toks.length → tokOf v ≠ some i → s'.toks[i]? = s.toks[i]?) ∧ (∀ i, tokOf v' = some i → (tokOf v = some i ∧ s' = s) ∨ s.toks.length ≤ i) ∧ (m ≠ [] → tokOf v' = some s.toks.length) := by
  by_cases hm : m = []
  · subst hm
    refine ⟨v, s, ?_, rfl, rfl, rfl, by simpa using h, Nat.le_refl _, fun _ _ _ => rfl, fun i hi => .inl ⟨hi, rfl⟩, fun h => absurd rfl h⟩
    rcases h with ⟨rfl, rfl⟩ | ⟨j, rfl, hj⟩ <;> simp [app8, hy]
  · rcases h with ⟨rfl, rfl⟩ | ⟨j, rfl, hj⟩
    · simp at hl
      refine ⟨.bys (.own s.toks.length) m, s.tok1, by simp [app8, hy, hm, freshT, hl, St.tok1], rfl, rfl, rfl, .inr ⟨_, rfl, by simp [St.tok1]⟩, by simp [St.tok1], fun i hi _ => ?_, fun i hi => .inr ?_, fun _ => rfl⟩
      · show (s.toks ++ [true])[i]? = _
        rw [List.getElem?_append_left hi]
      · simp only [tokOf, Option.some.injEq] at hi; omega
    · refine ⟨.bys (.own s.toks.length) (l ++ m), ⟨s.boxes, s.toks.set j false ++ [true], s.loops, s.low⟩, by simp [app8, hy, hm, freshT, appTok, hj, hl], rfl, rfl, rfl, .inr ⟨_, rfl, by simp []⟩, by simp, fun i hi hne => ?_, fun i hi => .inr ?_, fun _ => rfl⟩
      · show (s.toks.set j false ++ [true])[i]? = _
        rw [List.getElem?_append_left (by simpa using hi), List.getElem?_set_ne (fun h => hne (by rw [h]; rfl))]
      · simp only [tokOf, Option.some.injEq] at hi; omega
end Go.Ab
namespace Go.Ab
variable {A : AP} {st : St} {e : Env}
end Go.Ab
/-
  strings.Builder: what is written, and its text.
-/
namespace Go.Ab
variable {P : St → Prop} {st : St} {e : Env} {s s' : St} {b : Nat} {x : PV} {l : List UInt8}

structure Bu (s : St) (b : Nat) (x : PV) (l : List UInt8) : Prop where
  bx : s.boxes[b]? = some [.bslot, x] ∨ s.boxes[b]? = some [.ptr b 0, x]
  lv : Live s x l

structure BuStep (s s' : St) (b : Nat) (x x' : PV) (l' : List UInt8) : Prop where
  bx : s'.boxes = s.boxes.set b [.ptr b 0, x']
  lv : Live s' x' l'
  lp : s'.loops = s.loops
  tl : s.toks.length ≤ s'.toks.length
  tk : ∀ i, i < s.toks.length → tokOf x ≠ some i → s'.toks[i]? = s.toks[i]?
  tn : ∀ i, tokOf x' = some i → tokOf x = some i ∨ s.toks.length ≤ i
  lw : min s.low b ≤ s'.low

theorem Bu.lt (h : Bu s b x l) : b < s.boxes.length := by
  rcases h.bx with h | h <;> exact (List.getElem?_eq_some_iff.1 h).1
structure Kept (st s : St) : Prop where
  bx : s.boxes.take st.boxes.length = st.boxes
  lp : s.loops = st.loops
  lw : st.boxes.length ≤ s.low
  tk : s.toks.take st.toks.length = st.toks

theorem Kept.start : Kept st { boxes := st.boxes, toks := st.toks, loops := st.loops, low := st.boxes.length } := ⟨by simp, rfl, Nat.le_refl _, by simp⟩
theorem Kept.bl (h : Kept st s) : st.boxes.length ≤ s.boxes.length := by
  have := congrArg List.length h.bx
  simp at this; omega
theorem Kept.tl (h : Kept st s) : st.toks.length ≤ s.toks.length := by
  have := congrArg List.length h.tk
  simp at this; omega
theorem Kept.get (h : Kept st s) {i : Nat} (hi : i < st.toks.length) : s.toks[i]? = st.toks[i]? := by
  have := congrArg (fun z => z[i]?) h.tk
  simpa [List.getElem?_take, hi] using this
theorem Kept.of {s' : St} (h : Kept st s) (hb : s'.boxes.take st.boxes.length = s.boxes.take st.boxes.length) (hl : s'.loops = s.loops) (hw : st.boxes.length ≤ s'.low) (ht : ∀ i, i < st.toks.length → s'.toks[i]? = s.toks[i]?) (hn : st.toks.length ≤ s'.toks.length) : Kept st s' :=
  ⟨hb.trans h.bx, hl.trans h.lp, hw, by
    apply List.ext_getElem?
    intro i
    rw [List.getElem?_take]
    split
    · rename_i hi
      rw [ht i hi, h.get hi]
    · rename_i hi
      rw [List.getElem?_eq_none (by omega)]⟩
theorem Kept.tok1 (h : Kept st s) : Kept st s.tok1 := h.of rfl rfl h.lw (fun i hi => by
  show (s.toks ++ [true])[i]? = _
  rw [List.getElem?_append_left (by have := h.tl; omega)]) (by have := h.tl; simp [St.tok1]; omega)
theorem Kept.leave (h : Kept st s) {v : PV} (h1 : v.inB st.boxes.length = true) (h2 : ∀ n toks, keepRes n toks v = (v, [])) : leave st s v = (v, st) := by
  have e1 := h.bx; have e2 := h.lp; have e3 := h.tk
  simp [Ab.leave, h1, h.lw, h2, e1, e2, e3]
theorem Kept.alloc {z : List PV} (h : Kept st s) : Kept st { s with boxes := s.boxes ++ [z] } := h.of (by
  have := h.bl
  rw [List.take_append_of_le_length this]) rfl h.lw (fun _ _ => rfl) h.tl
theorem Kept.step {x' : PV} {l' : List UInt8} (h : Kept st s) (hs : BuStep s s' b x x' l') (hb : st.boxes.length ≤ b) (hm : ∀ i, tokOf x = some i → st.toks.length ≤ i) : Kept st s' ∧ ∀ i, tokOf x' = some i → st.toks.length ≤ i := by
  have htl := h.tl
  refine ⟨h.of ?_ hs.lp (by have := hs.lw; have := h.lw; omega) (fun i hi => hs.tk i (by omega) fun hh => by have := hm i hh; omega) (by have := hs.tl; omega), fun i hi => ?_⟩
  · rw [hs.bx, List.take_set_of_le hb]
  · rcases hs.tn i hi with h1 | h1
    · exact hm i h1
    · omega

theorem Kept.string (h : Kept st s) (hs : ∃ s', P s' ∧ s'.boxes = s.boxes ∧ s'.loops = s.loops ∧ s'.low = s.low ∧ s'.toks.length = s.toks.length ∧ ∀ i, tokOf x ≠ some i → s'.toks[i]? = s.toks[i]?) (hm : ∀ i, tokOf x = some i → st.toks.length ≤ i) : ∃ s', P s' ∧ Kept st s' := by
  obtain ⟨s', h0, h1, h2, h3, h4, h5⟩ := hs
  exact ⟨s', h0, h.of (by rw [h1]) h2 (by rw [h3]; exact h.lw) (fun i hi => h5 i fun hh => by have := hm i hh; omega) (by rw [h4]; exact h.tl)⟩

def Mine (st s : St) (v : PV) (l : List UInt8) : Prop := Live s v l ∧ ∀ t, tokOf v = some t → st.toks.length ≤ t
theorem Mine.nil : Mine st s .nils [] := ⟨.inl ⟨rfl, rfl⟩, fun t h => (by cases h)⟩
theorem Mine.by {v : PV} (h : Mine st s v l) : v.by = some l := h.1.by
theorem Mine.tok1 {v : PV} (h : Mine st s v l) : Mine st s.tok1 v l := ⟨h.1.tok1, h.2⟩
theorem Kept.app8 {v y : PV} {m : List UInt8} (hk : Kept st s) (h : Mine st s v l) (hy : src8 s y = some m) (hl : l.length + m.length ≤ room) :
    ∃ v' s', Ab.app8 s v y = some (v', s') ∧ Kept st s' ∧ Mine st s' v' (l ++ m) := by
  obtain ⟨v', s', a1, a2, a3, a4, a5, a6, a7, a8, a9⟩ := app8_live h.1 hy hl
  have htl := hk.tl
  refine ⟨v', s', a1, hk.of (by rw [a2]) a3 (by rw [a4]; exact hk.lw) (fun i hi => a7 i (by omega) fun hh => by have := h.2 i hh; omega) (by omega), a5, fun t ht => ?_⟩
  rcases a8 t ht with ⟨h1, _⟩ | h1
  · exact h.2 t h1
  · omega
theorem Kept.push {v : PV} {c : UInt8} (hk : Kept st s) (h : Mine st s v l) (hl : l.length + 1 ≤ room) :
    ∃ v' s', Ab.app8 s.tok1 v (.bys (.own s.toks.length) [c]) = some (v', s') ∧ Kept st s' ∧ Mine st s' v' (l ++ [c]) :=
  hk.tok1.app8 h.tok1 rfl (by simpa using hl)
def Flat (v : PV) : Prop := (∀ n, v.inB n = true) ∧ (∀ n toks, keepRes n toks v = (v, []))
theorem Kept.leave' (h : Kept st s) {v : PV} (hv : Flat v) : Ab.leave st s v = (v, st) := h.leave (hv.1 _) hv.2
end Go.Ab
/-
  Operations on texts; the library's and the document's searches in them.
-/
namespace Go.Ab
variable {A : AP} {st : St} {e : Env}

theorem len_s {l : List UInt8} : lenPV true (.str l) = some (.int .i64 (l.length : Int)) := rfl
theorem idx_s {l : List UInt8} {k : IntKind} {c : Int} (h1 : 0 ≤ c) (h2 : c.toNat < l.length) : idxSPV (.str l) (.int k c) = some (.b8 (l.getD c.toNat 0)) := by
  simp [idxSPV, intOf, h1, show c < l.length by omega]
theorem slc_s_lo {l : List UInt8} {k : IntKind} {c : Int} (h1 : 0 ≤ c) (h2 : c.toNat ≤ l.length) : slcPV 0 (.str l) (some (.int k c)) none none = some (.str (l.drop c.toNat)) := by
  simp [slcPV, bnd, intOf, h1, show c ≤ l.length by omega]
theorem slc_s_hi {l : List UInt8} {k : IntKind} {c : Int} (h1 : 0 ≤ c) (h2 : c.toNat ≤ l.length) : slcPV 0 (.str l) none (some (.int k c)) none = some (.str (l.take c.toNat)) := by
  simp [slcPV, bnd, intOf, h1, show c ≤ l.length by omega]
theorem adds {ek : EK} {a b : List UInt8} (h : a.length + b.length ≤ 9223372036854775807) : binPV .add ek (.str a) (.str b) = some (.str (a ++ b)) := by
  simp [binPV, binS, h]

theorem drop_getD {l : List UInt8} {i : Nat} (h : i < l.length) : l.drop i = l.getD i 0 :: l.drop (i + 1) := by
  rw [List.drop_eq_getElem_cons h]; congr 1; simp [List.getD, h]
theorem take_getD {l : List UInt8} {i : Nat} (h : i < l.length) : l.take (i + 1) = l.take i ++ [l.getD i 0] := by
  rw [List.take_succ_eq_append_getElem h]; simp [List.getD, h]

theorem index_one {l : List UInt8} {c : UInt8} : 0 ≤ Lib.index l [c] ↔ c ∈ l := by
  induction l with
  | nil => simp [Lib.index]
  | cons d r ih =>
    simp only [Lib.index]
    by_cases h : c = d
    · subst h; simp
    · have h' : ([c] : List UInt8).isPrefixOf (d :: r) = false := by simp [List.isPrefixOf, h]
      have hge := Lib.index_ge r [c]
      rw [h']
      simp only [Bool.false_eq_true, if_false, List.mem_cons, h, false_or]
      rw [← ih]
      split
      · rename_i h2; simp at h2; omega
      · rename_i h2; simp at h2; omega

theorem strIndex_spec {a b : List UInt8} (h : a.length < 4294967281) : call prog (.fn 82 []) [.str a, .str b] st = some (.int .i64 (Lib.index a b), st) := by
  rw [call_prim prog_82]; simp [pStrIndex, h]
theorem strIndexByte_spec {a : List UInt8} {c : UInt8} : call prog (.fn 78 []) [.str a, .b8 c] st = some (.int .i64 (Lib.indexByte a c), st) := by
  rw [call_prim prog_78]; simp [pStrIndexByte]

end Go.Ab
/-
  Names in small letters; fields of a name; how big a header is.
-/
namespace Go.Ab
variable {st : St} {e : Env}

theorem iaddr_ms {b n : Nat} {k : IntKind} {c : Int} (h1 : 0 ≤ c) (h2 : c.toNat < n) : iaddrPV 1 (.ms b 0 n) (.int k c) = some (.ptr b c.toNat) := by
  simp [iaddrPV, intOf, h1, show c < n by omega]
theorem len_ms {b n : Nat} : lenPV false (.ms b 0 n) = some (.int .i64 (n : Int)) := rfl
theorem bytesOf_map : ∀ l : List UInt8, bytesOf (l.map .b8) = some l := by
  intro l
  induction l with
  | nil => rfl
  | cons c r ih => simp [bytesOf, ih]
theorem add_8 {ek : EK} {a b : UInt8} : binPV .add ek (.b8 a) (.b8 b) = some (.b8 (a + b)) := rfl
def lowC (c : UInt8) : UInt8 := if 65 ≤ c ∧ c ≤ 90 then c + 32 else c
def lowOf (s : List UInt8) : List UInt8 := s.map lowC

end Go.Ab
/-
  Fields of a name; how big a header is.
-/
namespace Go.Ab
variable {st s : St} {e : Env}

abbrev Fld := List UInt8 × List UInt8
def fV (f : Fld) : PV := .agg [.str f.1, .str f.2]
theorem Kept.alloc' {z : List PV} (h : Kept st s) : Kept st ⟨s.boxes ++ [z], s.toks, s.loops, s.low⟩ := h.alloc

end Go.Ab
/-
  Names and values of fields; texts without blanks at their ends.
-/
namespace Go.Ab
variable {st s : St} {e : Env}

theorem all_getD {p : UInt8 → Bool} {l : List UInt8} (h : ∀ j, j < l.length → p (l.getD j 0) = true) : l.all p = true := by
  rw [List.all_eq_true]
  intro c hc
  obtain ⟨i, hi, rfl⟩ := List.mem_iff_getElem.1 hc
  have := h i hi
  simpa [List.getD, hi] using this
theorem all_bad {p : UInt8 → Bool} {l : List UInt8} {j : Nat} (hj : j < l.length) (h : p (l.getD j 0) = false) : l.all p = false := by
  rw [List.all_eq_false]
  refine ⟨l.getD j 0, ?_, by rw [h]; simp⟩
  simp [List.getD, hj]

end Go.Ab
/-
  Texts without blanks at their ends; values of fields.
-/
namespace Go.Ab
variable {st s : St} {e : Env}

end Go.Ab
/-
  The document's trimming; values; small letters; fields of a name, by the document.
-/
namespace Go.Ab
variable {st s : St} {e : Env}

end Go.Ab
/-
  Values of fields; small letters and fields of a name, by the document.
-/
namespace Go.Ab
variable {st s : St} {e : Env}

theorem Grew.kept (h : Grew st s) : Kept st s := ⟨by rw [h.bx]; simp, h.lp, by rw [h.lw]; exact Nat.le_refl _, h.tk⟩
end Go.Ab
/-
  Addresses: plain.
-/
namespace Go.Ab

abbrev Bs := List UInt8
theorem all8 {p : UInt8 → Bool} (h : (List.range 256).all (fun n => p (UInt8.ofNat n)) = true) (c : UInt8) : p c = true := by
  have := List.all_eq_true.1 h c.toNat (List.mem_range.2 c.toNat_lt)
  simpa using this

def alnC (c : UInt8) : Bool := (decide (97 ≤ c) && decide (c ≤ 122)) || (decide (65 ≤ c) && decide (c ≤ 90)) || (decide (48 ≤ c) && decide (c ≤ 57))
def signs : Bs := [33, 35, 36, 37, 38, 39, 42, 43, 45, 47, 61, 63, 94, 95, 123, 124, 125, 126, 96]
def atC (c : UInt8) : Bool := alnC c || signs.contains c
def atomB (l : Bs) : Bool := l.all atC && !l.isEmpty
def labC (c : UInt8) : Bool := alnC c || decide (c = 45)
def labB (l : Bs) : Bool := l.all labC && !l.isEmpty && decide (l.length ≤ 63) && !decide (l.getD 0 0 = 45) && !decide (l.getD (l.length - 1) 0 = 45)
def prC (c : UInt8) : Bool := !decide (c < 32) && !decide (126 < c)
def nmA (l : Bs) : Bool := l.all prC && decide (l.length ≤ 128)
def partsB (sep : UInt8) (p : Bs → Bool) (l : Bs) : Bool := (splitOn sep [] l).all p

abbrev Adr := Bs × Bs × Bs
def aV (a : Adr) : PV := .agg [.str a.1, .str a.2.1, .str a.2.2]
def rightA (a : Adr) : Bool := decide (a.2.1.length ≤ 64) && partsB 46 atomB a.2.1 && decide (a.2.2.length ≤ 253) && partsB 46 labB a.2.2 && nmA a.1
def atA (a : Adr) : Bs := a.2.1 ++ 64 :: a.2.2
def normalA (a : Adr) : Bs := if rightA a = true then lowOf (atA a) else []
def noA : Adr := ([], [], [])
def cutA (s : Bs) : Adr := if 0 ≤ Lib.index s [64] then ([], s.take (Lib.index s [64]).toNat, s.drop ((Lib.index s [64]).toNat + 1)) else ([], s, [])
def plainA (s : Bs) : Adr × Int := if rightA (cutA s) = true then (cutA s, 0) else (noA, 60)
theorem index_chr {k : UInt8} : ∀ (n r : Bs), (∀ c ∈ n, c ≠ k) → Lib.index (n ++ k :: r) [k] = n.length := by
  intro n
  induction n with
  | nil => intro r _; simp [Lib.index, List.isPrefixOf]
  | cons c n ih =>
    intro r h
    have hc : c ≠ k := h c (by simp)
    have := ih r (fun d hd => h d (by simp [hd]))
    rw [List.cons_append, Lib.index]
    have hp : ([k] : Bs).isPrefixOf (c :: (n ++ k :: r)) = false := by
      simp [List.isPrefixOf]; exact fun h => hc h.symm
    rw [hp, this]
    simp <;> omega
def locC (c : UInt8) : Prop := atC c = true ∨ c = 46
def domC (c : UInt8) : Prop := labC c = true ∨ c = 46
structure RightA (a : Adr) : Prop where
  lc : ∀ c ∈ a.2.1, locC c
  ln : a.2.1 ≠ []
  dc : ∀ c ∈ a.2.2, domC c
  dn : a.2.2 ≠ []
  nl : a.1.length ≤ 128
  ll : a.2.1.length ≤ 64
  dl : a.2.2.length ≤ 253
theorem chr_split (k : UInt8) : ∀ s : Bs, (k ∉ s ∧ Lib.index s [k] = -1) ∨ ∃ n r, s = n ++ k :: r ∧ ∀ c ∈ n, c ≠ k := by
  intro s
  by_cases h : k ∈ s
  · right
    induction s with
    | nil => cases h
    | cons c s ih =>
      by_cases hc : c = k
      · exact ⟨[], s, by simp [hc], fun c hc => (by cases hc)⟩
      · rcases List.mem_cons.1 h with h | h
        · exact absurd h.symm hc
        · obtain ⟨n, r, e1, e2⟩ := ih h
          refine ⟨c :: n, r, by simp [e1], fun d hd => ?_⟩
          rcases List.mem_cons.1 hd with rfl | hd
          · exact hc
          · exact e2 d hd
  · left
    refine ⟨h, ?_⟩
    have h1 := Lib.index_ge s [k]
    have h2 := index_one (l := s) (c := k)
    have h3 : ¬ 0 ≤ Lib.index s [k] := fun h0 => h (h2.1 h0)
    omega
end Go.Ab
/-
  Addresses are read as they were written: plain.
-/
namespace Go.Ab

theorem plain_good {s : Bs} : ((plainA s).2 = 0 ∧ rightA (plainA s).1 = true ∧ (plainA s).1.1 = []) ∨ plainA s = (noA, 60) := by
  unfold plainA
  by_cases h : rightA (cutA s) = true
  · rw [if_pos h]
    refine .inl ⟨rfl, h, ?_⟩
    show (cutA s).1 = []
    unfold cutA
    split <;> rfl
  · rw [if_neg h]; exact .inr rfl
end Go.Ab
/-
  Points of Unicode as bytes: the program's answer.
-/
namespace Go.Ab
variable {st s : St} {e : Env}

theorem all256 {p : UInt8 → Prop} (h : ∀ n : Fin 256, p (UInt8.ofNat n.val)) (c : UInt8) : p c := by
  have := h ⟨c.toNat, c.toNat_lt⟩
  simpa using this
theorem shr5 {ek : EK} {c : UInt8} : binPV .shr ek (.b8 c) (.int .u64 5) = some (.b8 (UInt8.ofNat (c.toNat / 32))) := by simp [binPV, sh8]
theorem shr4 {ek : EK} {c : UInt8} : binPV .shr ek (.b8 c) (.int .u64 4) = some (.b8 (UInt8.ofNat (c.toNat / 16))) := by simp [binPV, sh8]
theorem shr3 {ek : EK} {c : UInt8} : binPV .shr ek (.b8 c) (.int .u64 3) = some (.b8 (UInt8.ofNat (c.toNat / 8))) := by simp [binPV, sh8]
theorem shr6 {ek : EK} {c : UInt8} : binPV .shr ek (.b8 c) (.int .u64 6) = some (.b8 (UInt8.ofNat (c.toNat / 64))) := by simp [binPV, sh8]
theorem and_8 {ek : EK} {a b : UInt8} : binPV .and ek (.b8 a) (.b8 b) = some (.b8 (a &&& b)) := rfl
theorem cI32 {b : UInt8} : cIntPV .i32 (.b8 b) = some (.int .i32 (b.toNat : Int)) := rfl
theorem is2 (c : UInt8) : UInt8.ofNat (c.toNat / 32) = 6 ↔ 192 ≤ c.toNat ∧ c.toNat < 224 := all256 (p := fun c => UInt8.ofNat (c.toNat / 32) = 6 ↔ 192 ≤ c.toNat ∧ c.toNat < 224) (by decide +kernel) c
theorem is3 (c : UInt8) : UInt8.ofNat (c.toNat / 16) = 14 ↔ 224 ≤ c.toNat ∧ c.toNat < 240 := all256 (p := fun c => UInt8.ofNat (c.toNat / 16) = 14 ↔ 224 ≤ c.toNat ∧ c.toNat < 240) (by decide +kernel) c
theorem is4 (c : UInt8) : UInt8.ofNat (c.toNat / 8) = 30 ↔ 240 ≤ c.toNat ∧ c.toNat < 248 := all256 (p := fun c => UInt8.ofNat (c.toNat / 8) = 30 ↔ 240 ≤ c.toNat ∧ c.toNat < 248) (by decide +kernel) c
theorem isC (c : UInt8) : UInt8.ofNat (c.toNat / 64) = 2 ↔ 128 ≤ c.toNat ∧ c.toNat < 192 := all256 (p := fun c => UInt8.ofNat (c.toNat / 64) = 2 ↔ 128 ≤ c.toNat ∧ c.toNat < 192) (by decide +kernel) c
theorem and31 (c : UInt8) : (c &&& 31).toNat = c.toNat % 32 := all256 (p := fun c => (c &&& 31).toNat = c.toNat % 32) (by decide +kernel) c
theorem and15 (c : UInt8) : (c &&& 15).toNat = c.toNat % 16 := all256 (p := fun c => (c &&& 15).toNat = c.toNat % 16) (by decide +kernel) c
theorem and7 (c : UInt8) : (c &&& 7).toNat = c.toNat % 8 := all256 (p := fun c => (c &&& 7).toNat = c.toNat % 8) (by decide +kernel) c
theorem and63 (c : UInt8) : (c &&& 63).toNat = c.toNat % 64 := all256 (p := fun c => (c &&& 63).toNat = c.toNat % 64) (by decide +kernel) c
theorem wrap32 {n : Int} (h1 : -2147483648 ≤ n) (h2 : n < 2147483648) : IntKind.i32.wrap n = n := by
  unfold IntKind.wrap
  simp only [IntKind.signed, IntKind.bits]
  simp
  omega
theorem shl6 {ek : EK} {p : Nat} (h : p < 33554432) : binPV .shl ek (.int .i32 (p : Int)) (.int .u64 6) = some (.int .i32 ((64 * p : Nat) : Int)) := by
  simp only [binPV, shI]
  rw [if_neg (by omega)]
  have : (p : Int) * 2 ^ (min (6 : Int).toNat IntKind.i32.bits) = ((64 * p : Nat) : Int) := by
    have h6 : min (6 : Int).toNat IntKind.i32.bits = 6 := by decide
    rw [h6]; push_cast; omega
  simp only [this]
  rw [wrap32 (by omega) (by omega)]
theorem or_i32 {ek : EK} {p q : Nat} (h : p < 33554432) (hq : q < 64) : binPV .or ek (.int .i32 ((64 * p : Nat) : Int)) (.int .i32 (q : Int)) = some (.int .i32 ((64 * p + q : Nat) : Int)) := by
  simp only [binPV, binI, if_true]
  have h3 : (BitVec.ofInt IntKind.i32.bits ((64 * p : Nat) : Int) ||| BitVec.ofInt IntKind.i32.bits (q : Int)).toNat = 64 * p + q := by
    show (BitVec.ofInt 32 ((64 * p : Nat) : Int) ||| BitVec.ofInt 32 (q : Int)).toNat = _
    rw [BitVec.ofInt_natCast, BitVec.ofInt_natCast, BitVec.toNat_or, BitVec.toNat_ofNat, BitVec.toNat_ofNat, Nat.mod_eq_of_lt (by omega), Nat.mod_eq_of_lt (by omega)]
    have := Nat.two_pow_add_eq_or_of_lt (i := 6) (b := q) (by omega) p
    rw [show (2 : Nat) ^ 6 = 64 from rfl] at this
    exact this.symm
  rw [h3, wrap32 (by omega) (by omega)]

def lead (c : Nat) : Nat × Nat := if 192 ≤ c ∧ c < 224 then (c % 32, 2) else if 224 ≤ c ∧ c < 240 then (c % 16, 3) else if 240 ≤ c ∧ c < 248 then (c % 8, 4) else (0, 0)
def accP (l : List UInt8) (p : Nat) : Nat → Nat
  | 0 => p
  | k + 1 => 64 * accP l p k + (l.getD (k + 1) 0).toNat % 64
def contB (l : List UInt8) (k : Nat) : Prop := ∀ j, j < k → 128 ≤ (l.getD (j + 1) 0).toNat ∧ (l.getD (j + 1) 0).toNat < 192
instance {l : List UInt8} {k : Nat} : Decidable (contB l k) := by unfold contB; infer_instance
def pointN (q : Nat) : Prop := q < 55296 ∨ (57343 < q ∧ q ≤ 1114111)
instance {q : Nat} : Decidable (pointN q) := by unfold pointN; infer_instance
def lowN (n : Nat) : Nat := if n = 2 then 128 else if n = 3 then 2048 else 65536
def nextOf (l : List UInt8) : Option (Nat × Nat) :=
  if l = [] then none else if (l.getD 0 0).toNat < 128 then some ((l.getD 0 0).toNat, 1) else
    let r := lead (l.getD 0 0).toNat
    if r.2 = 0 ∨ l.length < r.2 ∨ ¬ contB l (r.2 - 1) ∨ ¬ pointN (accP l r.1 (r.2 - 1)) ∨ accP l r.1 (r.2 - 1) < lowN r.2 then none else some (accP l r.1 (r.2 - 1), r.2)
def nextV (l : List UInt8) : PV := match nextOf l with
  | some (p, n) => .tup [.int .i32 (p : Int), .int .i64 (n : Int), .int .i64 0]
  | none => .tup [.int .i32 0, .int .i64 0, .int .i64 (if l = [] then 42 else 20)]
theorem nextV_some {l : List UInt8} {p n : Nat} (h : nextOf l = some (p, n)) : nextV l = .tup [.int .i32 (p : Int), .int .i64 (n : Int), .int .i64 0] := by simp [nextV, h]
theorem nextV_none {l : List UInt8} (h : nextOf l = none) (hl : l ≠ []) : nextV l = .tup [.int .i32 0, .int .i64 0, .int .i64 20] := by simp [nextV, h, hl]

theorem isPoint_spec {p : Nat} : call prog (.fn 83 []) [.int .i32 (p : Int)] st = some (.bool (decide (pointN p)), st) := by
  refine call_of_W prog_83 ?_
  unfold F_utf_isPoint; dsimp only
  have e0 : (0 : Int) ≤ (p : Int) := by omega
  by_cases h1 : p ≤ 1114111
  · have e1 : (p : Int) ≤ 1114111 := by omega
    by_cases h2 : p < 55296
    · have e2 : (p : Int) < 55296 := by omega
      simp (maxSteps := 1000000) (disch := omega) only [e0, e1, e2, qaaz, qabz, qaiz, qajz, qakz, qalz, qamz, qanz, evOp, qaoz, qapz, qarz, qatz, qavz,
 ↓reduceIte, Nat.reduceEqDiff, List.append_nil, qawz, Option.map_some, qazz, qblz, qbpz, qbqz, qbsz, beq_true, beq_false, decide_true, Bool.false_eq_true, reduceCtorEq, Bool.not_true]
      rw [show decide (pointN p) = true by simp [pointN, h2]]
      exact end1 rfl Kp_bool
    · have e2 : ¬ (p : Int) < 55296 := by omega
      by_cases h3 : 57343 < p
      · have e3 : (57343 : Int) < (p : Int) := by omega
        simp (maxSteps := 1000000) (disch := omega) only [e0, e1, e2, e3, qaaz, qabz, qaiz, qajz, qakz, qalz, qamz, qanz, evOp, qaoz, qapz, qarz, qatz, qavz,
 ↓reduceIte, Nat.reduceEqDiff, List.append_nil, qawz, Option.map_some, qazz, qblz, qbpz, qbqz, qbrz, qbsz, beq_true, beq_false, decide_true, decide_false,
 Bool.false_eq_true, reduceCtorEq, Bool.not_false]
        rw [show decide (pointN p) = true by simp [pointN, h3, h1]]
        exact end1 rfl Kp_bool
      · have e3 : ¬ (57343 : Int) < (p : Int) := by omega
        simp (maxSteps := 1000000) (disch := omega) only [e0, e1, e2, e3, qaaz, qabz, qaiz, qajz, qakz, qalz, qamz, qanz, evOp, qaoz, qapz, qarz, qatz, qavz,
 ↓reduceIte, Nat.reduceEqDiff, List.append_nil, qawz, Option.map_some, qazz, qblz, qbpz, qbqz, qbrz, qbsz, beq_true, beq_false, decide_true, decide_false,
 Bool.false_eq_true, reduceCtorEq, Bool.not_false]
        rw [show decide (pointN p) = false from decide_eq_false (by unfold pointN; omega)]
        exact end1 rfl Kp_bool
  · have e1 : ¬ (p : Int) ≤ 1114111 := by omega
    simp (maxSteps := 1000000) (disch := omega) only [e0, e1, qaaz, qabz, qaiz, qajz, qakz, qalz, qamz, qanz, evOp, qaoz, qapz, qarz, qatz, qavz,
 ↓reduceIte, Nat.reduceEqDiff, List.append_nil, qawz, Option.map_some, qazz, qblz, qbqz, qbsz, beq_true, decide_true, decide_false,
 Bool.false_eq_true, reduceCtorEq]
    rw [show decide (pointN p) = false from decide_eq_false (by unfold pointN; omega)]
    exact end1 rfl Kp_bool

theorem accP_lt {l : List UInt8} {p : Nat} : ∀ k, accP l p k < (p + 1) * 64 ^ k := by
  intro k
  induction k with
  | zero => simp [accP]
  | succ k ih =>
    simp only [accP, Nat.pow_succ]
    have := Nat.mod_lt (l.getD (k + 1) 0).toNat (show 64 > 0 by omega)
    rw [← Nat.mul_assoc]
    generalize (p + 1) * 64 ^ k = z at *
    omega
theorem lead_cases (c : Nat) : lead c = (0, 0) ∨ (lead c = (c % 32, 2)) ∨ (lead c = (c % 16, 3)) ∨ (lead c = (c % 8, 4)) := by
  unfold lead
  split
  · exact .inr (.inl rfl)
  · split
    · exact .inr (.inr (.inl rfl))
    · split
      · exact .inr (.inr (.inr rfl))
      · exact .inl rfl
end Go.Ab
/-
  The point at a text's front: the program's function.
-/
namespace Go.Ab
variable {A : AP} {st s : St} {e : Env}

def scopeQ (A : AP) (b rest : ACode) (Q : Ex → Env → St → Prop) : Ex → Env → St → Prop
  | .goto l, e, s => if l = 0 then W A (.scopeAt b rest) e s Q else False
  | x, e, s => Q x e s
theorem W_scope1 {b rest : ACode} {Q : Ex → Env → St → Prop} (hl : findLabelA b 0 = some rest) (h : W A b e st (scopeQ A b rest Q)) : W A (.scope b) e st Q := by
  rw [W_scope]
  refine W_scopeAt (W_mono h ?_)
  intro x e s hq
  cases x with
  | goto l =>
    simp only [scopeQ] at hq
    split at hq
    · rename_i h0; subst h0
      simp only [hl]; exact hq
    · cases hq
  | normal => exact hq
  | ret => exact hq
  | exit i => exact hq

theorem mid_getD {l : List UInt8} {n k : Nat} (h : k + 1 < n) : ((l.take n).drop 1).getD k 0 = l.getD (k + 1) 0 := by
  simp only [List.getD, List.getElem?_drop, List.getElem?_take]
  rw [if_pos (by omega), Nat.add_comm]

set_option maxHeartbeats 1000000 in
theorem uNext_spec {x : PV} {l : List UInt8} (hx : x.by = some l) (hl : l.length ≤ 100000000) : call prog (.fn 77 []) [x] st = some (nextV l, st) := by
  refine call_of_W prog_77 ?_
  unfold F_utf_Next; dsimp only
  refine W_cut (fun E S => Kept st S ∧ E 0 = x) ?_ ?_
  · simp (maxSteps := 1000000) (disch := omega) only [qabz, qajz, qalz, evOp, qapz, qarz, qatz, qavz,
 ↓reduceIte, List.append_nil, qawz, true_and, and_true, reduceCtorEq]
    exact Kept.start
  rintro e S ⟨hk, h0⟩
  refine W_scope1 rfl ?_
  generalize hR : scopeQ prog _ _ _ = R
  have fin : ∀ (E : Env) (S : St) (p n c : Int), Kept st S → nextV l = .tup [.int .i32 p, .int .i64 n, .int .i64 c] → E 2 = .int .i32 p → E 3 = .int .i64 n → E 4 = .int .i64 c → R .ret E S := by
    intro E S p n c k1 hv k2 k3 k4
    rw [← hR]
    show endQ _ _ _ .ret E S
    rw [qblz]
    exact ⟨.tup [.int .i32 p, .int .i64 n, .int .i64 c], by simp [resOf, rvAll, rv1, k2, k3, k4, notTup, packRes], by rw [hv]; exact k1.leave rfl (fun _ _ => rfl)⟩
  have wrong : ∀ (E : Env) (S : St), Kept st S → nextOf l = none → l ≠ [] → R (.goto 0) E S := by
    intro E S k1 hv hne
    rw [← hR]
    simp only [scopeQ, if_true]
    refine W_scopeAt ?_
    simp (maxSteps := 1000000) (disch := omega) only [qaaz, qabz, qaez, qaiz, qajz, qalz, evOp, qapz, qarz, qatz, qazz, qblz]
    exact ⟨.tup [.int .i32 0, .int .i64 0, .int .i64 20], rfl, by rw [nextV_none hv hne]; exact k1.leave rfl (fun _ _ => rfl)⟩
  clear hR
  by_cases hne : l = []
  · have e1 : decide ((l.length : Int) = 0) = true := by simp [hne]
    simp (maxSteps := 1000000) (disch := omega) only [h0, len_by hx, e1, qaaz, qabz, qacz, qaiz, qajz, qalz, evOp, qaoz, qapz, qarz, qatz, qavz,
 ↓reduceIte, Option.map_some, qazz, qbaz, qbhz, qbtz, reduceCtorEq]
    exact fin _ _ 0 0 42 hk (by simp [nextV, nextOf, hne]) rfl rfl rfl
  have hlen : 0 < l.length := List.length_pos_iff.2 hne
  have e1 : ¬ ((l.length : Int) = 0) := by omega
  obtain ⟨c, hc⟩ : ∃ c, c = l.getD 0 0 := ⟨_, rfl⟩
  have hi0 : iaddrPV 1 x (.int .i64 0) = some (.cp [.b8 c]) := by rw [hc]; exact iaddr_by hx (by omega) (by simpa using hlen)
  by_cases h128 : c < 128
  · have h128' : c.toNat < 128 := by rw [UInt8.lt_iff_toNat_lt] at h128; simpa using h128
    simp (maxSteps := 1000000) (disch := omega) only [h0, len_by hx, e1, hi0, qciz, h128, cI32, qaaz, qabz, qacz, qadz, qaez, qaiz, qajz, qalz, evOp, qaoz, qapz, qarz, qatz, qavz,
 ↓reduceIte, Nat.reduceEqDiff, Option.map_some, qazz, qbaz, qbez, qbhz, qbtz, qbxz, qciz, decide_true, decide_false,
 Bool.false_eq_true, reduceCtorEq]
    exact fin _ _ (c.toNat : Int) 1 0 hk (nextV_some (p := c.toNat) (n := 1) (by unfold nextOf; rw [if_neg hne, ← hc, if_pos h128'])) rfl rfl rfl
  have h128' : ¬ c.toNat < 128 := by rw [UInt8.lt_iff_toNat_lt] at h128; simpa using h128
  obtain ⟨p, n, hpn⟩ : ∃ p n, lead c.toNat = (p, n) := ⟨_, _, rfl⟩
  have hnx : nextOf l = if n = 0 ∨ l.length < n ∨ ¬ contB l (n - 1) ∨ ¬ pointN (accP l p (n - 1)) ∨ accP l p (n - 1) < lowN n then none else some (accP l p (n - 1), n) := by
    unfold nextOf
    rw [if_neg hne, ← hc, if_neg h128', hpn]
  refine W_cut (fun E S => Kept st S ∧ E 0 = x ∧ E 5 = .int .i32 0) ?_ ?_
  · simp (maxSteps := 1000000) (disch := omega) only [h0, qabz, qajz, qalz, evOp, qapz, qarz, qatz, qavz,
 ↓reduceIte, true_and, and_true, reduceCtorEq]
    exact hk
  clear hk h0
  rintro e S ⟨hk, h0, h5⟩
  refine W_cut (fun E S => Kept st S ∧ E 0 = x ∧ E 5 = .int .i32 0 ∧ E 6 = .int .i64 0) ?_ ?_
  · simp (maxSteps := 1000000) (disch := omega) only [h0, h5, qabz, qajz, qalz, evOp, qapz, qarz, qatz, qavz,
 ↓reduceIte, Nat.reduceEqDiff, true_and, and_true, reduceCtorEq]
    exact hk
  clear hk h0 h5
  rintro e S ⟨hk, h0, h5, h6⟩
  refine W_cut (fun E S => Kept st S ∧ E 0 = x ∧ E 5 = .int .i32 0 ∧ E 6 = .int .i64 0) ?_ ?_
  · simp (maxSteps := 1000000) (disch := omega) only [h0, h5, h6, len_by hx, e1, qaaz, qabz, qacz, qaez, qajz, qalz, evOp, qaoz, qapz, qarz, qatz, qavz,
 ↓reduceIte, Nat.reduceEqDiff, Option.map_some, qazz, qbhz, qbtz, decide_false,
 Bool.false_eq_true, true_and, and_true, reduceCtorEq]
    exact hk
  clear hk h0 h5 h6
  rintro e S ⟨hk, h0, h5, h6⟩
  refine W_cut (fun E S => Kept st S ∧ E 0 = x ∧ E 5 = .int .i32 (p : Int) ∧ E 6 = .int .i64 (n : Int)) ?_ ?_
  · by_cases q2 : UInt8.ofNat (c.toNat / 32) = 6
    · have := (is2 c).1 q2
      obtain ⟨rfl, rfl⟩ : p = c.toNat % 32 ∧ n = 2 := by
        unfold lead at hpn; rw [if_pos this] at hpn; cases hpn; exact ⟨rfl, rfl⟩
      simp (maxSteps := 1000000) (disch := omega) only [h0, hi0, qciz, h128, shr5, eq_true q2, and_8, cI32, and31, qaaz, qabz, qacz, qadz, qajz, qalz, evOp, qaoz, qapz, qarz, qatz, qavz,
 ↓reduceIte, Nat.reduceEqDiff, Option.map_some, qazz, qbdz, qbhz, qbvz, qbxz, qciz, decide_true, decide_false,
 Bool.false_eq_true, true_and, reduceCtorEq]
      exact ⟨hk, rfl⟩
    have n2 : ¬ (192 ≤ c.toNat ∧ c.toNat < 224) := fun h => q2 ((is2 c).2 h)
    by_cases q3 : UInt8.ofNat (c.toNat / 16) = 14
    · have := (is3 c).1 q3
      obtain ⟨rfl, rfl⟩ : p = c.toNat % 16 ∧ n = 3 := by
        unfold lead at hpn; rw [if_neg n2, if_pos this] at hpn; cases hpn; exact ⟨rfl, rfl⟩
      simp (maxSteps := 1000000) (disch := omega) only [h0, hi0, qciz, h128, shr5, shr4, q2, eq_true q3, and_8, cI32, and15, qaaz, qabz, qacz, qadz, qajz, qalz, evOp, qaoz, qapz, qarz, qatz, qavz,
 ↓reduceIte, Nat.reduceEqDiff, Option.map_some, qazz, qbdz, qbhz, qbvz, qbxz, qciz, decide_true, decide_false,
 Bool.false_eq_true, true_and, reduceCtorEq]
      exact ⟨hk, rfl⟩
    have n3 : ¬ (224 ≤ c.toNat ∧ c.toNat < 240) := fun h => q3 ((is3 c).2 h)
    by_cases q4 : UInt8.ofNat (c.toNat / 8) = 30
    · have := (is4 c).1 q4
      obtain ⟨rfl, rfl⟩ : p = c.toNat % 8 ∧ n = 4 := by
        unfold lead at hpn; rw [if_neg n2, if_neg n3, if_pos this] at hpn; cases hpn; exact ⟨rfl, rfl⟩
      simp (maxSteps := 1000000) (disch := omega) only [h0, hi0, qciz, h128, shr5, shr4, shr3, q2, q3, eq_true q4, and_8, cI32, and7, qaaz, qabz, qacz, qadz, qajz, qalz, evOp, qaoz, qapz, qarz, qatz, qavz,
 ↓reduceIte, Nat.reduceEqDiff, Option.map_some, qazz, qbdz, qbhz, qbvz, qbxz, qciz, decide_true, decide_false,
 Bool.false_eq_true, true_and, reduceCtorEq]
      exact ⟨hk, rfl⟩
    have n4 : ¬ (240 ≤ c.toNat ∧ c.toNat < 248) := fun h => q4 ((is4 c).2 h)
    obtain ⟨rfl, rfl⟩ : p = 0 ∧ n = 0 := by
      unfold lead at hpn; rw [if_neg n2, if_neg n3, if_neg n4] at hpn; cases hpn; exact ⟨rfl, rfl⟩
    simp (maxSteps := 1000000) (disch := omega) only [h0, h5, h6, hi0, qciz, h128, shr5, shr4, shr3, q2, q3, q4, qaaz, qabz, qacz, qadz, qaez, qajz, qalz, evOp, qaoz, qapz, qarz, qatz, qavz,
 ↓reduceIte, Nat.reduceEqDiff, Option.map_some, qazz, qbdz, qbhz, qbvz, qbxz, qciz, decide_false,
 Bool.false_eq_true, true_and, reduceCtorEq]
    exact ⟨hk, rfl, rfl⟩
  clear hk h0 h5 h6
  rintro e S ⟨hk, h0, h5, h6⟩
  by_cases hn0 : n = 0
  · have e2 : decide ((n : Int) = 0) = true := by simp [hn0]
    simp (maxSteps := 1000000) (disch := omega) only [h6, e2, qaaz, qabz, qacz, qahz, qajz, qakz, qalz, qamz, qanz, evOp, qaoz, qapz, qarz, qatz, qavz,
 ↓reduceIte, Nat.reduceEqDiff, Option.map_some, qazz, qbcz, qbhz, qbtz, beq_false, Bool.false_eq_true, Bool.not_true]
    exact wrong _ _ hk (by rw [hnx, if_pos (.inl hn0)]) hne
  have e2 : ¬ (n : Int) = 0 := by omega
  by_cases hln : l.length < n
  · have e3 : (l.length : Int) < (n : Int) := by omega
    simp (maxSteps := 1000000) (disch := omega) only [h0, h6, len_by hx, e2, e3, qaaz, qabz, qacz, qahz, qajz, qakz, qalz, qamz, qanz, evOp, qaoz, qapz, qarz, qatz, qavz,
 ↓reduceIte, Nat.reduceEqDiff, Option.map_some, qazz, qbcz, qbhz, qbpz, qbtz, beq_false, decide_true, decide_false,
 Bool.false_eq_true, reduceCtorEq, Bool.not_false]
    exact wrong _ _ hk (by rw [hnx, if_pos (.inr (.inl hln))]) hne
  have e3 : ¬ (l.length : Int) < (n : Int) := by omega
  have hn24 : (n = 2 ∧ p < 32) ∨ (n = 3 ∧ p < 16) ∨ (n = 4 ∧ p < 8) := by
    rcases lead_cases c.toNat with h | h | h | h
    · rw [hpn] at h; cases h; exact absurd rfl hn0
    · rw [hpn] at h; cases h; exact .inl ⟨rfl, by omega⟩
    · rw [hpn] at h; cases h; exact .inr (.inl ⟨rfl, by omega⟩)
    · rw [hpn] at h; cases h; exact .inr (.inr ⟨rfl, by omega⟩)
  have hacc : ∀ k, k ≤ 3 → accP l p k < 33554432 := by
    intro k hk
    have := accP_lt (l := l) (p := p) k
    have h64 : (p + 1) * 64 ^ k ≤ 32 * 64 ^ 3 := Nat.mul_le_mul (by omega) (Nat.pow_le_pow_right (by omega) hk)
    have : 32 * 64 ^ 3 = 8388608 := by decide
    omega
  refine W_cut (fun E S => Kept st S ∧ E 0 = x ∧ E 5 = .int .i32 (p : Int) ∧ E 6 = .int .i64 (n : Int)) ?_ ?_
  · simp (maxSteps := 1000000) (disch := omega) only [h0, h5, h6, len_by hx, e2, e3, qaaz, qabz, qacz, qaez, qajz, qakz, qalz, qamz, qanz, evOp, qaoz, qapz, qarz, qatz, qavz,
 ↓reduceIte, Nat.reduceEqDiff, Option.map_some, qazz, qbhz, qbpz, qbtz, beq_false, decide_false,
 Bool.false_eq_true, true_and, and_true, reduceCtorEq, Bool.not_false]
    exact hk
  clear hk h0 h5 h6
  rintro e S ⟨hk, h0, h5, h6⟩
  have hml : ((l.take n).drop 1).length = n - 1 := by simp; omega
  have hslc : slcPV 1 x (some (.int .i64 1)) (some (.int .i64 (n : Int))) none = some (x.midB 1 n) := by
    have := slc_lohi (k := .i64) (k' := .i64) (c := 1) (d := (n : Int)) hx (by omega) (by omega) (by simpa using (by omega : n ≤ l.length))
    simpa using this
  have hmb : (x.midB 1 n).by = some ((l.take n).drop 1) := midB_by hx
  have hlm := len_by hmb
  rw [hml] at hlm
  obtain ⟨I, hI⟩ : ∃ I : Nat → Env → St → Prop, I = fun m E S => ∃ k, m = n - 1 - k ∧ k ≤ n - 1 ∧ contB l k ∧ Kept st S ∧ E 0 = x ∧ E 5 = .int .i32 ((accP l p k : Nat) : Int) ∧ E 6 = .int .i64 (n : Int) ∧ E 52 = x.midB 1 n ∧ E 53 = .int .i64 ((n - 1 : Nat) : Int) ∧ E 54 = .int .i64 (k : Int) := ⟨_, rfl⟩
  -- one round of the loop
  have start : I (n - 1) (upd (upd (upd (upd (upd e 50 x) 51 (.int .i64 (n : Int))) 52 (x.midB 1 n)) 53 (.int .i64 ((n - 1 : Nat) : Int))) 54 (.int .i64 0)) S := by
    rw [hI]
    exact ⟨0, rfl, by omega, fun j h => by omega, hk, h0, h5, h6, rfl, rfl, rfl⟩
  have nxt : ∀ (k : Nat) (E : Env) (S : St), contB l (k + 1) → k + 1 ≤ n - 1 → Kept st S → E 0 = x → E 5 = .int .i32 ((accP l p (k + 1) : Nat) : Int) → E 6 = .int .i64 (n : Int) → E 52 = x.midB 1 n → E 53 = .int .i64 ((n - 1 : Nat) : Int) → E 54 = .int .i64 ((k + 1 : Nat) : Int) → I (n - 1 - (k + 1)) E S := by
    intro k E S q1 q2 q3 q4 q5 q6 q7 q8 q9
    rw [hI]; exact ⟨k + 1, rfl, q2, q1, q3, q4, q5, q6, q7, q8, q9⟩
  by_cases hcb : contB l (n - 1)
  · refine W_cut (fun E S => Kept st S ∧ E 0 = x ∧ E 5 = .int .i32 ((accP l p (n - 1) : Nat) : Int) ∧ E 6 = .int .i64 (n : Int)) ?_ ?_
    · simp (maxSteps := 1000000) (disch := omega) only [h0, h6, hslc, hlm, qaaz, qabz, qadz, qajz, qalz, evOp, qaoz, qapz, qarz, qatz, qavz,
 ↓reduceIte, Nat.reduceEqDiff, Option.map_some, Option.map_none, qazz]
      refine W_loop I ?_ start
      clear hk h0 h5 h6 start
      intro m E S hh
      rw [hI] at hh
      obtain ⟨k, rfl, hk1, hck, hk, h0, h5, h6, h52, h53, h54⟩ := hh
      by_cases hlt : k < n - 1
      · obtain ⟨d, hd⟩ : ∃ d, d = l.getD (k + 1) 0 := ⟨_, rfl⟩
        have hid : iaddrPV 1 (x.midB 1 n) (.int .i64 (k : Int)) = some (.cp [.b8 d]) := by
          rw [iaddr_by hmb (by omega) (by rw [hml]; simpa using hlt), Int.toNat_natCast, mid_getD (by omega), ← hd]
        have hdc := hcb k hlt
        rw [← hd] at hdc
        have q6 : UInt8.ofNat (d.toNat / 64) = 2 := (isC d).2 hdc
        have ha := hacc k (by omega)
        have hstep : accP l p (k + 1) = 64 * accP l p k + d.toNat % 64 := by rw [hd]; rfl
        simp (maxSteps := 1000000) (disch := omega) only [h5, h52, h53, h54, hlt, hid, qciz, shr6, eq_true q6, shl6 ha, and_8, cI32, and63, or_i32 (q := d.toNat % 64) ha (by omega), add_n, qaaz, qabz, qacz, qadz, qaez, qajz, qalz, evOp, qaoz, qapz, qarz, qatz, qavz,
 ↓reduceIte, Nat.reduceEqDiff, Option.map_some, qazz, qbdz, qbhz, qbpz, qbwz, qciz, decide_true, decide_false,
 Int.ofNat_lt, Bool.false_eq_true, Int.reduceToNat, ne_eq, not_true_eq_false]
        exact loopQ_intro (m := n - 1 - (k + 1)) (by omega) (nxt k _ _ (fun j hj => by
          by_cases hjk : j = k
          · subst hjk; rw [← hd]; exact hdc
          · exact hck j (by omega)) (by omega) hk h0 (by rw [hstep]; rfl) h6 h52 h53 rfl)
      · obtain rfl : k = n - 1 := by omega
        simp (maxSteps := 1000000) (disch := omega) only [h0, h5, h6, h53, h54, hlt, qaaz, qabz, qacz, qagz, qajz, qalz, evOp, qaoz, qarz, qatz, qavz,
 ↓reduceIte, Nat.reduceEqDiff, Option.map_some, qazz, qbbz, qbfz, qbhz, qbjz, qbpz, decide_false,
 Int.ofNat_lt, Bool.false_eq_true, true_and, and_true, reduceCtorEq]
        exact hk
    clear hk h0 h5 h6 start
    rintro e S ⟨hk, h0, h5, h6⟩
    obtain ⟨v, hv⟩ : ∃ v, v = accP l p (n - 1) := ⟨_, rfl⟩
    rw [← hv] at h5 hnx
    have hip := fun S : St => isPoint_spec (st := S) (p := v)
    by_cases hpt : pointN v
    · simp only [decide_eq_true hpt] at hip
      by_cases hlow : v < lowN n
      · have hno : nextOf l = none := by rw [hnx, if_pos (.inr (.inr (.inr (.inr hlow))))]
        rcases hn24 with ⟨rfl, -⟩ | ⟨rfl, -⟩ | ⟨rfl, -⟩
        · have h6' : e 6 = .int .i64 2 := h6
          have f1 : (v : Int) < 128 := by simp [lowN] at hlow; omega
          simp (maxSteps := 1000000) (disch := omega) only [h5, h6', hip, f1, qaaz, qabz, qacz, qahz, qajz, qakz, qalz, qamz, qanz, evOp, qaoz, qapz, qaqz, qarz, qatz, qavz,
 ↓reduceIte, Nat.reduceEqDiff, List.map_cons, List.map_nil, Option.map_some, qazz, qbcz, qbhz, qbpz, qbtz, qcfz, beq_true, beq_false, decide_true, Bool.false_eq_true, Bool.not_true, Bool.not_false]
          exact wrong _ _ hk hno hne
        · have h6' : e 6 = .int .i64 3 := h6
          have f1 : (v : Int) < 2048 := by simp [lowN] at hlow; omega
          simp (maxSteps := 1000000) (disch := omega) only [h5, h6', hip, f1, qaaz, qabz, qacz, qahz, qajz, qakz, qalz, qamz, qanz, evOp, qaoz, qapz, qaqz, qarz, qatz, qavz,
 ↓reduceIte, Nat.reduceEqDiff, List.map_cons, List.map_nil, Option.map_some, qazz, qbcz, qbhz, qbpz, qbtz, qcfz, beq_true, beq_false, decide_true, decide_false,
 Bool.false_eq_true, Bool.not_true, Bool.not_false, Int.reduceEq]
          exact wrong _ _ hk hno hne
        · have h6' : e 6 = .int .i64 4 := h6
          have f1 : (v : Int) < 65536 := by simp [lowN] at hlow; omega
          simp (maxSteps := 1000000) (disch := omega) only [h5, h6', hip, f1, qaaz, qabz, qacz, qahz, qajz, qakz, qalz, qamz, qanz, evOp, qaoz, qapz, qaqz, qarz, qatz, qavz,
 ↓reduceIte, Nat.reduceEqDiff, List.map_cons, List.map_nil, Option.map_some, qazz, qbcz, qbhz, qbpz, qbtz, qcfz, beq_true, beq_false, decide_true, decide_false,
 Bool.false_eq_true, Bool.not_true, Bool.not_false, Int.reduceEq]
          exact wrong _ _ hk hno hne
      · have hyes : nextOf l = some (v, n) := by
          rw [hnx, if_neg]
          simp only [not_or, Classical.not_not]
          exact ⟨hn0, hln, hcb, hpt, hlow⟩
        rcases hn24 with ⟨rfl, -⟩ | ⟨rfl, -⟩ | ⟨rfl, -⟩
        · have h6' : e 6 = .int .i64 2 := h6
          have f1 : ¬ (v : Int) < 128 := by simp [lowN] at hlow; omega
          simp (maxSteps := 1000000) (disch := omega) only [h5, h6', hip, f1, qaaz, qabz, qacz, qaez, qaiz, qajz, qakz, qalz, qamz, qanz, evOp, qaoz, qapz, qaqz, qarz, qatz, qavz,
 ↓reduceIte, Nat.reduceEqDiff, List.map_cons, List.map_nil, Option.map_some, qazz, qbaz, qbhz, qbpz, qbtz, qcfz, beq_true, beq_false, decide_true, decide_false,
 Bool.false_eq_true, Bool.not_true, Bool.not_false, Int.reduceEq]
          exact fin _ _ _ _ _ hk (nextV_some hyes) rfl rfl rfl
        · have h6' : e 6 = .int .i64 3 := h6
          have f1 : ¬ (v : Int) < 2048 := by simp [lowN] at hlow; omega
          simp (maxSteps := 1000000) (disch := omega) only [h5, h6', hip, f1, qaaz, qabz, qacz, qaez, qaiz, qajz, qakz, qalz, qamz, qanz, evOp, qaoz, qapz, qaqz, qarz, qatz, qavz,
 ↓reduceIte, Nat.reduceEqDiff, List.map_cons, List.map_nil, Option.map_some, qazz, qbaz, qbhz, qbpz, qbtz, qcfz, beq_true, beq_false, decide_true, decide_false,
 Bool.false_eq_true, Bool.not_true, Bool.not_false, Int.reduceEq]
          exact fin _ _ _ _ _ hk (nextV_some hyes) rfl rfl rfl
        · have h6' : e 6 = .int .i64 4 := h6
          have f1 : ¬ (v : Int) < 65536 := by simp [lowN] at hlow; omega
          simp (maxSteps := 1000000) (disch := omega) only [h5, h6', hip, f1, qaaz, qabz, qacz, qaez, qaiz, qajz, qakz, qalz, qamz, qanz, evOp, qaoz, qapz, qaqz, qarz, qatz, qavz,
 ↓reduceIte, Nat.reduceEqDiff, List.map_cons, List.map_nil, Option.map_some, qazz, qbaz, qbhz, qbpz, qbtz, qcfz, beq_true, beq_false, decide_true, decide_false,
 Bool.false_eq_true, Bool.not_true, Bool.not_false, Int.reduceEq]
          exact fin _ _ _ _ _ hk (nextV_some hyes) rfl rfl rfl
    · simp only [decide_eq_false hpt] at hip
      simp (maxSteps := 1000000) (disch := omega) only [h5, hip, qaaz, qabz, qacz, qahz, qajz, qakz, qalz, qamz, qanz, evOp, qaoz, qapz, qaqz, qarz, qatz, qavz,
 ↓reduceIte, Nat.reduceEqDiff, List.map_cons, List.map_nil, Option.map_some, qazz, qbcz, qbhz, qcfz, beq_false, Bool.false_eq_true, Bool.not_true, Bool.not_false]
      exact wrong _ _ hk (by rw [hnx, if_pos (.inr (.inr (.inr (.inl hpt))))]) hne
  · have hno : nextOf l = none := by rw [hnx, if_pos (.inr (.inr (.inl hcb)))]
    simp (maxSteps := 1000000) (disch := omega) only [h0, h6, hslc, hlm, qaaz, qabz, qadz, qajz, qalz, evOp, qaoz, qapz, qarz, qatz, qavz,
 ↓reduceIte, Nat.reduceEqDiff, Option.map_some, Option.map_none, qazz]
    refine W_loop I ?_ start
    clear hk h0 h5 h6 start
    intro m E S hh
    rw [hI] at hh
    obtain ⟨k, rfl, hk1, hck, hk, h0, h5, h6, h52, h53, h54⟩ := hh
    by_cases hlt : k < n - 1
    · obtain ⟨d, hd⟩ : ∃ d, d = l.getD (k + 1) 0 := ⟨_, rfl⟩
      have hid : iaddrPV 1 (x.midB 1 n) (.int .i64 (k : Int)) = some (.cp [.b8 d]) := by
        rw [iaddr_by hmb (by omega) (by rw [hml]; simpa using hlt), Int.toNat_natCast, mid_getD (by omega), ← hd]
      by_cases q6 : UInt8.ofNat (d.toNat / 64) = 2
      · have hdc := (isC d).1 q6
        have ha := hacc k (by omega)
        have hstep : accP l p (k + 1) = 64 * accP l p k + d.toNat % 64 := by rw [hd]; rfl
        simp (maxSteps := 1000000) (disch := omega) only [h5, h52, h53, h54, hlt, hid, qciz, shr6, eq_true q6, shl6 ha, and_8, cI32, and63, or_i32 (q := d.toNat % 64) ha (by omega), add_n, qaaz, qabz, qacz, qadz, qaez, qajz, qalz, evOp, qaoz, qapz, qarz, qatz, qavz,
 ↓reduceIte, Nat.reduceEqDiff, Option.map_some, qazz, qbdz, qbhz, qbpz, qbwz, qciz, decide_true, decide_false,
 Int.ofNat_lt, Bool.false_eq_true, Int.reduceToNat, ne_eq, not_true_eq_false]
        exact loopQ_intro (m := n - 1 - (k + 1)) (by omega) (nxt k _ _ (fun j hj => by
          by_cases hjk : j = k
          · subst hjk; rw [← hd]; exact hdc
          · exact hck j (by omega)) (by omega) hk h0 (by rw [hstep]; rfl) h6 h52 h53 rfl)
      · simp (maxSteps := 1000000) (disch := omega) only [h52, h53, h54, hlt, hid, qciz, shr6, q6, qaaz, qabz, qacz, qadz, qaez, qahz, qajz, qalz, evOp, qaoz, qapz, qarz, qatz, qavz,
 ↓reduceIte, Nat.reduceEqDiff, Option.map_some, qazz, qbcz, qbgz, qbhz, qbkz, qbpz, qbwz, qciz, decide_true, Int.ofNat_lt, ne_eq, not_false_eq_true]
        exact wrong _ _ hk hno hne
    · obtain rfl : k = n - 1 := by omega
      exact absurd hck hcb
end Go.Ab
/-
  A point's bytes, by the document; the point at a text's front is the one whose bytes stand there.
-/
namespace Go.Ab
variable {st s : St} {e : Env}

def putOf (p : Nat) : List UInt8 :=
  if p < 128 then [UInt8.ofNat p] else if p < 2048 then [UInt8.ofNat (192 + p / 64), UInt8.ofNat (128 + p % 64)]
  else if p < 65536 then [UInt8.ofNat (224 + p / 4096), UInt8.ofNat (128 + p / 64 % 64), UInt8.ofNat (128 + p % 64)]
  else [UInt8.ofNat (240 + p / 262144), UInt8.ofNat (128 + p / 4096 % 64), UInt8.ofNat (128 + p / 64 % 64), UInt8.ofNat (128 + p % 64)]

end Go.Ab
/-
  The point at the front is the one whose bytes stand there.
-/
namespace Go.Ab
variable {st s : St} {e : Env}

def mdN (n : Nat) : Nat := if n = 2 then 32 else if n = 3 then 16 else 8
def qN (l : List UInt8) (n : Nat) : Nat := accP l ((l.getD 0 0).toNat % mdN n) (n - 1)
def succN (l : List UInt8) (n : Nat) : Prop := pointN (qN l n) ∧ putOf (qN l n) = l.take n

theorem u8_of {a : UInt8} {k : Nat} (h : k = a.toNat) : UInt8.ofNat k = a := by rw [h]; simp
theorem of_u8 {a : UInt8} {k : Nat} (h : UInt8.ofNat k = a) (hk : k < 256) : k = a.toNat := by
  rw [← h]; simp; omega

theorem lead2 {c : Nat} (h : 192 ≤ c ∧ c < 224) : lead c = (c % 32, 2) := by unfold lead; rw [if_pos h]
theorem lead3 {c : Nat} (h : 224 ≤ c ∧ c < 240) : lead c = (c % 16, 3) := by unfold lead; rw [if_neg (by omega), if_pos h]
theorem lead4 {c : Nat} (h : 240 ≤ c ∧ c < 248) : lead c = (c % 8, 4) := by unfold lead; rw [if_neg (by omega), if_neg (by omega), if_pos h]

theorem next_of {l : List UInt8} {p n : Nat} (hne : l ≠ []) (hc : ¬ (l.getD 0 0).toNat < 128) (hl : lead (l.getD 0 0).toNat = (p, n)) (hn : n ≠ 0) (hlen : n ≤ l.length) (hcb : contB l (n - 1)) (hp : pointN (accP l p (n - 1))) (hlow : lowN n ≤ accP l p (n - 1)) :
    nextOf l = some (accP l p (n - 1), n) := by
  unfold nextOf
  rw [if_neg hne, if_neg hc, hl, if_neg]
  simp only [not_or, Classical.not_not]
  exact ⟨hn, by omega, hcb, hp, by omega⟩

theorem succ_next {l : List UInt8} {n : Nat} (hn : n = 2 ∨ n = 3 ∨ n = 4) (hlen : n ≤ l.length) (hc : ¬ (l.getD 0 0).toNat < 128) (h : succN l n) : nextOf l = some (qN l n, n) := by
  have hne : l ≠ [] := by rintro rfl; simp at hlen; omega
  obtain ⟨h1, h2⟩ := h
  rcases hn with rfl | rfl | rfl
  · match l, hlen with
    | a :: b :: r, _ =>
      simp only [qN, mdN, accP, if_true, List.getD_cons_zero, List.getD_cons_succ, Nat.reduceSub, List.take_succ_cons, List.take_zero] at h1 h2 hc ⊢
      have ha := a.toNat_lt; have hb := b.toNat_lt
      obtain ⟨q, hq⟩ : ∃ q, q = 64 * (a.toNat % 32) + b.toNat % 64 := ⟨_, rfl⟩
      rw [← hq] at h1 h2 ⊢
      unfold putOf at h2
      split at h2
      · simp at h2
      · split at h2
        · simp only [List.cons.injEq, and_true] at h2
          have e1 := of_u8 h2.1 (by omega)
          have e2 := of_u8 h2.2 (by omega)
          have := next_of (l := a :: b :: r) (p := a.toNat % 32) (n := 2) hne (by simpa using hc) (lead2 (by simp only [List.getD_cons_zero]; omega)) (by omega) (by simp) (by
            intro j hj
            match j, hj with
            | 0, _ => simp only [List.getD_cons_succ, List.getD_cons_zero]; omega) (by simpa [accP, ← hq] using h1) (by simp [accP, lowN, ← hq]; omega)
          simpa [accP, ← hq] using this
        · split at h2 <;> simp at h2
  · match l, hlen with
    | a :: b :: c :: r, _ =>
      simp only [qN, mdN, accP, if_true, List.getD_cons_zero, List.getD_cons_succ, Nat.reduceSub, Nat.reduceEqDiff, if_false, List.take_succ_cons, List.take_zero] at h1 h2 hc ⊢
      have ha := a.toNat_lt; have hb := b.toNat_lt; have hcc := c.toNat_lt
      obtain ⟨q, hq⟩ : ∃ q, q = 64 * (64 * (a.toNat % 16) + b.toNat % 64) + c.toNat % 64 := ⟨_, rfl⟩
      rw [← hq] at h1 h2 ⊢
      unfold putOf at h2
      split at h2
      · simp at h2
      · split at h2
        · simp at h2
        · split at h2
          · simp only [List.cons.injEq, and_true] at h2
            have e1 := of_u8 h2.1 (by omega)
            have e2 := of_u8 h2.2.1 (by omega)
            have e3 := of_u8 h2.2.2 (by omega)
            have := next_of (l := a :: b :: c :: r) (p := a.toNat % 16) (n := 3) hne (by simpa using hc) (lead3 (by simp only [List.getD_cons_zero]; omega)) (by omega) (by simp) (by
              intro j hj
              match j, hj with
              | 0, _ => simp only [List.getD_cons_succ, List.getD_cons_zero]; omega
              | 1, _ => simp only [List.getD_cons_succ, List.getD_cons_zero]; omega) (by simpa [accP, ← hq] using h1) (by simp [accP, lowN, ← hq]; omega)
            simpa [accP, ← hq] using this
          · simp at h2
  · match l, hlen with
    | a :: b :: c :: d :: r, _ =>
      simp only [qN, mdN, accP, List.getD_cons_zero, List.getD_cons_succ, Nat.reduceSub, Nat.reduceEqDiff, if_false, List.take_succ_cons, List.take_zero] at h1 h2 hc ⊢
      have ha := a.toNat_lt; have hb := b.toNat_lt; have hcc := c.toNat_lt; have hdd := d.toNat_lt
      obtain ⟨q, hq⟩ : ∃ q, q = 64 * (64 * (64 * (a.toNat % 8) + b.toNat % 64) + c.toNat % 64) + d.toNat % 64 := ⟨_, rfl⟩
      rw [← hq] at h1 h2 ⊢
      have hq2 : q ≤ 1114111 := by unfold pointN at h1; omega
      unfold putOf at h2
      split at h2
      · simp at h2
      · split at h2
        · simp at h2
        · split at h2
          · simp at h2
          · simp only [List.cons.injEq, and_true] at h2
            have e1 := of_u8 h2.1 (by omega)
            have e2 := of_u8 h2.2.1 (by omega)
            have e3 := of_u8 h2.2.2.1 (by omega)
            have e4 := of_u8 h2.2.2.2 (by omega)
            have := next_of (l := a :: b :: c :: d :: r) (p := a.toNat % 8) (n := 4) hne (by simpa using hc) (lead4 (by simp only [List.getD_cons_zero]; omega)) (by omega) (by simp) (by
              intro j hj
              match j, hj with
              | 0, _ => simp only [List.getD_cons_succ, List.getD_cons_zero]; omega
              | 1, _ => simp only [List.getD_cons_succ, List.getD_cons_zero]; omega
              | 2, _ => simp only [List.getD_cons_succ, List.getD_cons_zero]; omega) (by simpa [accP, ← hq] using h1) (by simp [accP, lowN, ← hq]; omega)
            simpa [accP, ← hq] using this

theorem next_succ {l : List UInt8} {v n : Nat} (hc : ¬ (l.getD 0 0).toNat < 128) (h : nextOf l = some (v, n)) : (n = 2 ∨ n = 3 ∨ n = 4) ∧ n ≤ l.length ∧ succN l n := by
  unfold nextOf at h
  split at h
  · cases h
  rename_i hne
  simp only at h
  split at h
  · cases h
  rename_i hcond
  simp only [not_or, Classical.not_not] at hcond
  obtain ⟨c1, c2, c3, c4, c5⟩ := hcond
  simp only [Option.some.injEq, Prod.mk.injEq] at h
  obtain ⟨hv, hn⟩ := h
  rw [hn] at c1 c2 c3 c4 c5 hv
  have hl : lead (l.getD 0 0).toNat = ((lead (l.getD 0 0).toNat).1, n) := by rw [← hn]
  unfold lead at hl
  split at hl
  · rename_i hr
    simp only [Prod.mk.injEq] at hl
    obtain ⟨-, rfl⟩ := hl
    rw [lead2 hr] at c4 c5
    match l, c2 with
    | a :: b :: r, _ =>
      refine ⟨.inl rfl, by simp, ?_⟩
      have hb := c3 0 (by omega)
      simp only [succN, qN, mdN, accP, lowN, if_true, List.getD_cons_zero, List.getD_cons_succ, Nat.reduceSub, List.take_succ_cons, List.take_zero] at hr hb c4 c5 ⊢
      obtain ⟨q, hq⟩ : ∃ q, q = 64 * (a.toNat % 32) + b.toNat % 64 := ⟨_, rfl⟩
      rw [← hq] at c4 c5 ⊢
      refine ⟨c4, ?_⟩
      unfold putOf
      rw [if_neg (by omega), if_pos (by omega), u8_of (a := a) (by omega), u8_of (a := b) (by omega)]
    | [], h => simp at h
    | [a], h => simp at h
  · split at hl
    · rename_i hr
      simp only [Prod.mk.injEq] at hl
      obtain ⟨-, rfl⟩ := hl
      rw [lead3 hr] at c4 c5
      match l, c2 with
      | a :: b :: c :: r, _ =>
        refine ⟨.inr (.inl rfl), by simp, ?_⟩
        have hb := c3 0 (by omega)
        have hb2 := c3 1 (by omega)
        simp only [succN, qN, mdN, accP, lowN, if_true, List.getD_cons_zero, List.getD_cons_succ, Nat.reduceSub, Nat.reduceEqDiff, if_false, List.take_succ_cons, List.take_zero] at hr hb hb2 c4 c5 ⊢
        obtain ⟨q, hq⟩ : ∃ q, q = 64 * (64 * (a.toNat % 16) + b.toNat % 64) + c.toNat % 64 := ⟨_, rfl⟩
        rw [← hq] at c4 c5 ⊢
        refine ⟨c4, ?_⟩
        unfold putOf
        rw [if_neg (by omega), if_neg (by omega), if_pos (by omega), u8_of (a := a) (by omega), u8_of (a := b) (by omega), u8_of (a := c) (by omega)]
      | [], h => simp at h
      | [a], h => simp at h
      | [a, b], h => simp at h
    · split at hl
      · rename_i hr
        simp only [Prod.mk.injEq] at hl
        obtain ⟨-, rfl⟩ := hl
        rw [lead4 hr] at c4 c5
        match l, c2 with
        | a :: b :: c :: d :: r, _ =>
          refine ⟨.inr (.inr rfl), by simp, ?_⟩
          have hb := c3 0 (by omega)
          have hb2 := c3 1 (by omega)
          have hb3 := c3 2 (by omega)
          simp only [succN, qN, mdN, accP, lowN, List.getD_cons_zero, List.getD_cons_succ, Nat.reduceSub, Nat.reduceEqDiff, if_false, List.take_succ_cons, List.take_zero] at hr hb hb2 hb3 c4 c5 ⊢
          obtain ⟨q, hq⟩ : ∃ q, q = 64 * (64 * (64 * (a.toNat % 8) + b.toNat % 64) + c.toNat % 64) + d.toNat % 64 := ⟨_, rfl⟩
          rw [← hq] at c4 c5 ⊢
          refine ⟨c4, ?_⟩
          unfold putOf
          rw [if_neg (by omega), if_neg (by omega), if_neg (by omega), u8_of (a := a) (by omega), u8_of (a := b) (by omega), u8_of (a := c) (by omega), u8_of (a := d) (by omega)]
        | [], h => simp at h
        | [a], h => simp at h
        | [a, b], h => simp at h
        | [a, b, c], h => simp at h
      · simp only [Prod.mk.injEq] at hl
        exact absurd hl.2.symm c1
end Go.Ab
/-
  The point at a text's front: the document's function.
-/
namespace Go.Ab
variable {st s : St} {e : Env}

end Go.Ab
/-
  A text's points; whether it is one.
-/
namespace Go.Ab
variable {st s : St} {e : Env}

theorem next_pos {l : List UInt8} {p n : Nat} (h : nextOf l = some (p, n)) : 1 ≤ n ∧ n ≤ l.length ∧ p < 2147483648 := by
  by_cases hc : (l.getD 0 0).toNat < 128
  · unfold nextOf at h
    split at h
    · cases h
    · rename_i hne
      cases h
      have := List.length_pos_iff.2 hne
      omega
  · obtain ⟨h1, h2, h3⟩ := next_succ hc h
    have h4 := succ_next h1 h2 hc h3
    rw [h] at h4
    simp only [Option.some.injEq, Prod.mk.injEq] at h4
    have := h3.1
    rw [← h4.1] at this
    unfold pointN at this
    omega

def ptsOf : Nat → List UInt8 → Nat → Except Nat (List Nat)
  | 0, _, _ => .ok []
  | k + 1, l, i => if i < l.length then match nextOf (l.drop i) with
    | none => .error i
    | some (p, n) => match ptsOf k l (i + n) with
      | .ok r => .ok (p :: r)
      | .error j => .error j
    else .ok []
def ptV (p : Nat) : PV := .int .i32 (p : Int)
def ptsV (st : St) (r : Except Nat (List Nat)) : PV × St := match r with
  | .ok ps => (.tup [newSl st 1 (ps.map ptV), .agg [.int .i64 0, .int .i64 0]], newS st (ps.map ptV).isEmpty)
  | .error j => (.tup [.nils, .agg [.int .i64 (j : Int), .int .i64 20]], st)

theorem Kept.appS {esz : Nat} {v : PV} {xs : List PV} (hk : Kept st s) (h : Own st s esz v xs) : Kept st (Ab.appS s v) := by
  have htl := hk.tl
  rcases h with ⟨rfl, rfl⟩ | ⟨i, rfl, h2, h3⟩
  · exact hk.tok1
  · refine hk.of rfl rfl hk.lw (fun j hj => ?_) ?_
    · show (s.toks.set i false ++ [true])[j]? = s.toks[j]?
      rw [List.getElem?_append_left (by simp; omega), List.getElem?_set_ne (by omega)]
    · show st.toks.length ≤ (s.toks.set i false ++ [true]).length
      simp; omega
theorem Own.appK {esz : Nat} {v : PV} {xs ys : List PV} (hk : Kept st s) (h : Own st s esz v xs) : Own st (Ab.appS s v) esz (.sl esz (.own s.toks.length) ys) ys := by
  have htl := hk.tl
  refine .inr ⟨_, rfl, htl, ?_⟩
  rcases h with ⟨rfl, rfl⟩ | ⟨i, rfl, h2, h3⟩
  · simp [Ab.appS, St.tok1]
  · show (s.toks.set i false ++ [true])[s.toks.length]? = some true
    rw [List.getElem?_append_right (by simp)]; simp
theorem leave_ownA {v : PV} {xs : List PV} {a b : Int} (hk : Kept st s) (h : Own st s 1 v xs) (hne : xs = [] → v = .nils) : leave st s (.tup [v, .agg [.int .i64 a, .int .i64 b]]) = (.tup [newSl st 1 xs, .agg [.int .i64 a, .int .i64 b]], newS st xs.isEmpty) := by
  have e1 := hk.bx; have e2 := hk.lp; have e3 := hk.tk
  rcases h with ⟨rfl, rfl⟩ | ⟨i, rfl, h2, h3⟩
  · simp [leave, PV.inB, PV.inB.inBAll, hk.lw, keepRes, keepVals, keepVal, keepCells, keepLeaf, e1, e2, e3, newSl, newS]
  · by_cases hx : xs = []
    · have := hne hx; cases this
    · simp [leave, PV.inB, PV.inB.inBAll, hk.lw, keepRes, keepVals, keepVal, keepCells, keepLeaf, keepTok, h3, show ¬ i < st.toks.length by omega, e1, e2, e3, newSl, newS, hx, St.tok1]
theorem liti1 {p : Int} : litFill 1 (List.replicate 1 (.int .i32 0)) [(0, .int .i32 p)] = some [.int .i32 p] := lit1 rfl rfl
theorem build2i {a b : Int} : buildCells [.int .i64 0, .int .i64 0] [(0, 1, .int .i64 a), (1, 1, .int .i64 b)] = some [.int .i64 a, .int .i64 b] := by
  simp [buildCells, PV.cells, leafOk, setCells]
theorem build0i : buildCells [.int .i64 0, .int .i64 0] [] = some [.int .i64 0, .int .i64 0] := rfl

def FB (st s : St) (a b : Int) : Prop := st.boxes.length < s.boxes.length ∧ s.boxes[st.boxes.length]? = some [.int .i64 a, .int .i64 b]
theorem FB.store {a b c d : Int} (hk : Kept st s) (h : FB st s a b) : ∃ s', storePV s 2 (.ptr st.boxes.length 0) (.agg [.int .i64 c, .int .i64 d]) = some s' ∧ Kept st s' ∧ FB st s' c d ∧ s'.toks = s.toks := by
  refine ⟨{ s with boxes := s.boxes.set st.boxes.length [.int .i64 c, .int .i64 d] }, ?_, ?_, ⟨by simpa using h.1, by simp [h.1]⟩, rfl⟩
  · simp [storePV, h.2, PV.cells, PV.inB, PV.inB.inBAll, leafOk, hasTok, tokOf, setCells]
  · exact hk.of (by rw [List.take_set_of_le (Nat.le_refl _)]) rfl hk.lw (fun _ _ => rfl) hk.tl
theorem FB.load {a b : Int} (h : FB st s a b) : loadPV s true 2 (.ptr st.boxes.length 0) = some (.agg [.int .i64 a, .int .i64 b]) := by
  simp [loadPV, h.2, readCells]
theorem FB.appS {v : PV} {esz : Nat} {xs : List PV} {a b : Int} (h : FB st s a b) (ho : Own st s esz v xs) : FB st (Ab.appS s v) a b := by
  rcases ho with ⟨rfl, rfl⟩ | ⟨i, rfl, _, _⟩ <;> exact h

set_option maxHeartbeats 1000000 in
theorem uPoints_spec {x : PV} {l : List UInt8} (hx : x.by = some l) (hl : l.length ≤ 100000000) : call prog (.fn 69 []) [x] st = some (ptsV st (ptsOf (l.length + 1) l 0)) := by
  refine call_of_W prog_69 ?_
  unfold F_utf_Points; dsimp only
  obtain ⟨T, hT⟩ : ∃ T, T = ptsOf (l.length + 1) l 0 := ⟨_, rfl⟩
  rw [← hT]
  refine W_cut (fun E S => Kept st S ∧ FB st S 0 0 ∧ E 0 = x ∧ E 3 = .ptr st.boxes.length 0) ?_ ?_
  · simp (maxSteps := 1000000) (disch := omega) only [allocPV, qabz, qajz, qalz, evOp, qapz, qarz, qatz, qavz,
 ↓reduceIte, List.append_nil, qawz, true_and, and_true, reduceCtorEq]
    exact ⟨Kept.start.alloc, by simp, by simp⟩
  rintro e S ⟨hk, hb, h0, h3⟩
  simp (maxSteps := 1000000) (disch := omega) only [qaaz, qabz, qadz, qajz, qalz, evOp, qapz, qarz, qatz, qazz]
  obtain ⟨I, hI⟩ : ∃ I : Nat → Env → St → Prop, I = fun m E S => ∃ (i k : Nat) (v : PV) (acc : List Nat), m = l.length - i ∧ l.length + 1 - i ≤ k ∧ i ≤ l.length ∧ acc.length ≤ i ∧ Kept st S ∧ FB st S 0 0 ∧ Own st S 1 v (acc.map ptV) ∧ (acc.map ptV = [] → v = .nils) ∧ T = (match ptsOf k l i with | .ok r => .ok (acc ++ r) | .error j => .error j) ∧ E 0 = x ∧ E 3 = .ptr st.boxes.length 0 ∧ E 4 = v ∧ E 5 = .int .i64 (i : Int) := ⟨_, rfl⟩
  refine W_loop I ?_ (n := l.length) (by
    rw [hI]
    refine ⟨0, l.length + 1, .nils, [], rfl, by omega, by omega, by simp, hk, hb, .inl ⟨rfl, rfl⟩, fun _ => rfl, ?_, h0, h3, rfl, rfl⟩
    rw [hT]; split <;> simp_all)
  clear hk hb h0 h3
  intro m e S hh
  rw [hI] at hh
  obtain ⟨i, k, v, acc, rfl, hki, hil, hacl, hk, hb, ho, hnil, hTT, h0, h3, h4, h5⟩ := hh
  by_cases hlt : i < l.length
  · obtain ⟨k, rfl⟩ : ∃ k', k = k' + 1 := ⟨k - 1, by omega⟩
    simp only [ptsOf, hlt, if_true] at hTT
    have hnx := fun S : St => uNext_spec (st := S) (dropB_by (i := i) hx) (by simp; omega)
    have hsl := slc_lo (k := .i64) (c := (i : Int)) hx (by omega) (by simpa using hil)
    rw [Int.toNat_natCast] at hsl
    cases hno : nextOf (l.drop i) with
    | none =>
      simp only [hno] at hTT
      have hdn : l.drop i ≠ [] := by intro h; have := congrArg List.length h; simp at this; omega
      rw [nextV_none hno hdn] at hnx
      obtain ⟨S2, a1, k1, b1, -⟩ := FB.store (c := (i : Int)) (d := 20) hk hb
      have hld := b1.load
      simp (maxSteps := 1000000) (disch := omega) only [h0, h3, h5, len_by hx, hlt, hsl, hnx, build2i, a1, qaaz, qabz, qacz, qadz, qaez, qaiz, qajz, qalz, evOp, qaoz, qapz, qaqz, qarz, qatz, qauz, qavz,
 ↓reduceIte, Nat.reduceEqDiff, List.map_cons, List.map_nil, Option.map_some, Option.map_none, qazz, qbaz, qbez, qbhz, qbiz, qblz, qbpz, qbuz, decide_true, Int.ofNat_lt, qcjz, List.getElem?_cons_zero, List.getElem?_cons_succ, reduceCtorEq, ne_eq, Int.reduceEq, not_false_eq_true]
      refine ⟨.tup [.nils, .agg [.int .i64 (i : Int), .int .i64 20]], ?_, ?_⟩
      · simp [resOf, rvAll, rv1, qavz, h3, hld, notTup, packRes]
      · rw [hTT]; exact k1.leave rfl (fun _ _ => rfl)
    | some pn =>
      obtain ⟨p, n⟩ := pn
      simp only [hno] at hTT
      rw [nextV_some hno] at hnx
      obtain ⟨hn1, hn2, hn3⟩ := next_pos hno
      simp only [List.length_drop] at hn2
      have happ := appV_own (u := ptV p) (t := .own S.toks.length) ho.tok1 (by simp only [List.length_map, room]; omega)
      have k2 := hk.tok1.appS ho.tok1
      have o2 := Own.appK (ys := acc.map ptV ++ [ptV p]) hk.tok1 ho.tok1
      have b2 : FB st (Ab.appS S.tok1 v) 0 0 := FB.appS (s := S.tok1) hb ho.tok1
      unfold ptV at happ
      simp (maxSteps := 1000000) (disch := omega) only [h0, h4, h5, len_by hx, hlt, hsl, hnx, liti1, freshT_eq, happ, add_n, qaaz, qabz, qacz, qadz, qaez, qajz, qalz, evOp, qaoz, qapz, qaqz, qarz, qatz, qavz,
 ↓reduceIte, Nat.reduceEqDiff, List.map_cons, List.map_nil, Option.map_some, Option.map_none, qazz, qbdz, qbhz, qbpz, qbuz, decide_true, decide_false,
 Int.toNat_natCast, Int.ofNat_lt, Bool.false_eq_true, qcjz, List.getElem?_cons_zero, List.getElem?_cons_succ, reduceCtorEq, ne_eq, not_true_eq_false]
      refine loopQ_intro (m := l.length - (i + n)) (by omega) ?_
      rw [hI]
      refine ⟨i + n, k, _, acc ++ [p], rfl, by omega, by omega, by simp; omega, k2, b2, ?_, fun h => by simp at h, ?_, h0, h3, rfl, rfl⟩
      · rw [List.map_append]; exact o2
      · rw [hTT]
        cases ptsOf k l (i + n) with
        | ok r => simp
        | error j => rfl
  · obtain rfl : i = l.length := by omega
    have hTf : T = .ok acc := by
      rw [hTT]
      cases k with
      | zero => simp [ptsOf]
      | succ k => simp [ptsOf]
    obtain ⟨S2, a1, k1, b1, t1⟩ := FB.store (c := 0) (d := 0) hk hb
    have hld := b1.load
    have ho2 : Own st S2 1 v (acc.map ptV) := by
      rcases ho with h | ⟨i, h1, h2, h3⟩
      · exact .inl h
      · exact .inr ⟨i, h1, h2, by rw [t1]; exact h3⟩
    simp (maxSteps := 1000000) (disch := omega) only [h0, h3, h4, h5, len_by hx, hlt, build0i, a1, qaaz, qabz, qacz, qagz, qaiz, qajz, qalz, evOp, qaoz, qarz, qatz, qauz, qavz,
 ↓reduceIte, Nat.reduceEqDiff, List.map_nil, Option.map_some, qazz, qbbz, qbfz, qbhz, qbjz, qblz, qbpz, decide_false,
 Int.ofNat_lt, Bool.false_eq_true, reduceCtorEq]
    refine ⟨.tup [v, .agg [.int .i64 0, .int .i64 0]], ?_, ?_⟩
    · have hnt : notTup v = true := by rcases ho with ⟨rfl, _⟩ | ⟨i, rfl, _⟩ <;> rfl
      simp [resOf, rvAll, rv1, qavz, h3, hld, hnt, packRes]
      rfl
    · rw [hTf]; exact leave_ownA k1 ho2 hnil
end Go.Ab
/-
  Whether a text is one of points; where it can be cut.
-/
namespace Go.Ab
variable {st s : St} {e : Env}

def validOf (l : List UInt8) : Bool := match ptsOf (l.length + 1) l 0 with
  | .ok _ => true
  | .error _ => false

theorem pts_parts {l : List UInt8} {S : St} (hk : Kept st S) : ∃ w a S', ptsV S (ptsOf (l.length + 1) l 0) = (.tup [w, .agg [.int .i64 a, .int .i64 (if validOf l = true then 0 else 20)]], S') ∧ Kept st S' := by
  unfold validOf
  cases ptsOf (l.length + 1) l 0 with
  | ok ps =>
    refine ⟨_, 0, _, rfl, ?_⟩
    unfold newS; split
    · exact hk
    · exact hk.tok1
  | error j => exact ⟨_, _, _, rfl, hk⟩
theorem store_i2 {B : List (List PV)} {T : List Bool} {L : List LoopS} {lo : Nat} {a b : Int} : storePV ⟨B ++ [[.int .i64 0, .int .i64 0]], T, L, lo⟩ 2 (.ptr B.length 0) (.agg [.int .i64 a, .int .i64 b]) = some ⟨B ++ [[.int .i64 a, .int .i64 b]], T, L, lo⟩ := by
  simp [storePV, PV.cells, PV.inB, PV.inB.inBAll, leafOk, setCells, hasTok, tokOf]
theorem load_i1 {B : List (List PV)} {T : List Bool} {L : List LoopS} {lo : Nat} {a b : Int} : loadPV ⟨B ++ [[.int .i64 a, .int .i64 b]], T, L, lo⟩ false 1 (.ptr B.length 1) = some (.int .i64 b) := by
  simp [loadPV, readCells]

theorem uValid_spec {x : PV} {l : List UInt8} (hx : x.by = some l) (hl : l.length ≤ 100000000) : call prog (.fn 53 []) [x] st = some (.bool (validOf l), st) := by
  refine call_of_W prog_53 ?_
  unfold F_utf_Valid; dsimp only
  obtain ⟨w, a, S', h1, hk⟩ := pts_parts (l := l) (st := st) Kept.start
  have hp := uPoints_spec (st := { boxes := st.boxes, toks := st.toks, loops := st.loops, low := st.boxes.length }) hx hl
  rw [h1] at hp
  cases hv : validOf l with
  | true =>
    simp only [hv, if_true] at hp
    simp (maxSteps := 1000000) (disch := omega) only [hp, allocPV, store_i2, faddrPV, Nat.zero_add, load_i1, qaaz, qabz, qaiz, qajz, qalz, evOp, qaoz, qapz, qaqz, qarz, qatz, qauz, qavz,
 ↓reduceIte, Nat.reduceEqDiff, List.append_nil, List.map_cons, List.map_nil, qawz, Option.map_some, qazz, qblz, qbtz, decide_true, qcjz, List.getElem?_cons_zero, List.getElem?_cons_succ, reduceCtorEq]
    exact ⟨.bool true, rfl, hk.alloc.leave rfl (fun _ _ => rfl)⟩
  | false =>
    simp only [hv, Bool.false_eq_true, if_false] at hp
    simp (maxSteps := 1000000) (disch := omega) only [hp, allocPV, store_i2, faddrPV, Nat.zero_add, load_i1, qaaz, qabz, qaiz, qajz, qalz, evOp, qaoz, qapz, qaqz, qarz, qatz, qauz, qavz,
 ↓reduceIte, Nat.reduceEqDiff, List.append_nil, List.map_cons, List.map_nil, qawz, Option.map_some, qazz, qblz, qbtz, decide_false,
 qcjz, List.getElem?_cons_zero, List.getElem?_cons_succ, reduceCtorEq, Int.reduceEq]
    exact ⟨.bool false, rfl, hk.alloc.leave rfl (fun _ _ => rfl)⟩
def isCont (c : UInt8) : Prop := 128 ≤ c.toNat ∧ c.toNat < 192
instance {c : UInt8} : Decidable (isCont c) := by unfold isCont; infer_instance
def back (l : List UInt8) : Nat → Nat
  | 0 => 0
  | n + 1 => if n + 1 < l.length ∧ isCont (l.getD (n + 1) 0) then back l n else n + 1
theorem next_cont {l : List UInt8} {p n : Nat} (h : nextOf l = some (p, n)) : ¬ isCont (l.getD 0 0) ∧ ∀ j, 1 ≤ j → j < n → isCont (l.getD j 0) := by
  unfold nextOf at h
  split at h
  · cases h
  split at h
  · rename_i hc
    cases h
    exact ⟨fun hh => by unfold isCont at hh; omega, fun j h1 h2 => by omega⟩
  · rename_i hc
    simp only at h
    split at h
    · cases h
    · rename_i hcond
      simp only [not_or, Classical.not_not] at hcond
      cases h
      refine ⟨fun hh => ?_, fun j h1 h2 => ?_⟩
      · apply hcond.1
        unfold isCont at hh
        unfold lead
        rw [if_neg (by omega), if_neg (by omega), if_neg (by omega)]
      · have := hcond.2.2.1 (j - 1) (by omega)
        rw [show j - 1 + 1 = j by omega] at this
        exact this

end Go.Ab
/-
  Messages, plain: which may be, whose a method is, what is wrong with a message.
-/
namespace Go.Ab

abbrev sADD : Bs := [65, 68, 68]
abbrev sCAN : Bs := [67, 65, 78, 67, 69, 76]
abbrev sCOU : Bs := [67, 79, 85, 78, 84, 69, 82]
abbrev sDEC : Bs := [68, 69, 67, 76, 73, 78, 69, 67, 79, 85, 78, 84, 69, 82]
abbrev sPUB : Bs := [80, 85, 66, 76, 73, 83, 72]
abbrev sREF : Bs := [82, 69, 70, 82, 69, 83, 72]
abbrev sREP : Bs := [82, 69, 80, 76, 89]
abbrev sREQ : Bs := [82, 69, 81, 85, 69, 83, 84]
abbrev sNEE : Bs := [78, 69, 69, 68, 83, 45, 65, 67, 84, 73, 79, 78]
abbrev sACC : Bs := [65, 67, 67, 69, 80, 84, 69, 68]
abbrev sDCL : Bs := [68, 69, 67, 76, 73, 78, 69, 68]
abbrev sTEN : Bs := [84, 69, 78, 84, 65, 84, 73, 86, 69]

structure MD where
  (me uid : Bs) (seq stamp recur : Int) (org : Bs) (att : List (Bs × Bs)) (sta fin : Int) (sum com : Bs)

def personB (s : Bs) : Bool := decide ((plainA s).2 = 0) && decide (lowOf s = s)
def answerB (s : Bs) : Bool := decide (s = sNEE) || decide (s = sACC) || decide (s = sDCL) || decide (s = sTEN)
def mtC (c : UInt8) : Bool := !decide (c < 65) && !decide (90 < c)
def methB (l : Bs) : Bool := l.all mtC && decide (1 ≤ l.length) && decide (l.length ≤ 32)
def uiC (c : UInt8) : Bool := !decide (c < 33) && !decide (126 < c) && !decide (c = 92) && !decide (c = 59) && !decide (c = 44)
def uidB (l : Bs) : Bool := l.all uiC && decide (1 ≤ l.length) && decide (l.length ≤ 200)
def noC (c : UInt8) : Bool := !(decide (c < 32) && !decide (c = 9) && !decide (c = 10)) && !decide (c = 127)
def noteB (l : Bs) : Bool := l.all noC && decide (l.length ≤ 1000) && validOf l
def timeB (t : Int) : Bool := decide (0 ≤ t ∧ t ≤ 253402300799)
def optB (t : Int) : Bool := decide (t = -1) || timeB t
def pairB (a : Bs × Bs) : Bool := personB a.1 && answerB a.2
def freshB : List Bs → List (Bs × Bs) → Bool
  | _, [] => true
  | seen, a :: r => pairB a && !seen.contains a.1 && freshB (seen ++ [a.1]) r
def peopleB (l : List (Bs × Bs)) : Bool := freshB [] l && decide (l.length ≤ 32)
def seqB (n : Int) : Bool := decide (0 ≤ n) && decide (n ≤ 2147483647)
def timesB (m : MD) : Bool := timeB m.stamp && optB m.recur && optB m.sta && optB m.fin
def spanB (m : MD) : Bool := decide (m.fin = -1) || (!decide (m.sta = -1) && decide (m.sta < m.fin))
def orgB (s : Bs) : Bool := decide (s = []) || personB s
def rightM (m : MD) : Bool := methB m.me && uidB m.uid && seqB m.seq && timesB m && spanB m && orgB m.org && peopleB m.att && noteB m.sum && noteB m.com
def pairG (a : Bs × Bs) : Bool := decide (a.1.length + a.2.length ≤ 600)
def greatM (m : MD) : Bool := decide (60 < m.att.length) || decide (1000 < m.me.length + m.uid.length) || decide (1000 < m.org.length) || decide (4000 < m.sum.length + m.com.length) || !m.att.all pairG

def roleO (s : Bs) : Bool := decide (s = sPUB) || decide (s = sREQ) || decide (s = sADD) || decide (s = sCAN) || decide (s = sDEC)
def roleA (s : Bs) : Bool := decide (s = sREP) || decide (s = sREF) || decide (s = sCOU)
def roleOf (s : Bs) : Int := if roleO s = true then 1 else if roleA s = true then 2 else 0
structure Nd where
  (lo hi : Int) (re st ti : Bool)
def needOf (s : Bs) : Nd :=
  if s = sPUB then ⟨0, 0, false, true, false⟩ else if s = sREQ then ⟨1, 32, false, true, false⟩ else if s = sADD then ⟨1, 32, true, true, false⟩
  else if s = sCAN then ⟨0, 32, false, false, false⟩ else if s = sREF then ⟨1, 1, false, false, true⟩ else if s = sCOU then ⟨1, 1, false, true, false⟩ else ⟨1, 1, false, false, false⟩
def partB (m : MD) : Bool := decide (m.me = sREP) && decide ((m.att.getD 0 ([], [])).2 = sNEE)
def checkM (m : MD) : Int :=
  if rightM m = false then 120 else if roleOf m.me = 0 then 130
  else if m.org = [] ∨ (m.att.length : Int) < (needOf m.me).lo then 131
  else if (needOf m.me).hi < (m.att.length : Int) then 132
  else if partB m = true then 3
  else if ((needOf m.me).re = true ∧ m.recur < 0) ∨ ((needOf m.me).st = true ∧ m.sta < 0) then 131
  else if (needOf m.me).ti = true ∧ 0 ≤ m.sta then 132 else 0
def newerB (s t r u : Int) : Bool := decide (r < s) || (decide (s = r) && decide (u < t))
def senderM (m : MD) : Bs × Int := if checkM m = 0 then (if roleOf m.me = 2 then ((m.att.getD 0 ([], [])).1, 0) else (m.org, 0)) else ([], checkM m)

/- the document's answer -/
theorem role_cases {s : Bs} (h : ¬ roleOf s = 0) : s = sPUB ∨ s = sREQ ∨ s = sADD ∨ s = sCAN ∨ s = sDEC ∨ s = sREP ∨ s = sREF ∨ s = sCOU := by
  unfold roleOf at h
  by_cases h1 : roleO s = true
  · simp only [roleO, Bool.or_eq_true, decide_eq_true_eq] at h1
    rcases h1 with (((h1 | h1) | h1) | h1) | h1 <;> simp [h1]
  · by_cases h2 : roleA s = true
    · simp only [roleA, Bool.or_eq_true, decide_eq_true_eq] at h2
      rcases h2 with (h2 | h2) | h2 <;> simp [h2]
    · rw [if_neg h1, if_neg h2] at h; exact absurd rfl h

end Go.Ab
/-
  Ids: plain.
-/
namespace Go.Ab

end Go.Ab
/-
  strings.Cut.
-/
namespace Go.Ab
variable {st : St} {e : Env}

theorem faP {n k b : Nat} : faddrPV n (.ptr b k) = some (.ptr b (k + n)) := rfl
theorem index_room' : ∀ (a b : List UInt8), 0 ≤ Lib.index a b → Lib.index a b + b.length ≤ a.length := by
  intro a b
  induction a with
  | nil =>
    intro h
    cases b with
    | nil => simp [Lib.index]
    | cons c r => simp [Lib.index] at h
  | cons c r ih =>
    intro h
    by_cases hp : b.isPrefixOf (c :: r) = true
    · have := (List.isPrefixOf_iff_prefix.1 hp).length_le
      rw [Lib.index, if_pos hp]; omega
    · have hp2 : b.isPrefixOf (c :: r) = false := Bool.eq_false_iff.2 hp
      rw [Lib.index, hp2] at h ⊢
      by_cases hq : (Lib.index r b == -1) = true
      · rw [hq] at h; simp at h
      · have hq2 : (Lib.index r b == -1) = false := by simpa using hq
        rw [hq2] at h ⊢
        simp only [Bool.false_eq_true, if_false] at h ⊢
        have hge := Lib.index_ge r b
        have hne : Lib.index r b ≠ -1 := by simpa using hq2
        have := ih (by omega)
        simp only [List.length_cons]; omega
def cutAt (a b : List UInt8) : PV := if 0 ≤ Lib.index a b then .tup [.str (a.take (Lib.index a b).toNat), .str (a.drop ((Lib.index a b).toNat + b.length)), .bool true] else .tup [.str a, .str [], .bool false]
theorem sCut_spec {a b : List UInt8} (h : a.length < 4294967281) (hb : b.length < 4294967281) : call prog (.fn 135 []) [.str a, .str b] st = some (cutAt a b, st) := by
  refine call_of_W prog_135 ?_
  unfold F_internal_stringslite_Cut; dsimp only
  have hroom := index_room' a b
  by_cases h0 : 0 ≤ Lib.index a b
  · have hr := hroom h0
    obtain ⟨k, hk⟩ : ∃ k : Nat, Lib.index a b = (k : Int) := ⟨(Lib.index a b).toNat, by omega⟩
    rw [hk] at hr
    have hadd : ∀ ek, binPV .add ek (.int .i64 (k : Int)) (.int .i64 (b.length : Int)) = some (.int .i64 ((k + b.length : Nat) : Int)) := fun ek => by
      rw [add_i (by omega) (by omega)]; simp
    have e1 : (0 : Int) ≤ (k : Int) := by omega
    simp (maxSteps := 1000000) (disch := omega) only [strIndex_spec h, hk, e1, len_s, hadd, slc_s_lo, slc_s_hi, qaaz, qabz, qacz, qaiz, qajz, qalz, evOp, qaoz, qapz, qaqz, qarz, qatz, qavz,
 ↓reduceIte, Nat.reduceEqDiff, List.append_nil, List.map_cons, List.map_nil, qawz, qaxz, Option.map_some, Option.map_none, qazz, qbaz, qbhz, qblz, qbsz, decide_true, Int.toNat_natCast, reduceCtorEq]
    rw [show cutAt a b = .tup [.str (a.take k), .str (a.drop (k + b.length)), .bool true] by simp [cutAt, hk]]
    exact end3 rfl rfl rfl Kp_str Kp_str Kp_bool
  · simp (maxSteps := 1000000) (disch := omega) only [strIndex_spec h, h0, qaaz, qabz, qacz, qaez, qaiz, qajz, qalz, evOp, qaoz, qapz, qaqz, qarz, qatz, qavz,
 ↓reduceIte, Nat.reduceEqDiff, List.append_nil, List.map_cons, List.map_nil, qawz, qaxz, Option.map_some, qazz, qbhz, qblz, qbsz, decide_false,
 Bool.false_eq_true, reduceCtorEq]
    rw [show cutAt a b = .tup [.str a, .str [], .bool false] by simp [cutAt, h0]]
    exact end3 rfl rfl rfl Kp_str Kp_str Kp_bool
theorem Cut_spec {a b : List UInt8} (h : a.length < 4294967281) (hb : b.length < 4294967281) : call prog (.fn 128 []) [.str a, .str b] st = some (cutAt a b, st) := by
  refine call_of_W prog_128 ?_
  unfold F_strings_Cut; dsimp only
  by_cases h0 : 0 ≤ Lib.index a b
  · have hc : cutAt a b = .tup [.str (a.take (Lib.index a b).toNat), .str (a.drop ((Lib.index a b).toNat + b.length)), .bool true] := by simp [cutAt, h0]
    simp (maxSteps := 1000000) (disch := omega) only [sCut_spec h hb, hc, qaaz, qabz, qaiz, qajz, qalz, evOp, qaoz, qapz, qaqz, qarz, qatz, qavz,
 ↓reduceIte, Nat.reduceEqDiff, List.append_nil, List.map_cons, List.map_nil, qawz, qaxz, Option.map_some, qazz, qblz, qcjz, List.getElem?_cons_zero, List.getElem?_cons_succ, reduceCtorEq]
    exact end3 rfl rfl rfl Kp_str Kp_str Kp_bool
  · have hc : cutAt a b = .tup [.str a, .str [], .bool false] := by simp [cutAt, h0]
    simp (maxSteps := 1000000) (disch := omega) only [sCut_spec h hb, hc, qaaz, qabz, qaiz, qajz, qalz, evOp, qaoz, qapz, qaqz, qarz, qatz, qavz,
 ↓reduceIte, Nat.reduceEqDiff, List.append_nil, List.map_cons, List.map_nil, qawz, qaxz, Option.map_some, qazz, qblz, qcjz, List.getElem?_cons_zero, List.getElem?_cons_succ, reduceCtorEq]
    exact end3 rfl rfl rfl Kp_str Kp_str Kp_bool

end Go.Ab
/-
  Rules that part the ways of a run: each way under what it was taken for.
-/
namespace Go.Ab
variable {A : AP} {st : St} {e : Env}

def guardW (A : AP) (v : PV) (g : Nat) (b : Bool) (d : Option Nat) (op : AOp) (r : List AOper) (e : Env) (st : St) (Q : Env → St → Prop) : Prop := match v with
  | .bool t => if t = b then WN A (evOp (call A) op e st) d r e Q else WO A r (updO e d .undef) st Q
  | _ => WO A r (updO e d .undef) st Q
def guardT (A : AP) (t : Bool) (b : Bool) (d : Option Nat) (op : AOp) (r : List AOper) (e : Env) (st : St) (Q : Env → St → Prop) : Prop := match t, b with
  | true, true => WN A (evOp (call A) op e st) d r e Q
  | false, false => WN A (evOp (call A) op e st) d r e Q
  | _, _ => WO A r (updO e d .undef) st Q
theorem qcnz {d : Option Nat} {op : AOp} {r : List AOper} {Q : Env → St → Prop} : guardT A true true d op r e st Q = WN A (evOp (call A) op e st) d r e Q := rfl
theorem qcoz {d : Option Nat} {op : AOp} {r : List AOper} {Q : Env → St → Prop} : guardT A false false d op r e st Q = WN A (evOp (call A) op e st) d r e Q := rfl
theorem qcpz {d : Option Nat} {op : AOp} {r : List AOper} {Q : Env → St → Prop} : guardT A true false d op r e st Q = WO A r (updO e d .undef) st Q := rfl
theorem qcqz {d : Option Nat} {op : AOp} {r : List AOper} {Q : Env → St → Prop} : guardT A false true d op r e st Q = WO A r (updO e d .undef) st Q := rfl

theorem WO_consG2 {d : Option Nat} {op : AOp} {g : Nat} {b : Bool} {r : List AOper} {Q : Env → St → Prop} : WO A (⟨d, op, some (g, b)⟩ :: r) e st Q = guardW A (e g) g b d op r e st Q := by
  rw [qakz, qamz]
  unfold guardW qanz
  cases e g with
  | bool c => simp
  | _ => simp
theorem upd_self {g : Nat} {v : PV} (h : e g = v) : upd e g v = e := by
  funext t
  simp only [upd]
  split
  · rename_i h1; rw [h1, h]
  · rfl
theorem guardW_bool {t : Bool} {g : Nat} {b : Bool} {d : Option Nat} {op : AOp} {r : List AOper} {Q : Env → St → Prop} (h : e g = .bool t) : guardW A (.bool t) g b d op r e st Q =
    ((t = true → guardT A true b d op r (upd e g (.bool true)) st Q) ∧ (t = false → guardT A false b d op r (upd e g (.bool false)) st Q)) := by
  cases t with
  | true =>
    rw [upd_self h]
    cases b <;> simp [guardW, guardT]
  | false =>
    rw [upd_self h]
    cases b <;> simp [guardW, guardT]
def guardV (A : AP) (v : PV) (g : Nat) (b : Bool) (d : Option Nat) (op : AOp) (r : List AOper) (e : Env) (st : St) (Q : Env → St → Prop) : Prop := match v with
  | .bool t => (t = true → guardT A true b d op r (upd e g (.bool true)) st Q) ∧ (t = false → guardT A false b d op r (upd e g (.bool false)) st Q)
  | _ => WO A r (updO e d .undef) st Q
theorem qclz {d : Option Nat} {op : AOp} {g : Nat} {b : Bool} {r : List AOper} {Q : Env → St → Prop} : WO A (⟨d, op, some (g, b)⟩ :: r) e st Q = guardV A (e g) g b d op r e st Q := by
  rw [WO_consG2]
  cases h : e g with
  | bool t => rw [guardW_bool h]; rfl
  | _ => rfl
theorem qcmz {t : Bool} {g : Nat} {b : Bool} {d : Option Nat} {op : AOp} {r : List AOper} {Q : Env → St → Prop} : guardV A (.bool t) g b d op r e st Q =
    ((t = true → guardT A true b d op r (upd e g (.bool true)) st Q) ∧ (t = false → guardT A false b d op r (upd e g (.bool false)) st Q)) := rfl
theorem qcrz {t : Bool} {a b : ACode} {Q : Ex → Env → St → Prop} : condW A (.bool t) a b e st Q = ((t = true → W A a e st Q) ∧ (t = false → W A b e st Q)) := by
  cases t <;> simp [condW]
theorem qcwz {p : Prop} : (False → p) = True := by simp
end Go.Ab
/-
  Helpers: how a call ends, cuts of which a first part may return.
-/
namespace Go.Ab
variable {st s : St} {e : Env}

theorem ret1 {a : Nat} {v : PV} (ha : e a = v) (hnt : notTup v = true) (hk : Kept st s) (hf : Flat v) : ∃ rv, resOf e s [.tmp a] = some rv ∧ leave st s rv = (v, st) :=
  ⟨v, by simp [resOf, rvAll, rv1, ha, hnt, packRes], hk.leave' hf⟩
theorem retB {a : Nat} {b c : Bool} (ha : e a = .bool b) (hk : Kept st s) (hb : b = c) : ∃ rv, resOf e s [.tmp a] = some rv ∧ leave st s rv = (.bool c, st) := by
  subst hb; exact ret1 ha rfl hk ⟨fun _ => rfl, fun _ _ => rfl⟩
theorem retS {a : Nat} {b c : List UInt8} (ha : e a = .str b) (hk : Kept st s) (hb : b = c) : ∃ rv, resOf e s [.tmp a] = some rv ∧ leave st s rv = (.str c, st) := by
  subst hb; exact ret1 ha rfl hk ⟨fun _ => rfl, fun _ _ => rfl⟩
theorem retI {a : Nat} {k : IntKind} {b c : Int} (ha : e a = .int k b) (hk : Kept st s) (hb : b = c) : ∃ rv, resOf e s [.tmp a] = some rv ∧ leave st s rv = (.int k c, st) := by
  subst hb; exact ret1 ha rfl hk ⟨fun _ => rfl, fun _ _ => rfl⟩
theorem ret2 {a b : Nat} {v w : PV} (ha : e a = v) (hb : e b = w) (h1 : notTup v = true) (h2 : notTup w = true) (hk : Kept st s) (hf : Flat (.tup [v, w])) : ∃ rv, resOf e s [.tmp a, .tmp b] = some rv ∧ leave st s rv = (.tup [v, w], st) :=
  ⟨.tup [v, w], by simp [resOf, rvAll, rv1, ha, hb, h1, h2, packRes], hk.leave' hf⟩
theorem retSI {a b : Nat} {t u : List UInt8} {n m : Int} (ha : e a = .str t) (hb : e b = .int .i64 n) (hk : Kept st s) (h1 : t = u) (h2 : n = m) : ∃ rv, resOf e s [.tmp a, .tmp b] = some rv ∧ leave st s rv = (.tup [.str u, .int .i64 m], st) := by
  subst h1 h2; exact ret2 ha hb rfl rfl hk ⟨fun _ => rfl, fun _ _ => rfl⟩
theorem Kept.box {S : St} {z : List PV} (h : Kept st S) (hbx : S.boxes.length = st.boxes.length + 1) : Kept st ⟨st.boxes ++ [z], S.toks, S.loops, S.low⟩ := ⟨by simp, h.lp, h.lw, h.tk⟩
theorem W_cutR {A : AP} {a b : ACode} {Q : Ex → Env → St → Prop} (M : Env → St → Prop) (h1 : W A a e st (fun x e' s' => (x = .normal ∧ M e' s') ∨ (x = .ret ∧ Q .ret e' s'))) (h2 : ∀ e' s', M e' s' → W A b e' s' Q) : W A (.seq a b) e st Q := by
  rw [qaaz]
  refine W_mono h1 ?_
  rintro x e s (⟨rfl, h⟩ | ⟨rfl, h⟩)
  · exact h2 e s h
  · rw [qbaz]; exact h
theorem Kept.toks {T : List Bool} (h : Kept st s) : Kept st ⟨s.boxes, s.toks ++ T, s.loops, s.low⟩ := by
  refine ⟨h.bx, h.lp, h.lw, ?_⟩
  have h1 := h.tk
  have h2 : st.toks.length ≤ s.toks.length := by have := congrArg List.length h1; simp at this; omega
  simp only [List.take_append_of_le_length h2]
  exact h1
end Go.Ab
/-
  Signs, atoms, labels, names; parts of a text.
-/
namespace Go.Ab
variable {st s : St} {e : Env}

theorem alnum_spec {c : UInt8} : call prog (.fn 134 []) [.b8 c] st = some (.bool (alnC c), st) := by
  refine call_of_W prog_134 ?_
  unfold F_addr_alnum; dsimp only
  have fin : ∀ {E : Env} (b : Bool), E 2 = .bool b → b = alnC c → ∃ rv, resOf E { boxes := st.boxes, toks := st.toks, loops := st.loops, low := st.boxes.length } [.tmp 2] = some rv ∧ leave st { boxes := st.boxes, toks := st.toks, loops := st.loops, low := st.boxes.length } rv = (.bool (alnC c), st) :=
    fun b h hb => retB h Kept.start hb
  simp (maxSteps := 1000000) (disch := omega) only [qaaz, qabz, qacz, qadz, qaez, qagz, qaiz, qajz, qclz, qcmz, qcnz, qcqz, qcrz, qcwz, forall_const, qalz, evOp, qaoz, qapz, qarz, qatz, qavz,
 ↓reduceIte, Nat.reduceEqDiff, List.append_nil, qawz, Option.map_some, qazz, qbaz, qbbz, qbdz, qbez, qbfz, qblz, qbyz, qcaz, decide_eq_true_eq, decide_eq_false_iff_not, Bool.false_eq_true, Bool.true_eq_false, true_and, and_true, reduceCtorEq]
  repeat' (first | refine And.intro ?_ ?_ | intro q)
  all_goals first | exact fin true rfl (by simp only [alnC, *, decide_true, decide_false, Bool.and_true, Bool.and_false, Bool.false_and, Bool.or_true, Bool.true_or, Bool.or_false]) | exact fin false rfl (by simp only [alnC, *, decide_true, decide_false, Bool.and_false, Bool.false_and, Bool.or_false])

theorem signs_neg {c : UInt8} : (Lib.indexByte [33, 35, 36, 37, 38, 39, 42, 43, 45, 47, 61, 63, 94, 95, 123, 124, 125, 126, 96] c < 0) = (signs.contains c = false) := by
  have := all8 (p := fun c => decide (Lib.indexByte [33, 35, 36, 37, 38, 39, 42, 43, 45, 47, 61, 63, 94, 95, 123, 124, 125, 126, 96] c < 0) == !signs.contains c) (by kernel_rfl) c
  simp only [beq_iff_eq] at this
  apply propext
  constructor
  · intro h; simp only [h, decide_true] at this; simpa using this.symm
  · intro h; rw [h] at this; simpa using this

theorem isAtom_spec {l : List UInt8} (hl : l.length ≤ 100000000) : call prog (.fn 125 []) [.str l] st = some (.bool (atomB l), st) := by
  refine call_of_W prog_125 ?_
  unfold F_addr_isAtom; dsimp only
  simp (maxSteps := 1000000) (disch := omega) only [len_s, qaaz, qabz, qadz, qajz, qalz, evOp, qaoz, qapz, qarz, qatz, qavz,
 ↓reduceIte, List.append_nil, qawz, Option.map_some, qazz, reduceCtorEq]
  obtain ⟨I, hI⟩ : ∃ I : Nat → Env → St → Prop, I = fun k e s' => ∃ (i : Nat), k = l.length - i ∧ i ≤ l.length ∧ Kept st s' ∧ (∀ j, j < i → atC (l.getD j 0) = true) ∧ e 0 = .str l ∧ e 5 = .int .i64 (l.length : Int) ∧ e 6 = .int .i64 (i : Int) := ⟨_, rfl⟩
  refine W_loop I ?_ (n := l.length) (by
    rw [hI]
    exact ⟨0, rfl, by omega, Kept.start, fun j h => by omega, rfl, rfl, rfl⟩)
  intro k e s' hh
  rw [hI] at hh
  obtain ⟨i, rfl, hi, hk, hall, h0, h5, h6⟩ := hh
  by_cases hlt : i < l.length
  · obtain ⟨c, hc⟩ : ∃ c, c = l.getD i 0 := ⟨_, rfl⟩
    have bad : atC c = false → ∀ E : Env, E 2 = .bool false → ∃ rv, resOf E s' [.tmp 2] = some rv ∧ leave st s' rv = (.bool (atomB l), st) := fun h E k2 =>
      retB k2 hk (by simp only [atomB, all_bad (p := atC) hlt (by rw [← hc]; exact h), Bool.false_and])
    have next : atC c = true → ∀ E : Env, E 0 = .str l → E 5 = .int .i64 (l.length : Int) → E 6 = .int .i64 ((i + 1 : Nat) : Int) → ∃ m, m < l.length - i ∧ I m E s' := fun h E k0 k5 k6 =>
      ⟨l.length - (i + 1), by omega, by
        rw [hI]
        refine ⟨i + 1, rfl, by omega, hk, fun j hj => ?_, k0, k5, k6⟩
        by_cases hji : j = i
        · subst hji; rw [← hc]; exact h
        · exact hall j (by omega)⟩
    simp (maxSteps := 1000000) (disch := omega) only [h0, h5, h6, hlt, idx_s, ← hc, alnum_spec, strIndexByte_spec, signs_neg, add_n, loopQ_normal, qaaz, qabz, qacz, qadz, qaez, qagz, qaiz, qajz, qclz, qcmz, qcnz, qcqz, qcrz, qcwz, forall_const, Bool.not_eq_false', qalz, evOp, qaoz, qapz, qaqz, qarz, qatz, qavz,
 ↓reduceIte, Nat.reduceEqDiff, List.map_cons, List.map_nil, Option.map_some, qazz, qbaz, qbbz, qbdz, qbez, qbfz, qbiz, qbjz, qblz, qbpz, qccz, qcfz, Bool.not_eq_true', decide_eq_true_eq, decide_eq_false_iff_not, decide_true, Int.toNat_natCast, Int.ofNat_lt, Bool.false_eq_true, Bool.true_eq_false, Int.reduceToNat, true_and, and_true, reduceCtorEq, ne_eq]
    clear hc hall hI
    repeat' (first | refine And.intro ?_ ?_ | intro q)
    all_goals first | exact bad (by simp only [atC, *, Bool.or_true, Bool.true_or, Bool.or_false]) _ rfl | exact next (by simp only [atC, *, Bool.or_true, Bool.true_or]) _ h0 h5 rfl | (exfalso; simp_all; done)
  · obtain rfl : i = l.length := by omega
    simp (maxSteps := 1000000) (disch := omega) only [h0, h5, h6, hlt, qaaz, qabz, qacz, qadz, qaez, qagz, qaiz, qajz, qcrz, qcwz, forall_const, qalz, evOp, qaoz, qapz, qarz, qatz, qavz,
 ↓reduceIte, Nat.reduceEqDiff, Option.map_some, qazz, qbbz, qbfz, qbjz, qblz, qbpz, qccz, decide_false,
 Int.ofNat_lt, Bool.false_eq_true, true_and, reduceCtorEq, ne_eq]
    refine retB rfl hk ?_
    simp only [atomB, all_getD (p := atC) hall, Bool.true_and]
    cases l <;> rfl

theorem isLabel_spec {l : List UInt8} (hl : l.length ≤ 100000000) : call prog (.fn 126 []) [.str l] st = some (.bool (labB l), st) := by
  refine call_of_W prog_126 ?_
  unfold F_addr_isLabel; dsimp only
  simp (maxSteps := 1000000) (disch := omega) only [len_s, qaaz, qabz, qadz, qajz, qalz, evOp, qaoz, qapz, qarz, qatz, qavz,
 ↓reduceIte, List.append_nil, qawz, Option.map_some, qazz, reduceCtorEq]
  obtain ⟨I, hI⟩ : ∃ I : Nat → Env → St → Prop, I = fun k e s' => ∃ (i : Nat), k = l.length - i ∧ i ≤ l.length ∧ Kept st s' ∧ (∀ j, j < i → labC (l.getD j 0) = true) ∧ e 0 = .str l ∧ e 5 = .int .i64 (l.length : Int) ∧ e 6 = .int .i64 (i : Int) := ⟨_, rfl⟩
  refine W_loop I ?_ (n := l.length) (by
    rw [hI]
    exact ⟨0, rfl, by omega, Kept.start, fun j h => by omega, rfl, rfl, rfl⟩)
  intro k e s' hh
  rw [hI] at hh
  obtain ⟨i, rfl, hi, hk, hall, h0, h5, h6⟩ := hh
  by_cases hlt : i < l.length
  · obtain ⟨c, hc⟩ : ∃ c, c = l.getD i 0 := ⟨_, rfl⟩
    have bad : labC c = false → ∀ E : Env, E 2 = .bool false → ∃ rv, resOf E s' [.tmp 2] = some rv ∧ leave st s' rv = (.bool (labB l), st) := fun h E k2 =>
      retB k2 hk (by simp only [labB, all_bad (p := labC) hlt (by rw [← hc]; exact h), Bool.false_and])
    have next : labC c = true → ∀ E : Env, E 0 = .str l → E 5 = .int .i64 (l.length : Int) → E 6 = .int .i64 ((i + 1 : Nat) : Int) → ∃ m, m < l.length - i ∧ I m E s' := fun h E k0 k5 k6 =>
      ⟨l.length - (i + 1), by omega, by
        rw [hI]
        refine ⟨i + 1, rfl, by omega, hk, fun j hj => ?_, k0, k5, k6⟩
        by_cases hji : j = i
        · subst hji; rw [← hc]; exact h
        · exact hall j (by omega)⟩
    simp (maxSteps := 1000000) (disch := omega) only [h0, h5, h6, hlt, idx_s, ← hc, alnum_spec, add_n, loopQ_normal, qaaz, qabz, qacz, qadz, qaez, qagz, qaiz, qajz, qclz, qcmz, qcnz, qcqz, qcrz, qcwz, Decidable.not_not, forall_const, Bool.not_eq_false', qalz, evOp, qaoz, qapz, qaqz, qarz, qatz, qavz,
 ↓reduceIte, Nat.reduceEqDiff, List.map_cons, List.map_nil, Option.map_some, qazz, qbaz, qbbz, qbdz, qbez, qbfz, qbiz, qbjz, qblz, qbpz, qbwz, qccz, qcfz, Bool.not_eq_true', decide_eq_true_eq, decide_eq_false_iff_not, decide_true, Int.toNat_natCast, Int.ofNat_lt, Bool.false_eq_true, Bool.true_eq_false, Int.reduceToNat, true_and, and_true, reduceCtorEq, ne_eq]
    clear hc hall hI
    repeat' (first | refine And.intro ?_ ?_ | intro q)
    all_goals first | exact bad (by simp only [labC, *, decide_true, decide_false, Bool.or_true, Bool.true_or, Bool.or_false]) _ rfl | exact next (by simp only [labC, *, decide_true, Bool.or_true, Bool.true_or]) _ h0 h5 rfl | (exfalso; simp_all; done)
  · obtain rfl : i = l.length := by omega
    have ha := all_getD (p := labC) hall
    by_cases hn : l = []
    · simp (maxSteps := 1000000) (disch := omega) only [h0, h5, h6, hlt, eq_true hn, qaaz, qabz, qacz, qadz, qaez, qagz, qaiz, qajz, qclz, qcmz, qcnz, qcqz, qcrz, qcwz, forall_const, qalz, evOp, qaoz, qapz, qarz, qatz, qavz,
 ↓reduceIte, Nat.reduceEqDiff, Option.map_some, qazz, qbbz, qbfz, qbjz, qblz, qbpz, qccz, decide_false,
 Int.ofNat_lt, Bool.false_eq_true, Bool.true_eq_false, true_and, and_true, reduceCtorEq, ne_eq, not_true_eq_false]
      exact retB rfl hk (by simp [labB, hn])
    · have hp := List.length_pos_iff.2 hn
      have hsub : ∀ ek, binPV .sub ek (.int .i64 (l.length : Int)) (.int .i64 1) = some (.int .i64 ((l.length - 1 : Nat) : Int)) := fun ek => by
        rw [sub_n (by omega) (by simp; omega) (by omega)]; rfl
      have he : l.isEmpty = false := by cases l with | nil => exact absurd rfl hn | cons a r => rfl
      by_cases h63 : l.length ≤ 63
      · have e63 : (l.length : Int) ≤ 63 := by omega
        simp (maxSteps := 1000000) (disch := omega) only [h0, h5, h6, hlt, hn, len_s, idx_s, hsub, e63, qaaz, qabz, qacz, qadz, qaez, qagz, qaiz, qajz, qclz, qcmz, qcnz, qcqz, qcrz, qcwz, Decidable.not_not, forall_const, qalz, evOp, qaoz, qapz, qarz, qatz, qavz,
 ↓reduceIte, Nat.reduceEqDiff, Option.map_some, qazz, qbbz, qbfz, qbjz, qblz, qbpz, qbqz, qbwz, qccz, decide_eq_true_eq, decide_eq_false_iff_not, decide_true, decide_false,
 Int.toNat_natCast, Int.ofNat_lt, Bool.false_eq_true, Bool.true_eq_false, Int.reduceToNat, true_and, and_true, reduceCtorEq, ne_eq, not_false_eq_true]
        clear hall hI h0 h5 h6
        repeat' (first | refine And.intro ?_ ?_ | intro q)
        all_goals exact retB rfl hk (by simp only [labB, *, decide_not, decide_true, decide_false, Bool.and_true, Bool.true_and, Bool.and_false, Bool.false_and, Bool.not_true, Bool.not_false])
      · have e63 : ¬ (l.length : Int) ≤ 63 := by omega
        simp (maxSteps := 1000000) (disch := omega) only [h0, h5, h6, hlt, hn, len_s, idx_s, hsub, e63, qaaz, qabz, qacz, qadz, qaez, qagz, qaiz, qajz, qclz, qcmz, qcnz, qcqz, qcrz, qcwz, Decidable.not_not, forall_const, qalz, evOp, qaoz, qapz, qarz, qatz, qavz,
 ↓reduceIte, Nat.reduceEqDiff, Option.map_some, qazz, qbbz, qbfz, qbjz, qblz, qbpz, qbqz, qbwz, qccz, decide_eq_true_eq, decide_eq_false_iff_not, decide_true, decide_false,
 Int.toNat_natCast, Int.ofNat_lt, Bool.false_eq_true, Bool.true_eq_false, Int.reduceToNat, true_and, and_true, reduceCtorEq, ne_eq, not_false_eq_true]
        exact retB rfl hk (by simp only [labB, h63, decide_false, Bool.and_false, Bool.false_and])

theorem isNm_spec {l : List UInt8} (hl : l.length ≤ 100000000) : call prog (.fn 127 []) [.str l] st = some (.bool (nmA l), st) := by
  refine call_of_W prog_127 ?_
  unfold F_addr_isName; dsimp only
  simp (maxSteps := 1000000) (disch := omega) only [len_s, qaaz, qabz, qadz, qajz, qalz, evOp, qaoz, qapz, qarz, qatz, qavz,
 ↓reduceIte, List.append_nil, qawz, Option.map_some, qazz, reduceCtorEq]
  obtain ⟨I, hI⟩ : ∃ I : Nat → Env → St → Prop, I = fun k e s' => ∃ (i : Nat), k = l.length - i ∧ i ≤ l.length ∧ Kept st s' ∧ (∀ j, j < i → prC (l.getD j 0) = true) ∧ e 0 = .str l ∧ e 5 = .int .i64 (l.length : Int) ∧ e 6 = .int .i64 (i : Int) := ⟨_, rfl⟩
  refine W_loop I ?_ (n := l.length) (by
    rw [hI]
    exact ⟨0, rfl, by omega, Kept.start, fun j h => by omega, rfl, rfl, rfl⟩)
  intro k e s' hh
  rw [hI] at hh
  obtain ⟨i, rfl, hi, hk, hall, h0, h5, h6⟩ := hh
  by_cases hlt : i < l.length
  · obtain ⟨c, hc⟩ : ∃ c, c = l.getD i 0 := ⟨_, rfl⟩
    have bad : prC c = false → ∀ E : Env, E 2 = .bool false → ∃ rv, resOf E s' [.tmp 2] = some rv ∧ leave st s' rv = (.bool (nmA l), st) := fun h E k2 =>
      retB k2 hk (by simp only [nmA, all_bad (p := prC) hlt (by rw [← hc]; exact h), Bool.false_and])
    have next : prC c = true → ∀ E : Env, E 0 = .str l → E 5 = .int .i64 (l.length : Int) → E 6 = .int .i64 ((i + 1 : Nat) : Int) → ∃ m, m < l.length - i ∧ I m E s' := fun h E k0 k5 k6 =>
      ⟨l.length - (i + 1), by omega, by
        rw [hI]
        refine ⟨i + 1, rfl, by omega, hk, fun j hj => ?_, k0, k5, k6⟩
        by_cases hji : j = i
        · subst hji; rw [← hc]; exact h
        · exact hall j (by omega)⟩
    simp (maxSteps := 1000000) (disch := omega) only [h0, h5, h6, hlt, idx_s, ← hc, add_n, loopQ_normal, qaaz, qabz, qacz, qadz, qaez, qagz, qaiz, qajz, qclz, qcmz, qcoz, qcpz, qcrz, qcwz, forall_const, qalz, evOp, qaoz, qapz, qarz, qatz, qavz,
 ↓reduceIte, Nat.reduceEqDiff, Option.map_some, qazz, qbaz, qbbz, qbdz, qbez, qbfz, qbiz, qbjz, qblz, qbpz, qbxz, qbzz, decide_eq_true_eq, decide_eq_false_iff_not, decide_true, Int.toNat_natCast, Int.ofNat_lt, Bool.false_eq_true, Bool.true_eq_false, Int.reduceToNat, true_and, and_true, reduceCtorEq]
    clear hc hall hI
    repeat' (first | refine And.intro ?_ ?_ | intro q)
    all_goals first | exact bad (by simp only [prC, *, decide_true, decide_false, Bool.and_true, Bool.and_false, Bool.false_and, Bool.not_true, Bool.not_false]) _ rfl | exact next (by simp only [prC, *, decide_false, Bool.and_true, Bool.not_false]) _ h0 h5 rfl
  · obtain rfl : i = l.length := by omega
    simp (maxSteps := 1000000) (disch := omega) only [h0, h5, h6, hlt, len_s, qaaz, qabz, qacz, qadz, qaez, qagz, qaiz, qajz, qcrz, qcwz, forall_const, qalz, evOp, qaoz, qapz, qarz, qatz, qavz,
 ↓reduceIte, Nat.reduceEqDiff, Option.map_some, qazz, qbbz, qbfz, qbjz, qblz, qbpz, qbqz, decide_false,
 Int.ofNat_lt, Bool.false_eq_true, true_and, reduceCtorEq]
    refine retB rfl hk ?_
    simp only [nmA, all_getD (p := prC) hall, Bool.true_and]
    by_cases h : l.length ≤ 128
    · rw [decide_eq_true h, decide_eq_true (by omega)]
    · rw [decide_eq_false h, decide_eq_false (by omega)]
end Go.Ab
