/-
  Rules for running abstract code by rewriting.
-/
import Derived.Test.YtemnjmphkmokmaaAbLim
namespace Go.Ab
set_option linter.unusedVariables false
set_option linter.unusedSimpArgs false

variable {A : AP} {e : Env} {st : St}

/-- Code comes to an end of which Q holds. -/
def W (A : AP) (c : ACode) (e : Env) (st : St) (Q : Ex → Env → St → Prop) : Prop := ∃ r, ex A c e st = some r ∧ Q r.1 r.2.1 r.2.2

/-- An operation comes to a value of which K holds. -/
def WP (o : Option (PV × St)) (K : PV → St → Prop) : Prop := match o with | some (v, st') => K v st' | none => False

def WO (A : AP) : List AOper → Env → St → (Env → St → Prop) → Prop
  | [], e, st, Q => Q e st
  | o :: r, e, st, Q => if wantedA o.guard e = true then WP (evOp (call A) o.op e st) (fun v st' => WO A r (updO e o.dst v) st' Q) else WO A r (updO e o.dst .undef) st Q

theorem WP_some {v : PV} {st' : St} {K : PV → St → Prop} : WP (some (v, st')) K = K v st' := rfl
theorem WP_none {K : PV → St → Prop} : WP none K = False := rfl

theorem WO_iff : ∀ (ops : List AOper) (e : Env) (st : St) (Q : Env → St → Prop), WO A ops e st Q ↔ ∃ r, evOps (call A) ops e st = some r ∧ Q r.1 r.2 := by
  intro ops
  induction ops with
  | nil => intro e st Q; simp [WO, evOps]
  | cons o r ih =>
    intro e st Q
    simp only [WO, evOps]
    split
    · cases h : evOp (call A) o.op e st with
      | none => simp [WP]
      | some q => obtain ⟨v, st'⟩ := q; simp only [WP]; exact ih _ _ _
    · exact ih _ _ _

theorem WO_nil {Q : Env → St → Prop} : WO A [] e st Q = Q e st := rfl

/-- The rest behind an operation. -/
def WN (A : AP) (o : Option (PV × St)) (d : Option Nat) (r : List AOper) (e : Env) (Q : Env → St → Prop) : Prop := match o with
  | some (v, st') => WO A r (updO e d v) st' Q
  | none => False
theorem WN_some {v : PV} {st' : St} {d : Option Nat} {r : List AOper} {Q : Env → St → Prop} : WN A (some (v, st')) d r e Q = WO A r (updO e d v) st' Q := rfl
theorem WN_none {d : Option Nat} {r : List AOper} {Q : Env → St → Prop} : WN A none d r e Q = False := rfl

theorem WO_cons {d : Option Nat} {op : AOp} {r : List AOper} {Q : Env → St → Prop} : WO A (⟨d, op, none⟩ :: r) e st Q = WN A (evOp (call A) op e st) d r e Q := by
  simp only [WO, wantedA, if_true]
  cases evOp (call A) op e st with
  | none => rfl
  | some q => rfl
theorem WO_consG {d : Option Nat} {op : AOp} {g : Nat} {b : Bool} {r : List AOper} {Q : Env → St → Prop} : WO A (⟨d, op, some (g, b)⟩ :: r) e st Q =
    if (wantedA (some (g, b)) e) = true then WN A (evOp (call A) op e st) d r e Q else WO A r (updO e d .undef) st Q := by
  simp only [WO]
  cases evOp (call A) op e st with
  | none => rfl
  | some q => rfl

def wantB (b : Bool) : PV → Bool
  | .bool c => c == b
  | _ => false
theorem wantedA_eq {g : Nat} {b : Bool} : wantedA (some (g, b)) e = wantB b (e g) := by
  simp only [wantedA, wantB]
  cases e g <;> rfl

/-- What is asked ahead of a second piece of code. -/
def seqQ (A : AP) (b : ACode) (Q : Ex → Env → St → Prop) : Ex → Env → St → Prop
  | .normal, e, st => W A b e st Q
  | x, e, st => Q x e st
theorem seqQ_normal {b : ACode} {Q : Ex → Env → St → Prop} : seqQ A b Q .normal e st = W A b e st Q := rfl
theorem seqQ_ret {b : ACode} {Q : Ex → Env → St → Prop} : seqQ A b Q .ret e st = Q .ret e st := rfl
theorem seqQ_exit {b : ACode} {Q : Ex → Env → St → Prop} {i : Nat} : seqQ A b Q (.exit i) e st = Q (.exit i) e st := rfl
theorem seqQ_goto {b : ACode} {Q : Ex → Env → St → Prop} {i : Nat} : seqQ A b Q (.goto i) e st = Q (.goto i) e st := rfl
def thenQ (Qn : Env → St → Prop) (Q : Ex → Env → St → Prop) : Ex → Env → St → Prop
  | .normal, e, st => Qn e st
  | x, e, st => Q x e st
def blockQ (id : Nat) (Q : Ex → Env → St → Prop) : Ex → Env → St → Prop
  | .exit i, e, st => if i = id then Q .normal e st else Q (.exit i) e st
  | x, e, st => Q x e st
def condQ (v : PV) (a b : Prop) : Prop := match v with
  | .bool true => a
  | .bool false => b
  | _ => False

/-- One of two pieces of code. -/
def condW (A : AP) (v : PV) (a b : ACode) (e : Env) (st : St) (Q : Ex → Env → St → Prop) : Prop := match v with
  | .bool true => W A a e st Q
  | .bool false => W A b e st Q
  | _ => False
theorem condW_bool {t : Bool} {a b : ACode} {Q : Ex → Env → St → Prop} : condW A (.bool t) a b e st Q = if t = true then W A a e st Q else W A b e st Q := by cases t <;> rfl
theorem blockQ_normal {id : Nat} {Q : Ex → Env → St → Prop} : blockQ id Q .normal e st = Q .normal e st := rfl
theorem blockQ_ret {id : Nat} {Q : Ex → Env → St → Prop} : blockQ id Q .ret e st = Q .ret e st := rfl
theorem blockQ_goto {id l : Nat} {Q : Ex → Env → St → Prop} : blockQ id Q (.goto l) e st = Q (.goto l) e st := rfl
theorem blockQ_exit {id i : Nat} {Q : Ex → Env → St → Prop} : blockQ id Q (.exit i) e st = if i = id then Q .normal e st else Q (.exit i) e st := rfl
theorem condQ_bool {t : Bool} {a b : Prop} : condQ (.bool t) a b = if t = true then a else b := by cases t <;> rfl

theorem W_region {ops : List AOper} {Q : Ex → Env → St → Prop} : W A (.region ops) e st Q = WO A ops e st (Q .normal) := by
  apply propext
  rw [WO_iff]
  simp only [W, ex_region]
  constructor
  · rintro ⟨r, hr, hq⟩
    cases h : evOps (call A) ops e st with
    | none => rw [h] at hr; cases hr
    | some q => rw [h] at hr; cases hr; exact ⟨q, rfl, hq⟩
  · rintro ⟨q, hq, h⟩
    exact ⟨_, by rw [hq]; rfl, h⟩

theorem W_seq {a b : ACode} {Q : Ex → Env → St → Prop} : W A (.seq a b) e st Q = W A a e st (seqQ A b Q) := by
  apply propext
  simp only [W, ex_seq]
  constructor
  · rintro ⟨r, hr, hq⟩
    cases h : ex A a e st with
    | none => rw [h] at hr; cases hr
    | some q =>
      obtain ⟨x, e1, st1⟩ := q
      rw [h] at hr
      refine ⟨_, rfl, ?_⟩
      cases x with
      | normal => exact ⟨r, hr, hq⟩
      | _ => cases hr; exact hq
  · rintro ⟨⟨x, e1, st1⟩, hr, hq⟩
    rw [hr]
    cases x with
    | normal =>
      obtain ⟨r, h1, h2⟩ := hq
      exact ⟨r, h1, h2⟩
    | _ => exact ⟨_, rfl, hq⟩

theorem W_cond {c : Opd} {a b : ACode} {Q : Ex → Env → St → Prop} : W A (.cond c a b) e st Q = condW A (c.ev e) a b e st Q := by
  apply propext
  simp only [condW]
  simp only [W, ex_cond]
  cases c.ev e with
  | bool t => cases t <;> rfl
  | _ => simp

theorem W_block {id : Nat} {b : ACode} {Q : Ex → Env → St → Prop} : W A (.block id b) e st Q = W A b e st (blockQ id Q) := by
  apply propext
  simp only [W, ex_block]
  constructor
  · rintro ⟨r, hr, hq⟩
    cases h : ex A b e st with
    | none => rw [h] at hr; cases hr
    | some q =>
      obtain ⟨x, e1, st1⟩ := q
      rw [h] at hr
      refine ⟨_, rfl, ?_⟩
      cases x with
      | exit i =>
        simp only [Option.some.injEq] at hr
        subst hr
        simp only [blockQ]
        split
        · rename_i hi; simpa [hi] using hq
        · rename_i hi; simpa [hi] using hq
      | _ => cases hr; exact hq
  · rintro ⟨⟨x, e1, st1⟩, hr, hq⟩
    rw [hr]
    cases x with
    | exit i =>
      refine ⟨_, rfl, ?_⟩
      simp only [blockQ] at hq
      by_cases hi : i = id
      · simpa [hi] using hq
      · simpa [hi] using hq
    | _ => exact ⟨_, rfl, hq⟩

theorem W_skip {Q : Ex → Env → St → Prop} : W A .skip e st Q = Q .normal e st := by simp [W, ex_skip]
theorem W_label {l : Nat} {Q : Ex → Env → St → Prop} : W A (.label l) e st Q = Q .normal e st := by simp [W, ex_label]
theorem W_exit {i : Nat} {Q : Ex → Env → St → Prop} : W A (.exit i) e st Q = Q (.exit i) e st := by simp [W, ex_exit]
theorem W_goto {i : Nat} {Q : Ex → Env → St → Prop} : W A (.goto i) e st Q = Q (.goto i) e st := by simp [W, ex_goto]
theorem W_ret {Q : Ex → Env → St → Prop} : W A .ret e st Q = Q .ret e st := by simp [W, ex_ret]

theorem W_mono {c : ACode} {Q Q' : Ex → Env → St → Prop} (h : W A c e st Q) (hq : ∀ x e st, Q x e st → Q' x e st) : W A c e st Q' :=
  let ⟨r, h1, h2⟩ := h; ⟨r, h1, hq _ _ _ h2⟩

/-- What is asked behind a loop's body. -/
def loopQ (I : Nat → Env → St → Prop) (n : Nat) (Q : Ex → Env → St → Prop) : Ex → Env → St → Prop
  | .normal, e, st => ∃ m, m < n ∧ I m e st
  | x, e, st => Q x e st
theorem loopQ_normal {I : Nat → Env → St → Prop} {n : Nat} {Q : Ex → Env → St → Prop} : loopQ I n Q .normal e st = ∃ m, m < n ∧ I m e st := rfl
theorem loopQ_ret {I : Nat → Env → St → Prop} {n : Nat} {Q : Ex → Env → St → Prop} : loopQ I n Q .ret e st = Q .ret e st := rfl
theorem loopQ_exit {I : Nat → Env → St → Prop} {n i : Nat} {Q : Ex → Env → St → Prop} : loopQ I n Q (.exit i) e st = Q (.exit i) e st := rfl
theorem loopQ_goto {I : Nat → Env → St → Prop} {n i : Nat} {Q : Ex → Env → St → Prop} : loopQ I n Q (.goto i) e st = Q (.goto i) e st := rfl

theorem loopQ_intro {I : Nat → Env → St → Prop} {n m : Nat} {Q : Ex → Env → St → Prop} (h : m < n) (hI : I m e st) : loopQ I n Q .normal e st := ⟨m, h, hI⟩

/-- A loop, by an invariant and a measure. -/
theorem W_loop {b : ACode} {Q : Ex → Env → St → Prop} (I : Nat → Env → St → Prop) (step : ∀ n e st, I n e st → W A b e st (loopQ I n Q)) {n : Nat} (h : I n e st) : W A (.loop b) e st Q := by
  induction n using Nat.strongRecOn generalizing e st with
  | _ n ih =>
    obtain ⟨⟨x, e1, st1⟩, h1, h2⟩ := step n e st h
    unfold W
    rw [ex_loop, h1]
    cases x with
    | normal =>
      obtain ⟨m, hm, hI⟩ := h2
      exact ih m hm hI
    | _ => exact ⟨_, rfl, h2⟩

theorem W_scope {b : ACode} {Q : Ex → Env → St → Prop} : W A (.scope b) e st Q = W A (.scopeAt b b) e st Q := by simp only [W, ex_scope]

/-- A scope within which each jump leads to a label that is in it. -/
theorem W_scopeAt {b cur : ACode} {Q : Ex → Env → St → Prop} (h : W A cur e st (fun x e' st' => match x with
    | .goto l => (match findLabelA b l with | some rest => W A (.scopeAt b rest) e' st' Q | none => Q (.goto l) e' st')
    | x => Q x e' st')) : W A (.scopeAt b cur) e st Q := by
  obtain ⟨⟨x, e1, st1⟩, h1, h2⟩ := h
  unfold W
  rw [ex_scopeAt, h1]
  cases x with
  | goto l =>
    simp only at h2 ⊢
    cases hf : findLabelA b l with
    | some rest => rw [hf] at h2; exact h2
    | none => rw [hf] at h2; exact ⟨_, rfl, h2⟩
  | _ => exact ⟨_, rfl, h2⟩

/-- What is asked where a function's body ends. -/
def endQ (st : St) (rs : List RV) (r : PV × St) : Ex → Env → St → Prop := fun x e1 st1 => (x = .normal ∨ x = .ret) ∧ ∃ rv, resOf e1 st1 rs = some rv ∧ leave st st1 rv = r
theorem endQ_ret {st0 : St} {rs : List RV} {r : PV × St} : endQ st0 rs r .ret e st = ∃ rv, resOf e st rs = some rv ∧ leave st0 st rv = r := by simp [endQ]
theorem endQ_normal {st0 : St} {rs : List RV} {r : PV × St} : endQ st0 rs r .normal e st = ∃ rv, resOf e st rs = some rv ∧ leave st0 st rv = r := by simp [endQ]

/-- A function's call, out of its body's run. -/
theorem call_of_W {f : Nat} {caps args : List PV} {fn : ACFn} {v : PV} {st' : St} (hA : A f = some (.code fn))
    (h : W A fn.body (env0 (args ++ caps)) { st with low := st.boxes.length } (endQ st fn.results (v, st'))) :
    call A (.fn f caps) args st = some (v, st') := by
  obtain ⟨⟨x, e1, st1⟩, h1, h2, rv, h3, h4⟩ := h
  rw [call_fn hA, h1]
  rcases h2 with rfl | rfl
  · simp only [finish]; simp only at h3 h4; rw [h3]; simp [h4]
  · simp only [finish]; simp only at h3 h4; rw [h3]; simp [h4]

/-! ### Environments -/
theorem upd_eq {d t : Nat} {v : PV} : upd e d v t = if t = d then v else e t := rfl
theorem updO_some {d : Nat} {v : PV} : updO e (some d) v = upd e d v := rfl
theorem updO_none {v : PV} : updO e none v = e := rfl
theorem ev_tmp {t : Nat} : (Opd.tmp t).ev e = e t := rfl
theorem ev_const {v : PV} : (Opd.const v).ev e = v := rfl
theorem ev_fn {f : Nat} : (Opd.fn f).ev e = .fn f [] := rfl

theorem env0_nil {t : Nat} : env0 [] t = .undef := rfl
theorem env0_zero {v : PV} {l : List PV} : env0 (v :: l) 0 = v := rfl
theorem env0_succ {v : PV} {l : List PV} {t : Nat} : env0 (v :: l) (t + 1) = env0 l t := rfl

/-! ### What is left behind a call -/
def Tok.lt (n : Nat) : Tok → Bool
  | .own i => decide (i < n)
  | _ => true

theorem keepTok_lt {n : Nat} {toks : List Bool} {acc : List Nat} {t : Tok} (h : t.lt n = true) : keepTok n toks acc t = (t, acc) := by
  cases t with
  | own i => simp [Tok.lt] at h; simp [keepTok, h]
  | _ => rfl

/-- Nothing was laid that stays. -/
theorem keep1 {n : Nat} {toks : List Bool} {v : PV} (h : keepVal n toks [] v = (v, [])) (ht : notTup v = true) : keepRes n toks v = (v, []) := by
  cases v <;> first | exact h | simp [notTup] at ht
theorem keep2 {n : Nat} {toks : List Bool} {v1 v2 : PV} (h1 : keepVal n toks [] v1 = (v1, [])) (h2 : keepVal n toks [] v2 = (v2, [])) : keepRes n toks (.tup [v1, v2]) = (.tup [v1, v2], []) := by
  simp [keepRes, keepVals, h1, h2]
theorem keep3 {n : Nat} {toks : List Bool} {v1 v2 v3 : PV} (h1 : keepVal n toks [] v1 = (v1, [])) (h2 : keepVal n toks [] v2 = (v2, [])) (h3 : keepVal n toks [] v3 = (v3, [])) : keepRes n toks (.tup [v1, v2, v3]) = (.tup [v1, v2, v3], []) := by
  simp [keepRes, keepVals, h1, h2, h3]

theorem leave_same {v : PV} {lo : Nat} (h1 : v.inB st.boxes.length = true) (h2 : st.boxes.length ≤ lo) (toks : List Bool) (h3 : keepRes st.toks.length toks v = (v, [])) (bs : List (List PV)) (ts : List Bool) (hb : bs.take st.boxes.length = st.boxes) (ht : toks.take st.toks.length = st.toks) :
    leave st { boxes := bs, toks := toks, loops := st.loops, low := lo } v = (v, st) := by
  simp [leave, h1, h2, h3, hb, ht]
end Go.Ab
