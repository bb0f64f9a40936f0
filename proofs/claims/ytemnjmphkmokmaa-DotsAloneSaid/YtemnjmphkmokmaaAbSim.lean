/-
  The simulation: what the evaluator answers, the machine comes to.
-/
import Derived.Test.YtemnjmphkmokmaaAbLeave
namespace Go.Ab
set_option linter.unusedVariables false
set_option linter.unusedSimpArgs false

variable {P : Program} {g : GMap} {base : Nat} {κ : K} {w : World} {st : St} {A : AP}

def Wide (F : Fence) : Prop := (F.depth = none ∧ F.alive = false) ∧ ∀ f, F.fn f

theorem Wide.room {F : Fence} (h : Wide F) (n : Nat) : F.room n := fun d hd => by rw [h.1.1] at hd; cases hd
theorem Wide.inRound {F : Fence} (h : Wide F) (l : Nat) : Wide (F.inRound l) := h
theorem Wide.deep {F : Fence} (h : Wide F) {n : Nat} : F.depth.isSome = true → 1 ≤ n := fun hd => by rw [h.1.1] at hd; cases hd

def exOf : Ex → Exit
  | .normal => .normal
  | .ret => .ret
  | .exit i => .exit i
  | .goto l => .goto l

/-- Whatever follows holds behind an operation's run. -/
def UpGood (P : Program) (g : GMap) (base : Nat) (κ : K) (w : World) (F : Fence) (r : Result Next) (v : PV) (st' : St) : Prop :=
  ∀ (nn : Nat) (o : Oper) (a : Act) (next : Act → World → Prop) (Q : Exit → Act → World → Prop),
    (∀ κ' z w', K.le κ κ' → κ'.lam = κ.lam → SR P g base κ' w' st' → R g κ' z v → Fr base κ.lam w w' → next (a.put o.dst z) w') → o.uponIn F nn P a next Q r

theorem OpGood.up {r : Result Next} {v : PV} {st' : St} (h : OpGood P g base κ w r v st') (F : Fence) : UpGood P g base κ w F r v st' := by
  obtain ⟨z, w', h1, κ', h2, h3, h4, h5, h6⟩ := h
  intro nn o a next Q hn
  rcases h1 with rfl | ⟨rfl, rfl⟩
  · exact hn κ' z w' h2 h3 h4 h5 h6
  · exact hn κ' undef w' h2 h3 h4 h5 h6

/-- A primitive does what its plain function says. -/
def PrimOK (P : Program) (g : GMap) (f' : FuncId) (p : List PV → Option PV) : Prop :=
  ∀ (base : Nat) (κ : K) (w : World) (st : St) (args : Array Value) (ps : List PV) (v : PV), SR P g base κ w st → args.size = ps.length → (∀ (i : Nat) (u : Value) (q : PV), args[i]? = some u → ps[i]? = some q → R g κ u q) →
    p ps = some v → ∀ F, Wide F → UpGood P g base κ w F ((callFunc f' args).run P w) v st

structure Linked (P : Program) (g : GMap) (A : AP) : Prop where
  code : ∀ (f' : FuncId) (f : Nat) (fn : ACFn), g f' = some f → A f = some (.code fn) → ∃ pf, P.funcs[f']? = some pf ∧ chkFn P g pf fn = true
  prim : ∀ (f' : FuncId) (f : Nat) (p : List PV → Option PV), g f' = some f → A f = some (.prim p) → PrimOK P g f' p
  mixed : P.follows .mixedOrders = true

def RoundOK (F : Fence) (κ : K) : Prop := F.round = none ∨ ∃ (k l D : Nat), F.round = some l ∧ κ.lam[k]? = some (l, D)

/-- The marks among the deferred calls. -/
def DefOK (B : Nat) (w : World) (ds : List Deferred) : Prop :=
  (∀ d ∈ ds, ∃ D, d = { target := .collected D, args := #[] } ∧ B ≤ D ∧ w.heap[D]? = some (.deferred (some []))) ∧ ds.Pairwise (fun d d' => d ≠ d')

theorem SR.loopAt (h : SR P g base κ w st) {l : Nat} (hl : l ∈ κ.lam.map (·.1)) : ∃ rec, w.heap[l]? = some (.loop rec) := by
  obtain ⟨⟨l', D⟩, hm, rfl⟩ := List.mem_map.1 hl
  obtain ⟨k, hk⟩ := List.getElem?_of_mem hm
  have hlt : k < st.loops.length := by rw [← h.ll]; exact (List.getElem?_eq_some_iff.1 hk).1
  obtain ⟨rec, nt, h1, _⟩ := (h.lp k l' D _ (by simp [hlt]; rfl) hk).ex
  exact ⟨rec, h1⟩

theorem DefOK.fr {B : Nat} {w w' : World} {ds : List Deferred} (hsr : SR P g base κ w st) (h : DefOK B w ds) (hf : Fr base κ.lam w w') : DefOK B w' ds :=
  ⟨fun d hd => by
    obtain ⟨D, h1, h2, h3⟩ := h.1 d hd
    refine ⟨D, h1, h2, hf.objs D _ h3 rfl fun hm => ?_⟩
    obtain ⟨rec, hr⟩ := hsr.loopAt hm
    rw [h3] at hr
    exact Obj.noConfusion (Option.some.inj hr), h.2⟩

theorem EnvR.put {nt d : Nat} {a : Act} {e : Env} {v : Value} {p : PV} (h : EnvR g κ nt a.tmps e) (hd : d < nt) (hr : R g κ v p) : EnvR g κ nt (a.put (some d) v).tmps (upd e d p) := by
  refine ⟨by simp [Act.put]; exact h.1, fun t => ?_⟩
  simp only [Act.put, upd]
  by_cases ht : t = d
  · subst ht
    rw [if_pos rfl]
    have : t < a.tmps.size := by have := h.1; omega
    simp [Array.getD, this]; exact hr
  · rw [if_neg ht]
    have h2 := h.2 t
    simp only [Array.getD_eq_getD_getElem?] at *
    rw [Array.getElem?_setIfInBounds_ne (Ne.symm ht)]
    exact h2

theorem EnvR.putO {nt : Nat} {dst : Option Nat} {a : Act} {e : Env} {v : Value} {p : PV} (h : EnvR g κ nt a.tmps e) (hd : (match dst with | some d => decide (d < nt) | none => true) = true) (hr : R g κ v p) :
    EnvR g κ nt (a.put dst v).tmps (updO e dst p) := by
  cases dst with
  | none => exact h
  | some d => exact h.put (by simpa using hd) hr

theorem put_defers (a : Act) (dst : Option Tmp) (v : Value) : (a.put dst v).defers = a.defers := by
  cases dst with
  | none => rfl
  | some d => rfl

theorem wanted_sim {nt : Nat} {ops : Array Oper} {o : Oper} {a : AOper} {act : Act} {e : Env} (h : EnvR g κ nt act.tmps e) (hc : chkGuard ops o.guard a.guard = true) : Region.wanted o (yielded ops act.tmps) = wantedA a.guard e := by
  unfold Region.wanted wantedA
  cases hg : o.guard with
  | none =>
    cases hg' : a.guard with
    | none => rfl
    | some q => rw [hg, hg'] at hc; simp [chkGuard] at hc
  | some q =>
    obtain ⟨j, want⟩ := q
    cases hg' : a.guard with
    | none => rw [hg, hg'] at hc; simp [chkGuard] at hc
    | some q' =>
      obtain ⟨d, want'⟩ := q'
      rw [hg, hg'] at hc
      simp only [chkGuard, Bool.and_eq_true, decide_eq_true_eq, beq_iff_eq] at hc
      obtain ⟨h1, rfl⟩ := hc
      simp only [yielded, h1, Option.bind_some]
      have hr := h.2 d
      by_cases hd : d < act.tmps.size
      · simp only [Array.getD, hd, dif_pos] at hr
        simp only [Array.getElem?_eq_getElem hd]
        have hr' : R g κ act.tmps[d] (e d) := hr
        generalize act.tmps[d] = v at hr'
        generalize e d = p at hr'
        cases hr' <;> simp
      · simp only [Array.getD, hd, dif_neg, not_false_eq_true] at hr
        rw [Array.getElem?_eq_none (by omega)]
        generalize e d = p at hr
        cases hr <;> simp

/-- Callees, as the induction has them. -/
def SimV (P : Program) (g : GMap) (callV : PV → List PV → St → Option (PV × St)) : Prop :=
  ∀ (F : Fence), Wide F → ∀ (base : Nat) (κ : K) (w : World) (st : St) (fv : Value) (fp : PV) (args : Array Value) (ps : List PV) (v : PV) (st' : St), SR P g base κ w st → R g κ fv fp → args.size = ps.length →
    (∀ (i : Nat) (u : Value) (q : PV), args[i]? = some u → ps[i]? = some q → R g κ u q) → st.low ≤ st.boxes.length → callV fp ps st = some (v, st') →
    ∃ d, (∀ w1, (Deferred.ofValue fv args).run P w1 = .ok d w1) ∧ UpGood P g base κ w F ((invoke d.target d.args).run P w) v st'

theorem opAny_sim {cv : PV → List PV → St → Option (PV × St)} (hcv : SimV P g cv) {F : Fence} (hF : Wide F) {nt : Nat} {act : Act} {e : Env} (hsr : SR P g base κ w st) (hE : EnvR g κ nt act.tmps e) (hlow : st.low ≤ st.boxes.length) {o : Oper} {a : AOp} {v : PV} {st' : St}
    (hc : chkOp P g o.op a = true) (h : evOp cv a e st = some (v, st')) : UpGood P g base κ w F ((execOp act.eval o).run P w) v st' := by
  by_cases hcall : isCall a = true
  · cases a <;> simp [isCall] at hcall
    rename_i f' args'
    cases ho : o.op <;> rw [ho] at hc <;> simp [chkOp] at hc
    rename_i c
    obtain ⟨callee, args, ats⟩ := c
    cases callee with
    | value f =>
      simp only [Bool.and_eq_true] at hc
      obtain ⟨c1, c2⟩ := chkOpds_R (opdR_of hsr.gv hE) _ _ hc.2
      simp only [evOp] at h
      obtain ⟨d, hd, hup⟩ := hcv F hF base κ w st (act.eval f) (f'.ev e) (args.map act.eval) (args'.map fun x => x.ev e) v st' hsr (opdR_of hsr.gv hE _ _ hc.1) (by simpa using c1) (fun i u q a b => c2 i u q (by simpa using a) b) hlow h
      have : (execOp act.eval o).run P w = (invoke d.target d.args).run P w := by
        simp only [execOp, ho, resolve, Sem.run_bind, hd, Result.andThen_ok]
      rw [this]; exact hup
    | builtin b =>
      simp only at hc
      cases b <;> simp [chkBuiltin] at hc
    | invoke r n => simp at hc
  · exact (op_sim hsr (opdR_of hsr.gv hE) hc (by simpa using hcall) h).up F

theorem chkOp_defer {op : Op} {a : AOp} (h : chkOp P g op a = true) : ∀ c, op ≠ .defer c := by
  rintro c rfl; simp [chkOp] at h

/-! ### Regions -/
/-- Operations in an order by their numbers. -/
def evIdx (callV : PV → List PV → St → Option (PV × St)) (as : List AOper) : List Nat → Env → St → Option (Env × St)
  | [], e, st => some (e, st)
  | i :: r, e, st => match as[i]? with
    | none => evIdx callV as r e st
    | some o =>
      if wantedA o.guard e then
        match evOp callV o.op e st with
        | some (v, st') => evIdx callV as r (updO e o.dst v) st'
        | none => none
      else evIdx callV as r (updO e o.dst .undef) st

theorem evIdx_drop (callV : PV → List PV → St → Option (PV × St)) (as : List AOper) : ∀ (n k : Nat) (e : Env) (st : St), k + n = as.length → evIdx callV as (List.range' k n) e st = evOps callV (as.drop k) e st := by
  intro n
  induction n with
  | zero =>
    intro k e st h
    rw [List.drop_of_length_le (by omega)]; rfl
  | succ n ih =>
    intro k e st h
    have hk : k < as.length := by omega
    rw [List.drop_eq_getElem_cons hk, List.range'_succ]
    simp only [evIdx, evOps, List.getElem?_eq_getElem hk]
    split
    · cases hev : evOp callV as[k].op e st with
      | none => rfl
      | some q => exact ih (k + 1) _ _ (by omega)
    · exact ih (k + 1) _ _ (by omega)

theorem evIdx_range (callV : PV → List PV → St → Option (PV × St)) (as : List AOper) (e : Env) (st : St) : evIdx callV as (List.range as.length) e st = evOps callV as e st := by
  rw [List.range_eq_range', evIdx_drop callV as as.length 0 e st (by omega)]; rfl

theorem chkOpers_get {nt : Nat} {ops : Array Oper} : ∀ {os : List Oper} {as : List AOper}, chkOpers P g nt ops os as = true → os.length = as.length ∧ ∀ (i : Nat) (o : Oper) (a : AOper), os[i]? = some o → as[i]? = some a → chkOper P g nt ops o a = true := by
  intro os
  induction os with
  | nil => intro as h; cases as with
    | nil => exact ⟨rfl, fun i o a h => by simp at h⟩
    | cons => simp [chkOpers] at h
  | cons o os ih =>
    intro as h
    cases as with
    | nil => simp [chkOpers] at h
    | cons a as =>
      simp only [chkOpers, Bool.and_eq_true] at h
      obtain ⟨h1, h2⟩ := ih h.2
      refine ⟨by simp [h1], fun i o' a' ho ha => ?_⟩
      cases i with
      | zero => simp at ho ha; subst ho ha; exact h.1
      | succ i => simp at ho ha; exact h2 i o' a' ho ha

theorem idx_ops_sim {cv : PV → List PV → St → Option (PV × St)} (hcv : SimV P g cv) (htk : ∀ f args st v st', cv f args st = some (v, st') → st.low ≤ st.boxes.length → TK st st') {F : Fence} (hF : Wide F) {nt nn B : Nat} {ops : Array Oper} {as : List AOper} (hc : chkOpers P g nt ops ops.toList as = true) :
    ∀ (L : List Nat) (κ : K) (w : World) (st : St) (a : Act) (e e' : Env) (st' : St) (Q : Exit → Act → World → Prop), SR P g base κ w st → EnvR g κ nt a.tmps e → st.low ≤ st.boxes.length → evIdx cv as L e st = some (e', st') →
      (∀ κ' a' w', K.le κ κ' → κ'.lam = κ.lam → SR P g base κ' w' st' → EnvR g κ' nt a'.tmps e' → a'.defers = a.defers → Fr base κ.lam w w' → Q .normal a' w') → wpOpsIn F nn P ops Q L a w := by
  obtain ⟨hlen, hget⟩ := chkOpers_get hc
  intro L
  induction L with
  | nil =>
    intro κ w st a e e' st' Q hsr hE hlow h hQ
    simp [evIdx] at h
    obtain ⟨rfl, rfl⟩ := h
    exact hQ κ a w (K.le.refl κ) rfl hsr hE rfl (Fr.refl _ _)
  | cons i L ih =>
    intro κ w st a e e' st' Q hsr hE hlow h hQ
    simp only [wpOpsIn]
    simp only [evIdx] at h
    cases ho : ops[i]? with
    | none =>
      have ha : as[i]? = none := by
        rw [List.getElem?_eq_none_iff, ← hlen]
        simpa using ho
      rw [ha] at h
      exact ih κ w st a e e' st' Q hsr hE hlow h hQ
    | some o =>
      have hil : i < as.length := by rw [← hlen]; simpa using (Array.getElem?_eq_some_iff.1 ho).1
      have hai : as[i]? = some as[i] := by simp [hil]
      rw [hai] at h
      simp only at h
      have hco := hget i o as[i] (by simpa using ho) hai
      simp only [chkOper, Bool.and_eq_true, decide_eq_true_eq] at hco
      obtain ⟨⟨⟨hdst, hdlt⟩, hgd⟩, hop⟩ := hco
      simp only [wanted_sim hE hgd]
      split
      · rename_i hw
        rw [if_pos hw] at h
        split at h
        · rename_i v st1 hev
          refine ⟨fun f _ => hF.2 f, ?_⟩
          rw [Oper.semAt_eq _ _ _ (chkOp_defer hop)]
          have hup := opAny_sim hcv hF hsr hE hlow hop hev
          refine hup nn o a _ Q (fun κ1 z w1 h1 h2 h3 h4 h5 => ?_)
          rw [hdst]
          refine ih κ1 w1 st1 _ _ e' st' Q h3 ((hE.mono h1).putO hdlt h4) (evOp_TK htk hev hlow).lw h (fun κ2 a2 w2 b1 b2 b3 b4 b5 b6 => ?_)
          exact hQ κ2 a2 w2 (h1.trans b1) (b2.trans h2) b3 b4 (b5.trans (put_defers _ _ _)) (h5.trans (by rw [h2] at b6; exact b6))
        · cases h
      · rename_i hw
        rw [if_neg hw] at h
        refine ⟨fun f _ => hF.2 f, ?_⟩
        rw [hdst]
        refine ih κ w st _ _ e' st' Q hsr (hE.putO hdlt .undef) hlow h (fun κ2 a2 w2 b1 b2 b3 b4 b5 b6 => ?_)
        exact hQ κ2 a2 w2 b1 b2 b3 b4 (b5.trans (put_defers _ _ _)) b6

end Go.Ab
