/-
  The simulation: all constructs.
-/
import Derived.Test.YtemnjmphkmokmaaAbMain
namespace Go.Ab
set_option linter.unusedVariables false
set_option linter.unusedSimpArgs false

variable {P : Program} {g : GMap} {A : AP}

def LoopRun (F : Fence) (nn : Nat) (P : Program) (body : Code) (Q : Exit → Act → World → Prop) (a : Act) (w : World) : Prop :=
  ∀ (b : Frame) (k : List Item) (cs : List Frame), b.roundOf = F.round → F.fn b.fn → F.room (cs.length + 1 + nn) →
    ∃ e a' w', Q e a' w' ∧ ArrivesIn (Machine.fenced P F) P (lone (b.atR a (.code body :: .inLoop body :: k)) cs w) b k cs e a' w'

theorem loopRun_step {F : Fence} {nn : Nat} {c : Code} {Q : Exit → Act → World → Prop} {a : Act} {w : World} (h : c.wpIn F nn P (Exit.then (LoopRun F nn P c Q) Q) a w) : LoopRun F nn P c Q a w := by
  intro b k cs hro hb hr
  obtain ⟨e, a₁, w₁, hq, harr⟩ := h b (.inLoop c :: k) cs hro hb hr
  cases e with
  | normal =>
    obtain ⟨e₂, a₂, w₂, hq₂, harr₂⟩ := hq b k cs hro hb hr
    exact ⟨e₂, a₂, w₂, hq₂, .of_steps (StepsIn.trans harr (.one (fenced_calm hb hr rfl) stepR_inLoop)) harr₂⟩
  | exit id => exact ⟨_, a₁, w₁, hq, .pass (x := .inLoop c) rfl (fun _ _ => .inl (by simp)) harr⟩
  | goto l => exact ⟨_, a₁, w₁, hq, .pass (x := .inLoop c) rfl (fun _ _ => .inl (by simp)) harr⟩
  | ret => exact ⟨_, a₁, w₁, hq, .pass (x := .inLoop c) rfl (fun _ _ => .inl (by simp)) harr⟩
  | panic ch => exact ⟨_, a₁, w₁, hq, .pass (x := .inLoop c) rfl (fun _ _ => .inl (by simp)) harr⟩
  | outgrown => exact ⟨_, a₁, w₁, hq, .pass (x := .inLoop c) rfl (fun _ _ => .inl (by simp)) harr⟩

theorem wpIn_loopRun {F : Fence} {nn : Nat} {c : Code} {Q : Exit → Act → World → Prop} {a : Act} {w : World} (h : LoopRun F nn P c Q a w) : (Code.loop c).wpIn F nn P Q a w := by
  intro b k cs hro hb hr
  obtain ⟨e, a', w', hq, harr⟩ := h b k cs hro hb hr
  exact ⟨e, a', w', hq, .of_steps (.one (fenced_calm hb hr rfl) stepR_loop) harr⟩

def SimL (P : Program) (g : GMap) (A : AP) (n : Nat) : Prop :=
  ∀ (F : Fence), Wide F → ∀ (nt : Nat) (body : Code) (ab : ACode), chkCode P g nt body ab = true → ∀ (base : Nat) (κ : K) (w : World) (st : St) (a : Act) (e : Env) (B : Nat) (x : Ex) (e' : Env) (st' : St) (nn : Nat) (Q : Exit → Act → World → Prop),
    SR P g base κ w st → EnvR g κ nt a.tmps e → DefOK B w a.defers → (F.round.isSome = true → a.defers = []) → RoundOK F κ → B ≤ w.heap.size → st.low ≤ st.boxes.length → evC A n (.loop ab) e st = some (x, e', st') →
    Cont P g F nt base B κ w x e' st' Q → LoopRun F nn P body Q a w

theorem RoundOK.lam {F : Fence} {κ κ' : K} (h : RoundOK F κ) (hl : κ'.lam = κ.lam) : RoundOK F κ' := by
  unfold RoundOK; rw [hl]; exact h

theorem simS_of (n : Nat) (hC : SimC P g A n) (hS : SimS P g A n) : SimS P g A (n + 1) := by
  intro F hF nt body cur ab acur hb hc base κ w st a e B x e' st' nn Q hsr hE hd hrd hro hB hlow hev hQ
  simp only [evC] at hev
  refine scopeRun_step ?_
  cases hcur : evC A n acur e st with
  | none => rw [hcur] at hev; simp at hev
  | some q =>
    obtain ⟨x1, e1, st1⟩ := q
    rw [hcur] at hev
    refine hC F hF nt cur acur hc base κ w st a e B x1 e1 st1 nn _ hsr hE hd hrd hro hB hlow hcur ?_
    intro κ1 a1 w1 k1 k2 k3 k4 k5 k6 k7
    have hQ1 := Cont.step hQ k1 k2 k7
    have hTK := (ev_TK A n).1 _ _ _ _ _ _ hcur hlow
    have same : x1 = x → e1 = e' → st1 = st' → Q (exOf x1) a1 w1 := by
      rintro rfl rfl rfl
      exact hQ κ1 a1 w1 k1 k2 k3 k4 k5 k6 k7
    cases x1 with
    | normal => simp at hev; obtain ⟨rfl, rfl, rfl⟩ := hev; exact same rfl rfl rfl
    | ret => simp at hev; obtain ⟨rfl, rfl, rfl⟩ := hev; exact same rfl rfl rfl
    | exit i => simp at hev; obtain ⟨rfl, rfl, rfl⟩ := hev; exact same rfl rfl rfl
    | goto l =>
      obtain ⟨f1, f2⟩ := findLabel_sim (P := P) (g := g) (nt := nt) body ab l hb
      simp only [exOf]
      cases hf : findLabelA ab l with
      | none =>
        rw [f2 hf]
        simp [hf] at hev; obtain ⟨rfl, rfl, rfl⟩ := hev
        exact same rfl rfl rfl
      | some ar =>
        obtain ⟨r, r1, r2⟩ := f1 ar hf
        rw [r1]
        simp [hf] at hev
        have hs1 := k7.below.size
        exact hS F hF nt body r ab ar hb r2 base κ1 w1 st1 a1 e1 B x e' st' nn Q k3 k4 k5 k6 (hro.lam k2) (by omega) hTK.lw hev hQ1

theorem simL_of (n : Nat) (hC : SimC P g A n) (hL : SimL P g A n) : SimL P g A (n + 1) := by
  intro F hF nt body ab hb base κ w st a e B x e' st' nn Q hsr hE hd hrd hro hB hlow hev hQ
  simp only [evC] at hev
  refine loopRun_step ?_
  cases hcur : evC A n ab e st with
  | none => rw [hcur] at hev; simp at hev
  | some q =>
    obtain ⟨x1, e1, st1⟩ := q
    rw [hcur] at hev
    refine hC F hF nt body ab hb base κ w st a e B x1 e1 st1 nn _ hsr hE hd hrd hro hB hlow hcur ?_
    intro κ1 a1 w1 k1 k2 k3 k4 k5 k6 k7
    have hQ1 := Cont.step hQ k1 k2 k7
    have hTK := (ev_TK A n).1 _ _ _ _ _ _ hcur hlow
    have hs1 := k7.below.size
    cases x1 with
    | normal =>
      simp at hev
      exact hL F hF nt body ab hb base κ1 w1 st1 a1 e1 B x e' st' nn Q k3 k4 k5 k6 (hro.lam k2) (by omega) hTK.lw hev hQ1
    | ret => simp at hev; obtain ⟨rfl, rfl, rfl⟩ := hev; exact hQ κ1 a1 w1 k1 k2 k3 k4 k5 k6 k7
    | exit i => simp at hev; obtain ⟨rfl, rfl, rfl⟩ := hev; exact hQ κ1 a1 w1 k1 k2 k3 k4 k5 k6 k7
    | goto l => simp at hev; obtain ⟨rfl, rfl, rfl⟩ := hev; exact hQ κ1 a1 w1 k1 k2 k3 k4 k5 k6 k7

theorem run_callFunc_code {f1 : FuncId} {pf : Func} {fn : ACFn} {w1 : World} {args : Array Value} (hpf : P.funcs[f1]? = some pf) (hchk : chkFn P g pf fn = true) : (callFunc f1 args).run P w1 = .ok (.enter f1 args) w1 := by
  simp only [chkFn, Bool.and_eq_true, decide_eq_true_eq] at hchk
  have hb : pf.body.isNone = false := by
    cases hb : pf.body with
    | none => simp [hb] at hchk
    | some c => rfl
  have hn : (pf.name == "runtime.NumGoroutine") = false := by simpa using hchk.2
  unfold callFunc
  simp only [Sem.run_bind, Go.program, Sem.run, Result.andThen, hpf, hn, hb]
  rfl

/-- Function values are called. -/
theorem simV_of (hL : Linked P g A) (n : Nat) (hC : SimC P g A n) : SimV P g (evV A (n + 1)) := by
  intro F hF base κ w st fv fp args ps v st' hsr hfv hsz hargs hlow hev
  cases hfv with
  | fn f' f cv cap h hl hk hr =>
    refine ⟨{ target := .fn (.func f') cv, args := #[] ++ args }, fun w1 => rfl, ?_⟩
    have hsz2 : (args ++ cv).size = (ps ++ cap).length := by simp [hsz, hl]
    have hargs2 : ∀ (i : Nat) (u : Value) (q : PV), (args ++ cv)[i]? = some u → (ps ++ cap)[i]? = some q → R g κ u q := by
      intro i u q a b
      rw [Array.getElem?_append] at a
      by_cases hi : i < args.size
      · rw [if_pos hi] at a
        rw [List.getElem?_append_left (by omega)] at b
        exact hargs i u q a b
      · rw [if_neg hi] at a
        rw [List.getElem?_append_right (by omega), ← hsz] at b
        exact hr _ u q a b
    have hinv : (invoke (Target.fn (.func f') cv) (#[] ++ args)) = callFunc f' (args ++ cv) := by simp [invoke]
    simp only [hinv]
    cases hA : A f with
    | none => simp [evV, hA] at hev
    | some af =>
      cases af with
      | prim p =>
        simp only [evV, hA, Option.map_eq_some_iff] at hev
        obtain ⟨v1, hv1, hv2⟩ := hev
        cases hv2
        exact hL.prim f' f p h hA base κ w st (args ++ cv) (ps ++ cap) v hsr hsz2 hargs2 hv1 F hF
      | code fn =>
        obtain ⟨pf, hpf, hchk⟩ := hL.code f' f fn h hA
        have hcf : (callFunc f' (args ++ cv)).run P w = .ok (.enter f' (args ++ cv)) w := by
          exact run_callFunc_code hpf hchk
        rw [hcf]
        intro nn o a next Q hnext
        refine ⟨hF.deep, ?_⟩
        refine simF_of hL n hC F hF f' f fn cap h hA base κ w st (args ++ cv) ps v st' (nn - 1) _ hsr hsz2 hargs2 hlow hev ?_
        intro κ' z w' a1 a2 a3 a4 a5
        exact hnext κ' z w' a1 a2 a3 a4 a5
  | yld k l d h =>
    refine ⟨{ target := .fn (.yield l) #[], args := #[] ++ args }, fun w1 => rfl, ?_⟩
    have hinv : (invoke (Target.fn (.yield l) #[]) (#[] ++ args)) = Instr.yield l args := by simp [invoke]
    simp only [hinv]
    exact simY_of n hC F hF base κ w st k l d args ps v st' hsr h hsz hargs hlow hev
  | _ => simp [evV] at hev

/-! ### A range over a function -/
/-- The loop's record taken off again. -/
theorem pop_sim {base : Nat} {κ κ3 : K} {w w3 w4 : World} {st st1 : St} {l D : Nat} (h0 : SR P g base κ w st) (h3 : SR P g base κ3 w3 st1) (hle : K.le κ κ3) (hlam : κ3.lam = κ.lam ++ [(l, D)]) (hnew : w.heap.size ≤ l)
    (hln : st1.loops.length = st.loops.length + 1) (hlk : ∀ (k : Nat) (r : LoopS), st.loops[k]? = some r → ∃ r1, st1.loops[k]? = some r1 ∧ SameLoop r r1)
    (hlike : ∀ (k : Nat) (r : Loop), k ∈ κ.lam.map (·.1) → w.heap[k]? = some (.loop r) → ∃ r', w3.heap[k]? = some (.loop r') ∧ LoopLike r r')
    (hsz : w3.heap.size ≤ w4.heap.size) (hoth : ∀ k, k ≠ l → w4.heap[k]? = w3.heap[k]?) (hrec : ∃ rec, w3.heap[l]? = some (.loop rec)) :
    K.le κ { κ3 with lam := κ.lam } ∧ SR P g base { κ3 with lam := κ.lam } w4 { st1 with loops := st1.loops.take st.loops.length } := by
  obtain ⟨rec, hrec⟩ := hrec
  have hle' : K.le κ { κ3 with lam := κ.lam } := ⟨hle.C, hle.φ, fun _ _ h => h, hle.τ⟩
  refine ⟨hle', h3.objs (fun k o ho hc => ?_) hsz rfl rfl rfl rfl rfl (fun v p ⟨n, hn⟩ hr => ?_) ?_ h0.ln h0.lb ?_⟩
  · rw [hoth k (by rintro rfl; rw [hrec] at ho; cases ho; simp [isCells] at hc)]; exact ho
  · exact R.restrict (κ := κ3) (κ' := { κ3 with lam := κ.lam }) (n := n) (T := fun _ => True) (fun _ _ _ h => h) (fun _ _ _ h => h) (fun _ _ _ h => h) hr hn (fun _ _ => trivial)
  · simp [h0.ll, hln]
  · intro k l' D' r1 a b
    have hk : k < st.loops.length := by
      have := (List.getElem?_eq_some_iff.1 b).1
      rw [← h0.ll]; exact this
    rw [List.getElem?_take, if_pos hk] at a
    have hr0 : st.loops[k]? = some st.loops[k] := by simp [hk]
    obtain ⟨r1', a1, a2⟩ := hlk k _ hr0
    rw [a] at a1; cases a1
    obtain ⟨rec0, nt0, b1, b2, b3, b4, b5, b6, b7, b8, b9, b10⟩ := (h0.lp k l' D' _ hr0 b).ex
    have b' : κ3.lam[k]? = some (l', D') := by
      rw [hlam, List.getElem?_append_left (by rw [h0.ll]; exact hk)]; exact b
    obtain ⟨rec1, nt1, c1, c2, c3, c4, c5, c6, c7, c8, c9, c10⟩ := (h3.lp k l' D' r1 a b').ex
    obtain ⟨rec', d1, d2⟩ := hlike l' rec0 (List.mem_map.2 ⟨(l', D'), List.mem_of_getElem? b, rfl⟩) b1
    rw [c1] at d1; cases d1
    have hl' : l' ≠ l := by
      rintro rfl
      have := (Array.getElem?_eq_some_iff.1 b1).1
      omega
    refine ⟨rec1, nt0, by rw [hoth _ hl']; exact c1, c2, c3, c4, ?_, ?_, ?_, ?_, c9, ?_⟩
    · rw [d2.tmps, a2.env]; exact b5.mono hle'
    · rw [d2.assign, a2.assign]; exact b6
    · rw [d2.body, a2.body]; exact b7
    · rw [a2.params]; exact b8
    · rw [hoth _ (by rintro rfl; rw [hrec] at c10; cases c10)]; exact c10

theorem rangeFunc_sim (hL : Linked P g A) (n : Nat) (hF0 : SimF P g A n) {F : Fence} (hF : Wide F) {nt : Nat} {f : Operand} {ps : Array Tmp} {asg body : Code} {f' : Opd} {ps' : List Nat} {asg' body' : ACode}
    (c1 : chkOpd g f f' = true) (c2 : ps.toList = ps') (c3 : ∀ p ∈ ps', p < nt) (c4 : chkCode P g nt asg asg' = true) (c5 : chkCode P g nt body body' = true) {base : Nat} {κ : K} {w : World} {st : St} {a : Act} {e : Env} {B : Nat} {x : Ex} {e' : Env} {st' : St} {nn : Nat}
    {Q : Exit → Act → World → Prop} (hsr : SR P g base κ w st) (hE : EnvR g κ nt a.tmps e) (hd : DefOK B w a.defers) (hrd : F.round.isSome = true → a.defers = []) (hro : RoundOK F κ) (hB : B ≤ w.heap.size) (hlow : st.low ≤ st.boxes.length)
    (hev : evC A (n + 1) (.rangeFunc f' ps' asg' body') e st = some (x, e', st')) (hQ : Cont P g F nt base B κ w x e' st' Q) : (Code.rangeFunc f ps asg body).wpIn F nn P Q a w := by
  simp only [evC] at hev
  have hfv := opdR_of hsr.gv hE f f' c1
  cases hf : f'.ev e with
  | fn fid caps =>
    rw [hf] at hev hfv
    simp only at hev
    cases hA : A fid with
    | none => simp [hA] at hev
    | some af =>
      cases af with
      | prim p => simp [hA] at hev
      | code fn =>
        simp only [hA] at hev
        generalize hgen : a.eval f = fv at hfv
        cases hfv with
        | fn f1 _ cv _ hg hcl hck hcr =>
          -- the record, wherever the statement stands
          have core : ∀ (fnid : FuncId) (l D : Nat) (mark : List Deferred) (w1 : World), (Instr.enterLoop fnid a.tmps ps asg body F.round).run P w = .ok (l, mark) w1 → w.heap.size ≤ l → Fr base κ.lam w w1 →
              K.le κ { κ with lam := κ.lam ++ [(l, D)] } → SR P g base { κ with lam := κ.lam ++ [(l, D)] } w1 { st with loops := st.loops ++ [{ env := e, params := ps', assign := asg', body := body', status := 0, pend := .normal }] } →
              (∀ (k : Nat) (o : Obj), w.heap[k]? = some o → w1.heap[k]? = some o) →
              (∀ (w4 : World), (∀ (k : Nat) (o : Obj), w1.heap[k]? = some o → isCells o = false → k ∉ κ.lam.map (·.1) → k ≠ l → w4.heap[k]? = some o) → DefOK B w a.defers → DefOK B w4 (mark ++ a.defers)) → (F.round.isSome = true → mark ++ a.defers = []) →
              ∃ (l : Nat) (mark : List Deferred) (w₁ : World) (d : Deferred) (w₁' : World) (f2 : FuncId) (args : Array Value) (w₂ : World),
                (Instr.enterLoop fnid a.tmps ps asg body F.round).run P w = .ok (l, mark) w₁ ∧ (resolve a.eval (rangeCall f l) 0).run P w₁ = .ok d w₁' ∧ (∀ f', Target.leads P w₁' d.target d.args = some f' → F.fn f') ∧
                (invoke d.target d.args).run P w₁' = .ok (.enter f2 args) w₂ ∧ (F.depth.isSome = true → 1 ≤ nn) ∧ CallsIn F (nn - 1) P f2 args w₂ (rangePost F nn P l Q { a with defers := mark ++ a.defers }) := by
            intro fnid l D mark w1 hent hnew hfr1 hle1 hsr1 hold hmark hmark2
            obtain ⟨pf, hpf, hchk⟩ := hL.code f1 fid fn hg hA
            have hcf : ∀ args : Array Value, (callFunc f1 args).run P w1 = .ok (.enter f1 args) w1 := by
              intro args
              exact run_callFunc_code hpf hchk
            split at hev
            · rename_i v1 st1 hcall
              split at hev
              · rename_i r hr
                split at hev
                · cases hev
                · rename_i hst
                  simp only [Option.some.injEq, Prod.mk.injEq] at hev
                  obtain ⟨rfl, rfl, rfl⟩ := hev
                  refine ⟨l, mark, w1, { target := .fn (.func f1) cv, args := #[] ++ #[.func (.yield l) #[] #[]] }, w1, f1, #[.func (.yield l) #[] #[]] ++ cv, w1, hent, ?_, fun f' _ => hF.2 f', ?_, hF.deep, ?_⟩
                  · have hm : (#[Operand.const (.func (.yield l) #[] #[])] : Array Operand).map a.eval = #[.func (.yield l) #[] #[]] := by simp [Act.eval]
                    simp only [resolve, rangeCall, hgen, hm, Deferred.ofValue]
                    rfl
                  · have : (invoke (Target.fn (.func f1) cv) (#[] ++ #[.func (.yield l) #[] #[]])) = callFunc f1 (#[.func (.yield l) #[] #[]] ++ cv) := by simp [invoke]
                    simp only [this]
                    exact hcf _
                  · have hlamk : ({ κ with lam := κ.lam ++ [(l, D)] } : K).lam[st.loops.length]? = some (l, D) := by
                      rw [← hsr.ll]; simp
                    have hTK := (ev_TK A n).2 _ _ _ _ _ hcall hlow
                    refine hF0 F hF f1 fid fn caps hg hA base _ w1 _ _ [.yld st.loops.length] v1 st1 (nn - 1) _ hsr1 (by simp [hcl]; omega) ?_ hlow hcall ?_
                    · intro i u q p1 p2
                      cases i with
                      | zero =>
                        rw [Array.getElem?_append_left (by simp)] at p1
                        simp at p1 p2; subst p1 p2
                        exact .yld _ l D hlamk
                      | succ i =>
                        rw [Array.getElem?_append_right (by simp)] at p1
                        simp at p1 p2
                        exact (hcr i u q p1 p2).mono hle1
                    · intro κ3 z w3 k1 k2 k3 k4 k5
                      obtain ⟨rec, nt3, d1, d2, d3, d4, d5, d6, d7, d8, d9, d10⟩ := (k3.lp st.loops.length l D r hr (by rw [k2]; exact hlamk)).ex
                      have hnb : rec.state ≠ .busy := by
                        rw [d2]
                        match hs : r.status with
                        | 0 => simp [stOf]
                        | 1 => exact absurd hs hst
                        | k + 2 => simp [stOf]
                      refine ⟨_, _, run_endLoop d1 hnb, ?_⟩
                      have hlnew : l ∉ κ.lam.map (·.1) := fun hm => by
                        obtain ⟨rec', hr'⟩ := hsr.loopAt hm
                        have := (Array.getElem?_eq_some_iff.1 hr').1
                        omega
                      have hle3 : K.le κ κ3 := hle1.trans k1
                      have hmem : ∀ k, k ∈ κ.lam.map (·.1) → k ∈ (κ.lam ++ [(l, D)]).map (·.1) := fun k hk => by
                        rw [List.map_append, List.mem_append]; exact .inl hk
                      have hoth : ∀ k, k ≠ l → (w3.putObj l (.loop { rec with state := .exhausted })).heap[k]? = w3.heap[k]? := fun k hk => World.putObj_heap_other hk
                      have hobj4 : ∀ (k : Nat) (o : Obj), w1.heap[k]? = some o → isCells o = false → k ∉ κ.lam.map (·.1) → k ≠ l → (w3.putObj l (.loop { rec with state := .exhausted })).heap[k]? = some o := fun k o p1 p2 p3 p4 => by
                        rw [hoth k p4]
                        exact k5.objs k o p1 p2 (by
                          rw [List.map_append, List.mem_append]
                          rintro (h | h)
                          · exact p3 h
                          · simp at h; exact p4 h)
                      obtain ⟨hle4, hsr4⟩ := pop_sim (w4 := w3.putObj l (.loop { rec with state := .exhausted })) hsr k3 hle3 k2 hnew (by rw [hTK.ln]; simp)
                        (fun k r0 h0 => by
                          have hk := (List.getElem?_eq_some_iff.1 h0).1
                          exact hTK.lk k r0 (by simp only; rw [List.getElem?_append_left hk]; exact h0))
                        (fun k r0 h0 h1 => k5.loops k r0 (hmem k h0) (hold k _ h1))
                        (by simp) hoth ⟨rec, d1⟩
                      have hfr4 : Fr base κ.lam w (w3.putObj l (.loop { rec with state := .exhausted })) := by
                        have hbl : base ≤ l := Nat.le_trans hsr.hb hnew
                        refine ⟨⟨?_, ?_, ?_, ?_, fun k hk => ?_⟩, fun k o p1 p2 p3 => ?_, fun k r0 p1 p2 => ?_⟩
                        · exact k5.below.os.trans hfr1.below.os
                        · exact k5.below.tape.trans hfr1.below.tape
                        · exact k5.below.output.trans hfr1.below.output
                        · simpa using Nat.le_trans hfr1.below.size k5.below.size
                        · rw [hoth k (by omega), k5.below.block k hk, hfr1.below.block k hk]
                        · have := (Array.getElem?_eq_some_iff.1 p1).1
                          exact hobj4 k o (hold k o p1) p2 p3 (by omega)
                        · have := (Array.getElem?_eq_some_iff.1 p2).1
                          obtain ⟨r', q1, q2⟩ := k5.loops k r0 (hmem k p1) (hold k _ p2)
                          exact ⟨r', by rw [hoth k (by omega)]; exact q1, q2⟩
                      have hfin := hQ _ { a with defers := mark ++ a.defers } _ hle4 rfl hsr4 (hE.mono hle4) (hmark _ hobj4 hd) hmark2 hfr4
                      generalize hw4 : w3.putObj l (.loop { rec with state := .exhausted }) = w4 at hfin
                      show (match rec.pending with | none => Q .normal { a with defers := mark ++ a.defers } w4 | some c => c.wpIn F nn P Q { a with defers := mark ++ a.defers } w4)
                      rw [d3]
                      cases hp : r.pend with
                      | normal => rw [hp] at hfin; exact hfin
                      | ret => rw [hp] at hfin; exact wpIn_ret hfin
                      | exit i => rw [hp] at hfin; exact wpIn_exit hfin
                      | goto t => rw [hp] at hfin; exact wpIn_goto hfin
              · cases hev
            · cases hev
          refine wpIn_rangeFunc fun fnid _ => ?_
          rcases hro with hnone | ⟨k0, l0, D0, hsome, hk0⟩
          · -- outermost
            rw [hnone] at core ⊢
            have hw : (w.alloc (.deferred (some []))).heap = w.heap.push (.deferred (some [])) := rfl
            have hsrD := hsr.pushObj (w' := w.alloc (.deferred (some []))) hw
            obtain ⟨q1, q2⟩ := hsrD.addLoop (w' := (w.alloc (.deferred (some []))).alloc (.loop { state := .ready, pending := none, fn := fnid, tmps := a.tmps, params := ps, assign := asg, body := body, defers := w.heap.size }))
              (rec := { state := .ready, pending := none, fn := fnid, tmps := a.tmps, params := ps, assign := asg, body := body, defers := w.heap.size })
              (r := { env := e, params := ps', assign := asg', body := body', status := 0, pend := .normal }) (nt := nt) rfl rfl rfl c2 hE c4 c5 c3 (by rw [hw]; simp)
            have hsz : (w.alloc (.deferred (some []))).heap.size = w.heap.size + 1 := by rw [hw]; simp
            rw [hsz] at q1 q2
            have hfr1 : Fr base κ.lam w (w.alloc (.deferred (some []))) := Fr.push hsr.hb hw rfl rfl rfl
            have hfr2 : Fr base κ.lam (w.alloc (.deferred (some []))) ((w.alloc (.deferred (some []))).alloc (.loop { state := .ready, pending := none, fn := fnid, tmps := a.tmps, params := ps, assign := asg, body := body, defers := w.heap.size })) :=
              Fr.push (by rw [hsz]; have := hsr.hb; omega) rfl rfl rfl rfl
            have hold : ∀ (k : Nat) (o : Obj), w.heap[k]? = some o → ((w.alloc (.deferred (some []))).alloc (.loop { state := .ready, pending := none, fn := fnid, tmps := a.tmps, params := ps, assign := asg, body := body, defers := w.heap.size })).heap[k]? = some o :=
              fun k o ho => push_old (push_old ho)
            refine core fnid (w.heap.size + 1) w.heap.size _ _ (run_enterLoop_outer fnid a.tmps ps asg body) (by omega) (hfr1.trans hfr2) q1 q2 hold ?_ (by simp)
            intro w4 hw4 hd0
            have hnotlam : ∀ D, w.heap[D]? = some (.deferred (some [])) → D ∉ κ.lam.map (·.1) := fun D hD hm => by
              obtain ⟨rec', hr'⟩ := hsr.loopAt hm
              rw [hD] at hr'; cases hr'
            refine ⟨fun d hd' => ?_, ?_⟩
            · simp only [List.singleton_append, List.mem_cons] at hd'
              rcases hd' with rfl | hd'
              · refine ⟨_, rfl, hB, hw4 _ _ ?_ rfl (fun hm => ?_) (by omega)⟩
                · exact push_old (by rw [hw]; simp)
                · obtain ⟨rec', hr'⟩ := hsr.loopAt hm
                  have := (Array.getElem?_eq_some_iff.1 hr').1
                  omega
              · obtain ⟨D, e1, e2, e3⟩ := hd0.1 d hd'
                have := (Array.getElem?_eq_some_iff.1 e3).1
                exact ⟨D, e1, e2, hw4 D _ (hold D _ e3) rfl (hnotlam D e3) (by omega)⟩
            · simp only [List.singleton_append, List.pairwise_cons]
              refine ⟨fun d hd' => ?_, hd0.2⟩
              obtain ⟨D, e1, e2, e3⟩ := hd0.1 d hd'
              have := (Array.getElem?_eq_some_iff.1 e3).1
              rintro rfl
              simp at e1
              omega
          · -- within a round
            rw [hsome] at core ⊢
            obtain ⟨r0, hr0⟩ : ∃ r0, st.loops[k0]? = some r0 := by
              have : k0 < st.loops.length := by rw [← hsr.ll]; exact (List.getElem?_eq_some_iff.1 hk0).1
              exact ⟨_, by simp [this]; rfl⟩
            obtain ⟨rec0, nt0, b1, b2, b3, b4, b5, b6, b7, b8, b9, b10⟩ := (hsr.lp k0 l0 D0 r0 hr0 hk0).ex
            obtain ⟨q1, q2⟩ := hsr.addLoop (w' := w.alloc (.loop { state := .ready, pending := none, fn := fnid, tmps := a.tmps, params := ps, assign := asg, body := body, defers := rec0.defers }))
              (rec := { state := .ready, pending := none, fn := fnid, tmps := a.tmps, params := ps, assign := asg, body := body, defers := rec0.defers })
              (r := { env := e, params := ps', assign := asg', body := body', status := 0, pend := .normal }) (nt := nt) rfl rfl rfl c2 hE c4 c5 c3 (by rw [b9]; exact b10)
            have hfr1 : Fr base κ.lam w (w.alloc (.loop { state := .ready, pending := none, fn := fnid, tmps := a.tmps, params := ps, assign := asg, body := body, defers := rec0.defers })) := Fr.push hsr.hb rfl rfl rfl rfl
            have hdnil : a.defers = [] := hrd (by rw [hsome]; rfl)
            refine core fnid w.heap.size rec0.defers _ _ (run_enterLoop_inner b1 fnid a.tmps ps asg body) (Nat.le_refl _) hfr1 q1 q2 (fun k o ho => push_old ho) ?_ (fun _ => by rw [hdnil]; rfl)
            intro w4 hw4 hd0
            rw [hdnil]
            exact ⟨by simp, List.Pairwise.nil⟩
  | _ => rw [hf] at hev; simp at hev

theorem simC_of (hL : Linked P g A) (n : Nat) (hC : SimC P g A n) (hS : SimS P g A n) (hF0 : SimF P g A n) (hV : SimV P g (evV A n)) (hLo : SimL P g A (n + 1)) : SimC P g A (n + 1) := by
  intro F hF nt c ac hc base κ w st a e B x e' st' nn Q hsr hE hd hrd hro hB hlow hev hQ
  have now : ∀ x1, x = x1 → e' = e → st' = st → Q (exOf x1) a w := by
    rintro x1 rfl rfl rfl
    exact hQ κ a w (K.le.refl κ) rfl hsr hE hd hrd (Fr.refl _ _)
  have ops : ∀ (κ1 : K) (w1 : World) (a1 : Act), K.le κ κ1 → κ1.lam = κ.lam → SR P g base κ1 w1 st' → EnvR g κ1 nt a1.tmps e' → a1.defers = a.defers → Fr base κ.lam w w1 → x = .normal → Q .normal a1 w1 := by
    rintro κ1 w1 a1 h1 h2 h3 h4 h5 h6 rfl
    exact hQ κ1 a1 w1 h1 h2 h3 h4 (by rw [h5]; exact hd.fr hsr h6) (fun h => by rw [h5]; exact hrd h) h6
  cases c with
  | skip =>
    cases ac <;> simp [chkCode] at hc
    simp [evC] at hev; obtain ⟨rfl, rfl, rfl⟩ := hev
    exact wpIn_skip (now .normal rfl rfl rfl)
  | label l =>
    cases ac <;> simp [chkCode] at hc
    simp [evC] at hev; obtain ⟨rfl, rfl, rfl⟩ := hev
    exact wpIn_label (now .normal rfl rfl rfl)
  | ret =>
    cases ac <;> simp [chkCode] at hc
    simp [evC] at hev; obtain ⟨rfl, rfl, rfl⟩ := hev
    exact wpIn_ret (now .ret rfl rfl rfl)
  | exit i =>
    cases ac <;> simp [chkCode] at hc
    subst hc
    simp [evC] at hev; obtain ⟨rfl, rfl, rfl⟩ := hev
    exact wpIn_exit (now (.exit i) rfl rfl rfl)
  | goto l =>
    cases ac <;> simp [chkCode] at hc
    subst hc
    simp [evC] at hev; obtain ⟨rfl, rfl, rfl⟩ := hev
    exact wpIn_goto (now (.goto l) rfl rfl rfl)
  | region id os dr =>
    cases ac <;> simp [chkCode] at hc
    rename_i as
    obtain ⟨hc1, hc2⟩ := hc
    simp only [evC] at hev
    cases hops : evOps (evV A n) as e st with
    | none => rw [hops] at hev; simp at hev
    | some q =>
      obtain ⟨e1, st1⟩ := q
      rw [hops] at hev
      simp at hev; obtain ⟨rfl, rfl, rfl⟩ := hev
      have htk : ∀ f args st v st', evV A n f args st = some (v, st') → st.low ≤ st.boxes.length → TK st st' := fun f args st v st' h h2 => (ev_TK A n).2 f args st v st' h h2
      have hlen := (chkOpers_get hc1).1
      cases dr with
      | false =>
        refine wpIn_region ?_
        rw [show os.size = as.length by simpa using hlen]
        refine idx_ops_sim (B := 0) hV htk hF hc1 _ κ w st a e e1 st1 Q hsr hE hlow (by rw [evIdx_range]; exact hops) ?_
        intro κ1 a1 w1 h1 h2 h3 h4 h5 h6
        exact ops κ1 w1 a1 h1 h2 h3 h4 h5 h6 rfl
      | true =>
        simp at hc2
        refine wpIn_region_any hL.mixed ?_
        have hrem : rem as.length (Array.replicate os.size false) = List.range as.length := by
          unfold rem
          rw [List.filter_eq_self]
          intro i hi
          have : i < os.size := by have := List.mem_range.1 hi; have h2 : os.size = as.length := by simpa using hlen
                                   omega
          simp [Array.getD, this]
        have hfr : Fr base κ.lam w { w with drawn := w.drawn + 1 } := Fr.same rfl rfl rfl rfl
        refine draw_sim hV htk hF hc1 hc2.1 hc2.2 os.size _ κ _ st a e e1 st1 Q (by simp) (fun j o ho hj => by
          have hj2 := (Array.getElem?_eq_some_iff.1 ho).1
          simp [Array.getD, hj2] at hj) ?_ (hsr.heap rfl) hE hlow ?_ ?_
        · rw [hrem]; simp at hlen ⊢; omega
        · rw [hrem, evIdx_range]; exact hops
        · intro κ1 a1 w1 h1 h2 h3 h4 h5 h6
          exact ops κ1 w1 a1 h1 h2 h3 h4 h5 (hfr.trans h6) rfl
  | seq c1 c2 =>
    cases ac <;> simp [chkCode] at hc
    rename_i a1 a2
    simp only [evC] at hev
    refine wpIn_seq ?_
    cases h1 : evC A n a1 e st with
    | none => rw [h1] at hev; simp at hev
    | some q =>
      obtain ⟨x1, e1, st1⟩ := q
      rw [h1] at hev
      refine hC F hF nt c1 a1 hc.1 base κ w st a e B x1 e1 st1 nn _ hsr hE hd hrd hro hB hlow h1 ?_
      intro κ1 b1 w1 k1 k2 k3 k4 k5 k6 k7
      have hTK := (ev_TK A n).1 _ _ _ _ _ _ h1 hlow
      have hs1 := k7.below.size
      cases x1 with
      | normal =>
        simp at hev
        exact hC F hF nt c2 a2 hc.2 base κ1 w1 st1 b1 e1 B x e' st' nn Q k3 k4 k5 k6 (hro.lam k2) (by omega) hTK.lw hev (Cont.step hQ k1 k2 k7)
      | ret => simp at hev; obtain ⟨rfl, rfl, rfl⟩ := hev; exact hQ κ1 b1 w1 k1 k2 k3 k4 k5 k6 k7
      | exit i => simp at hev; obtain ⟨rfl, rfl, rfl⟩ := hev; exact hQ κ1 b1 w1 k1 k2 k3 k4 k5 k6 k7
      | goto l => simp at hev; obtain ⟨rfl, rfl, rfl⟩ := hev; exact hQ κ1 b1 w1 k1 k2 k3 k4 k5 k6 k7
  | cond c0 c1 c2 =>
    cases ac <;> simp [chkCode] at hc
    rename_i d0 a1 a2
    simp only [evC] at hev
    have hcv := opdR_of hsr.gv hE c0 d0 hc.1.1
    split at hev
    · rename_i hb
      rw [hb] at hcv
      generalize hv : a.eval c0 = v at hcv
      cases hcv
      exact wpIn_cond_true hv (hC F hF nt c1 a1 hc.1.2 base κ w st a e B x e' st' nn Q hsr hE hd hrd hro hB hlow hev hQ)
    · rename_i hb
      rw [hb] at hcv
      generalize hv : a.eval c0 = v at hcv
      cases hcv
      exact wpIn_cond_false hv (hC F hF nt c2 a2 hc.2 base κ w st a e B x e' st' nn Q hsr hE hd hrd hro hB hlow hev hQ)
    · cases hev
  | block id b =>
    cases ac <;> simp [chkCode] at hc
    rename_i id' b'
    obtain ⟨rfl, hcb⟩ := hc
    simp only [evC] at hev
    refine wpIn_block ?_
    cases h1 : evC A n b' e st with
    | none => rw [h1] at hev; simp at hev
    | some q =>
      obtain ⟨x1, e1, st1⟩ := q
      rw [h1] at hev
      refine hC F hF nt b b' hcb base κ w st a e B x1 e1 st1 nn _ hsr hE hd hrd hro hB hlow h1 ?_
      intro κ1 b1 w1 k1 k2 k3 k4 k5 k6 k7
      cases x1 with
      | normal => simp at hev; obtain ⟨rfl, rfl, rfl⟩ := hev; exact hQ κ1 b1 w1 k1 k2 k3 k4 k5 k6 k7
      | ret => simp at hev; obtain ⟨rfl, rfl, rfl⟩ := hev; exact hQ κ1 b1 w1 k1 k2 k3 k4 k5 k6 k7
      | goto l => simp at hev; obtain ⟨rfl, rfl, rfl⟩ := hev; exact hQ κ1 b1 w1 k1 k2 k3 k4 k5 k6 k7
      | exit i =>
        simp only [exOf, Exit.inBlock]
        by_cases hi : i = id
        · rw [if_pos hi]
          simp [hi] at hev; obtain ⟨rfl, rfl, rfl⟩ := hev; exact hQ κ1 b1 w1 k1 k2 k3 k4 k5 k6 k7
        · rw [if_neg hi]
          simp [hi] at hev; obtain ⟨rfl, rfl, rfl⟩ := hev; exact hQ κ1 b1 w1 k1 k2 k3 k4 k5 k6 k7
  | loop b =>
    cases ac <;> simp [chkCode] at hc
    rename_i b'
    exact wpIn_loopRun (hLo F hF nt b b' hc base κ w st a e B x e' st' nn Q hsr hE hd hrd hro hB hlow hev hQ)
  | scope b =>
    cases ac <;> simp [chkCode] at hc
    rename_i b'
    simp only [evC] at hev
    exact wpIn_scope (hS F hF nt b b b' b' hc hc base κ w st a e B x e' st' nn Q hsr hE hd hrd hro hB hlow hev hQ)
  | rangeFunc f ps asg body =>
    cases ac <;> simp [chkCode] at hc
    rename_i f' ps' asg' body'
    obtain ⟨⟨⟨⟨d1, d2⟩, d3⟩, d4⟩, d5⟩ := hc
    exact rangeFunc_sim hL n hF0 hF d1 d2 d3 d4 d5 hsr hE hd hrd hro hB hlow hev hQ
  | _ => cases ac <;> simp [chkCode] at hc

theorem sim_all (hL : Linked P g A) : ∀ n, SimC P g A n ∧ SimS P g A n ∧ SimL P g A n ∧ SimF P g A n ∧ SimV P g (evV A n) := by
  intro n
  induction n with
  | zero =>
    refine ⟨?_, ?_, ?_, ?_, ?_⟩
    · intro F hF nt c ac hc base κ w st a e B x e' st' nn Q _ _ _ _ _ _ _ hev; simp [evC] at hev
    · intro F hF nt body cur ab acur hb hc base κ w st a e B x e' st' nn Q _ _ _ _ _ _ _ hev; simp [evC] at hev
    · intro F hF nt body ab hb base κ w st a e B x e' st' nn Q _ _ _ _ _ _ _ hev; simp [evC] at hev
    · intro F hF f' f fn caps hg hA base κ w st args ps v st' nn Rr _ _ _ _ hev; simp [evV] at hev
    · intro F hF base κ w st fv fp args ps v st' _ _ _ _ _ hev; simp [evV] at hev
  | succ n ih =>
    obtain ⟨hC, hS, hLo, hF0, hV⟩ := ih
    have hLo' := simL_of n hC hLo
    exact ⟨simC_of hL n hC hS hF0 hV hLo', simS_of n hC hS, hLo', simF_of hL n hC, simV_of hL n hC⟩

/-- **What the evaluator answers for a function, the machine's call comes to.** -/
theorem calls_of_ev (hL : Linked P g A) {n : Nat} {f' : FuncId} {f : Nat} {fn : ACFn} (hg : g f' = some f) (hA : A f = some (.code fn)) {base : Nat} {κ : K} {w : World} {st : St} {args : Array Value} {ps : List PV} {v : PV} {st' : St} {Rr : Ending → World → Prop}
    (hsr : SR P g base κ w st) (hsz : args.size = ps.length) (hargs : ∀ (i : Nat) (u : Value) (q : PV), args[i]? = some u → ps[i]? = some q → R g κ u q) (hlow : st.low ≤ st.boxes.length) (hev : evV A n (.fn f []) ps st = some (v, st'))
    (hk : ∀ κ' z w', K.le κ κ' → κ'.lam = κ.lam → SR P g base κ' w' st' → R g κ' z v → Fr base κ.lam w w' → Rr (.returned z) w') : Calls P f' args w Rr :=
  callsIn_wide.1 ((sim_all hL n).2.2.2.1 Fence.wide ⟨⟨rfl, rfl⟩, fun _ => trivial⟩ f' f fn [] hg hA base κ w st args ps v st' 0 Rr hsr (by simpa using hsz) (by simpa using hargs) hlow hev hk)

end Go.Ab
