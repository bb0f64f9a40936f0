/-
  The simulation by induction on the fuel.
-/
import Derived.Test.YtemnjmphkmokmaaAbLoop
namespace Go.Ab
set_option linter.unusedVariables false
set_option linter.unusedSimpArgs false

variable {P : Program} {g : GMap} {A : AP}

/-- What follows a piece of code. -/
def Cont (P : Program) (g : GMap) (F : Fence) (nt base B : Nat) (κ : K) (w : World) (x : Ex) (e' : Env) (st' : St) (Q : Exit → Act → World → Prop) : Prop :=
  ∀ κ' a' w', K.le κ κ' → κ'.lam = κ.lam → SR P g base κ' w' st' → EnvR g κ' nt a'.tmps e' → DefOK B w' a'.defers → (F.round.isSome = true → a'.defers = []) → Fr base κ.lam w w' → Q (exOf x) a' w'

theorem Cont.step {F : Fence} {nt base B : Nat} {κ κ1 : K} {w w1 : World} {x : Ex} {e' : Env} {st' : St} {Q : Exit → Act → World → Prop} (h : Cont P g F nt base B κ w x e' st' Q) (hle : K.le κ κ1) (hlam : κ1.lam = κ.lam) (hfr : Fr base κ.lam w w1) :
    Cont P g F nt base B κ1 w1 x e' st' Q := fun κ' a' w' h1 h2 h3 h4 h5 h6 h7 => h κ' a' w' (hle.trans h1) (h2.trans hlam) h3 h4 h5 h6 (hfr.trans (by rw [hlam] at h7; exact h7))

def SimC (P : Program) (g : GMap) (A : AP) (n : Nat) : Prop :=
  ∀ (F : Fence), Wide F → ∀ (nt : Nat) (c : Code) (ac : ACode), chkCode P g nt c ac = true → ∀ (base : Nat) (κ : K) (w : World) (st : St) (a : Act) (e : Env) (B : Nat) (x : Ex) (e' : Env) (st' : St) (nn : Nat) (Q : Exit → Act → World → Prop),
    SR P g base κ w st → EnvR g κ nt a.tmps e → DefOK B w a.defers → (F.round.isSome = true → a.defers = []) → RoundOK F κ → B ≤ w.heap.size → st.low ≤ st.boxes.length → evC A n ac e st = some (x, e', st') →
    Cont P g F nt base B κ w x e' st' Q → c.wpIn F nn P Q a w

def ScopeRun (F : Fence) (nn : Nat) (P : Program) (body : Code) (Q : Exit → Act → World → Prop) (cur : Code) (a : Act) (w : World) : Prop :=
  ∀ (b : Frame) (k : List Item) (cs : List Frame), b.roundOf = F.round → F.fn b.fn → F.room (cs.length + 1 + nn) →
    ∃ e a' w', Q e a' w' ∧ ArrivesIn (Machine.fenced P F) P (lone (b.atR a (.code cur :: .inScope body :: k)) cs w) b k cs e a' w'

def SimS (P : Program) (g : GMap) (A : AP) (n : Nat) : Prop :=
  ∀ (F : Fence), Wide F → ∀ (nt : Nat) (body cur : Code) (ab acur : ACode), chkCode P g nt body ab = true → chkCode P g nt cur acur = true → ∀ (base : Nat) (κ : K) (w : World) (st : St) (a : Act) (e : Env) (B : Nat) (x : Ex) (e' : Env) (st' : St) (nn : Nat) (Q : Exit → Act → World → Prop),
    SR P g base κ w st → EnvR g κ nt a.tmps e → DefOK B w a.defers → (F.round.isSome = true → a.defers = []) → RoundOK F κ → B ≤ w.heap.size → st.low ≤ st.boxes.length → evC A n (.scopeAt ab acur) e st = some (x, e', st') →
    Cont P g F nt base B κ w x e' st' Q → ScopeRun F nn P body Q cur a w

/-- A function's code. -/
def SimF (P : Program) (g : GMap) (A : AP) (n : Nat) : Prop :=
  ∀ (F : Fence), Wide F → ∀ (f' : FuncId) (f : Nat) (fn : ACFn) (caps : List PV), g f' = some f → A f = some (.code fn) → ∀ (base : Nat) (κ : K) (w : World) (st : St) (args : Array Value) (ps : List PV) (v : PV) (st' : St) (nn : Nat) (Rr : Ending → World → Prop),
    SR P g base κ w st → args.size = (ps ++ caps).length → (∀ (i : Nat) (u : Value) (q : PV), args[i]? = some u → (ps ++ caps)[i]? = some q → R g κ u q) → st.low ≤ st.boxes.length → evV A n (.fn f caps) ps st = some (v, st') →
    (∀ κ' z w', K.le κ κ' → κ'.lam = κ.lam → SR P g base κ' w' st' → R g κ' z v → Fr base κ.lam w w' → Rr (.returned z) w') → CallsIn F nn P f' args w Rr

/-! ### Scopes -/
theorem findLabel_sim {nt : Nat} : ∀ (body : Code) (ab : ACode) (l : Nat), chkCode P g nt body ab = true →
    (∀ ar, findLabelA ab l = some ar → ∃ r, findLabel body l = some r ∧ chkCode P g nt r ar = true) ∧ (findLabelA ab l = none → findLabel body l = none) := by
  intro body
  induction body with
  | seq a b iha ihb =>
    intro ab l h
    cases ab <;> simp [chkCode] at h
    rename_i a' b'
    obtain ⟨h1, h2⟩ := iha a' l h.1
    obtain ⟨h3, h4⟩ := ihb b' l h.2
    simp only [findLabelA, findLabel]
    cases hf : findLabelA a' l with
    | some r =>
      obtain ⟨q, q1, q2⟩ := h1 r hf
      rw [q1]
      exact ⟨fun ar har => by simp at har; subst har; exact ⟨_, rfl, by simp [chkCode, q2, h.2]⟩, fun hn => by simp at hn⟩
    | none =>
      rw [h2 hf]
      exact ⟨fun ar har => h3 ar har, fun hn => h4 hn⟩
  | label l' =>
    intro ab l h
    cases ab <;> simp [chkCode] at h
    subst h
    simp only [findLabelA, findLabel]
    split
    · exact ⟨fun ar har => by simp at har; subst har; exact ⟨_, rfl, rfl⟩, fun hn => by simp at hn⟩
    · exact ⟨fun ar har => by simp at har, fun _ => rfl⟩
  | _ =>
    intro ab l h
    cases ab <;> simp [chkCode] at h <;> exact ⟨fun ar har => by simp [findLabelA] at har, fun _ => by simp [findLabel]⟩

theorem stepR_scope {b : Frame} {a : Act} {k : List Item} {cs : List Frame} {w : World} {c : Code} : step P (lone (b.atR a (.code (.scope c) :: k)) cs w) = .next (lone (b.atR a (.code c :: .inScope c :: k)) cs w) :=
  step_lone_go (by simp [stepG, stepG.exec, Frame.atR])
theorem stepR_inScope {b : Frame} {a : Act} {k : List Item} {cs : List Frame} {w : World} {c : Code} : step P (lone (b.atR a (.inScope c :: k)) cs w) = .next (lone (b.atR a k) cs w) :=
  step_lone_go (by simp [stepG, stepG.exec, Frame.atR])

theorem wpIn_scope {F : Fence} {nn : Nat} {c : Code} {Q : Exit → Act → World → Prop} {a : Act} {w : World} (h : ScopeRun F nn P c Q c a w) : (Code.scope c).wpIn F nn P Q a w := by
  intro b k cs hro hb hr
  obtain ⟨e, a', w', hq, harr⟩ := h b k cs hro hb hr
  exact ⟨e, a', w', hq, .of_steps (.one (fenced_calm hb hr rfl) stepR_scope) harr⟩

theorem scopeRun_step {F : Fence} {nn : Nat} {body cur : Code} {Q : Exit → Act → World → Prop} {a : Act} {w : World}
    (h : cur.wpIn F nn P (fun e a w => match e with | .goto l => (match findLabel body l with | some rest => ScopeRun F nn P body Q rest a w | none => Q (.goto l) a w) | e => Q e a w) a w) : ScopeRun F nn P body Q cur a w := by
  intro b k cs hro hb hr
  obtain ⟨e, a₁, w₁, hq, harr⟩ := h b (.inScope body :: k) cs hro hb hr
  cases e with
  | normal => exact ⟨.normal, a₁, w₁, hq, StepsIn.trans harr (.one (fenced_calm hb hr rfl) stepR_inScope)⟩
  | exit id =>
    have hx : exitTo id (.inScope body :: k) = exitTo id k := by simp [exitTo]
    exact ⟨.exit id, a₁, w₁, hq, fun k' hk => harr.1 k' (by rw [hx]; exact hk), fun hr' hk => harr.2 hr' (by rw [hx]; exact hk)⟩
  | goto l =>
    cases hf : findLabel body l with
    | some rest =>
      simp only [hf] at hq
      obtain ⟨e₂, a₂, w₂, hq₂, harr₂⟩ := hq b k cs hro hb hr
      exact ⟨e₂, a₂, w₂, hq₂, .of_steps (harr.1 _ (by simp [gotoIn, hf])) harr₂⟩
    | none =>
      simp only [hf] at hq
      have hx : gotoIn l (.inScope body :: k) = gotoIn l k := by simp [gotoIn, hf]
      exact ⟨.goto l, a₁, w₁, hq, fun k' hk => harr.1 k' (by rw [hx]; exact hk), fun hr' hk => harr.2 hr' (by rw [hx]; exact hk)⟩
  | ret => exact ⟨_, a₁, w₁, hq, harr⟩
  | panic ch => exact ⟨_, a₁, w₁, hq, harr⟩
  | outgrown => exact ⟨_, a₁, w₁, hq, harr⟩

theorem exists_min (p : Nat → Prop) (h : ∃ m, p m) : ∃ m, p m ∧ ∀ k, p k → m ≤ k := by
  obtain ⟨m, hm⟩ := h
  induction m using Nat.strongRecOn with
  | _ m ih =>
    by_cases hl : ∃ k, k < m ∧ p k
    · obtain ⟨k, hk, hpk⟩ := hl
      exact ih k hk hpk
    · exact ⟨m, hm, fun k hk => Nat.le_of_not_lt fun hlt => hl ⟨k, hlt, hk⟩⟩

theorem exOf_goto {x : Ex} {l : Nat} (h : exOf x = .goto l) : x = .goto l := by
  cases x <;> simp_all [exOf]

/-- The simulation of function values out of that of code. -/
theorem simF_of (hL : Linked P g A) (n : Nat) (hC : SimC P g A n) : SimF P g A (n + 1) := by
  intro F hF f' f fn caps hg hA base κ w st args ps v st' nn Rr hsr hsz hargs hlow hev hk
  obtain ⟨pf, hpf, hchk⟩ := hL.code f' f fn hg hA
  simp only [chkFn, Bool.and_eq_true, decide_eq_true_eq] at hchk
  obtain ⟨⟨⟨h1, h2⟩, h3⟩, h4⟩ := hchk
  cases hb : pf.body with
  | none => simp [hb] at h3
  | some c =>
    simp only [hb] at h3
    simp only [evV, hA] at hev
    -- the body's run
    have main : ∃ x e1 st1 rv, evC A n fn.body (env0 (ps ++ caps)) { st with low := st.boxes.length } = some (x, e1, st1) ∧ (x = .normal ∨ x = .ret) ∧ resOf e1 st1 fn.results = some rv ∧ leave st st1 rv = (v, st') := by
      split at hev
      · rename_i e1 st1 he
        simp only [Option.map_eq_some_iff] at hev
        obtain ⟨rv, hrv, hlv⟩ := hev
        exact ⟨_, e1, st1, rv, he, .inl rfl, hrv, hlv⟩
      · rename_i e1 st1 he
        simp only [Option.map_eq_some_iff] at hev
        obtain ⟨rv, hrv, hlv⟩ := hev
        exact ⟨_, e1, st1, rv, he, .inr rfl, hrv, hlv⟩
      · cases hev
    obtain ⟨x, e1, st1, rv, he, hx, hrv, hlv⟩ := main
    have hplain : CallsIn F.plain nn P f' args w Rr := by
      refine callsIn_of_wp_marks hpf hb (hF.2 f') ?_ rfl
      have hTK := (ev_TK A n).1 _ _ _ _ _ _ he (Nat.le_refl _)
      refine hC F.plain ⟨hF.1, hF.2⟩ fn.nt c fn.body h3 base κ w { st with low := st.boxes.length } _ (env0 (ps ++ caps)) w.heap.size x e1 st1 nn _ (hsr.low _) ?_ ⟨by simp, List.Pairwise.nil⟩ (fun h => rfl) (.inl rfl) (Nat.le_refl _) (Nat.le_refl _) he ?_
      · refine ⟨by simp; omega, fun t => ?_⟩
        simp only [env0, Array.getD_eq_getD_getElem?, Array.getElem?_append, List.getD_eq_getElem?_getD]
        by_cases ht : t < args.size
        · rw [if_pos ht]
          have hq : (ps ++ caps)[t]? = some (ps ++ caps)[t] := by simp [show t < (ps ++ caps).length by omega]
          rw [hq, Array.getElem?_eq_getElem ht]
          exact hargs t _ _ (Array.getElem?_eq_getElem ht) hq
        · rw [if_neg ht, List.getElem?_eq_none (by omega)]
          rw [Array.getElem?_replicate]
          split <;> exact .undef
      · intro κ1 a1 w1 k1 k2 k3 k4 k5 k6 k7
        have hleave : LeavesInM F.plain nn P pf a1.tmps Rr a1.defers .returning w1 := by
          refine leaves_sim (κ := κ1) (w0 := w) k4 h2 hrv (fun l D hm => ?_) hsr.hb (fun w2 z s1 s2 s3 => ?_) a1.defers w1 k3 (by rw [k2]; exact k7) k5
          · rw [k2] at hm
            obtain ⟨k, hkk⟩ := List.getElem?_of_mem hm
            have hlt : k < st.loops.length := by rw [← hsr.ll]; exact (List.getElem?_eq_some_iff.1 hkk).1
            obtain ⟨rec, nt, _, _, _, _, _, _, _, _, _, c10⟩ := (hsr.lp k l D _ (by simp [hlt]; rfl) hkk).ex
            exact (Array.getElem?_eq_some_iff.1 c10).1
          · rw [k2] at s2
            obtain ⟨κ', q1, q2, q3, q4⟩ := leave_sim (z := z) (v := rv) hsr s1 k1 k2 s2 hTK s3
            rw [hlv] at q3 q4
            exact hk κ' z w2 q1 q2 q3 q4 s2
        rcases hx with rfl | rfl
        · exact hleave
        · exact hleave
    exact hplain

/-- Function values, out of functions and rounds. -/
def SimY (P : Program) (g : GMap) (A : AP) (n : Nat) : Prop :=
  ∀ (F : Fence), Wide F → ∀ (base : Nat) (κ : K) (w : World) (st : St) (k l D : Nat) (args : Array Value) (ps : List PV) (v : PV) (st' : St), SR P g base κ w st → κ.lam[k]? = some (l, D) → args.size = ps.length →
    (∀ (i : Nat) (u : Value) (q : PV), args[i]? = some u → ps[i]? = some q → R g κ u q) → st.low ≤ st.boxes.length → evV A n (.yld k) ps st = some (v, st') → UpGood P g base κ w F ((Instr.yield l args).run P w) v st'

theorem zip_fold {nt : Nat} {κ : K} : ∀ (ps : List Nat) (vs : List Value) (qs : List PV) (tmps : Array Value) (e : Env), vs.length = qs.length → (∀ (i : Nat) (u : Value) (q : PV), vs[i]? = some u → qs[i]? = some q → R g κ u q) → (∀ p ∈ ps, p < nt) → EnvR g κ nt tmps e →
    EnvR g κ nt ((ps.zip vs).foldl (fun tmps (q : Nat × Value) => tmps.setIfInBounds q.1 q.2) tmps) (updAll e ps qs) := by
  intro ps
  induction ps with
  | nil => intro vs qs tmps e _ _ _ h; simpa [updAll] using h
  | cons p ps ih =>
    intro vs qs tmps e hl hr hp h
    cases vs with
    | nil =>
      cases qs with
      | nil => simpa [updAll] using h
      | cons => simp at hl
    | cons v vs =>
      cases qs with
      | nil => simp at hl
      | cons q qs =>
        simp only [List.zip_cons_cons, List.foldl_cons, updAll]
        refine ih vs qs _ _ (by simpa using hl) (fun i u q a b => hr (i + 1) u q (by simpa using a) (by simpa using b)) (fun x hx => hp x (by simp [hx])) ?_
        exact EnvR.put (a := { tmps := tmps, defers := [] }) h (hp p (by simp)) (hr 0 v q rfl rfl)

theorem simY_of (n : Nat) (hC : SimC P g A n) : SimY P g A (n + 1) := by
  intro F hF base κ w st k l D args ps v st' hsr hl hsz hargs hlow hev
  have hbl : base ≤ l := hsr.lb l D (List.mem_of_getElem? hl)
  simp only [evV] at hev
  split at hev
  · rename_i r hr
    split at hev
    · rename_i hcond
      obtain ⟨hst, hlen⟩ := hcond
      split at hev
      · rename_i e1 s1 hasg
        split at hev
        · rename_i r1 hr1
          split at hev
          · rename_i hst1
            split at hev
            · rename_i x e2 s2 hbody
              split at hev
              · rename_i r2 hr2
                cases hev
                obtain ⟨rec, nt, c1, c2, c3, c4, c5, c6, c7, c8, c9, c10⟩ := (hsr.lp k l D r hr hl).ex
                have hparams : args.size = rec.params.size := by rw [hsz, hlen, ← c4]; simp
                have hTK1 := (ev_TK A n).1 _ _ _ _ _ _ hasg hlow
                intro nn o a next Q hnext
                rw [run_yield c1 hparams]
                refine ⟨hF.deep, ?_⟩
                refine roundIn_of_wpIn (hF.2 _) ?_
                have hE0 : EnvR g κ nt ((rec.params.zip args).foldl (fun tmps (q : Nat × Value) => tmps.setIfInBounds q.1 q.2) rec.tmps) (updAll r.env r.params ps) := by
                  have := zip_fold (g := g) (κ := κ) r.params args.toList ps rec.tmps r.env (by simpa using hsz) (fun i u q a b => hargs i u q (by simpa using a) b) c8 c5
                  rw [← c4] at this ⊢
                  rw [← Array.foldl_toList]
                  simpa using this
                refine hC (F.inRound l) (hF.inRound l) nt rec.assign r.assign c6 base κ w st { tmps := _, defers := [] } _ 0 .normal e1 s1 (nn - 1) _ hsr hE0 ⟨by simp, List.Pairwise.nil⟩ (fun _ => rfl) (.inr ⟨k, l, D, rfl, hl⟩) (Nat.zero_le _) hlow hasg ?_
                intro κ1 a1 w1 k1 k2 k3 k4 k5 k6 k7
                -- the record is busy
                have hl1 : κ1.lam[k]? = some (l, D) := by rw [k2]; exact hl
                obtain ⟨rec1, nt1, d1, d2, d3, d4, d5, d6, d7, d8, d9, d10⟩ := (k3.lp k l D r1 hr1 hl1).ex
                have hready : rec1.state = .ready := by rw [d2, hst1]; rfl
                refine ⟨_, run_beginRound d1 hready, ?_⟩
                have hlm : l ∈ κ1.lam.map (·.1) := List.mem_map.2 ⟨(l, D), List.mem_of_getElem? hl1, rfl⟩
                obtain ⟨rec', x1, x2⟩ := k7.loops l rec (by rw [k2] at hlm; exact hlm) c1
                rw [d1] at x1; cases x1
                obtain ⟨r1', y1, y2⟩ := hTK1.lk k r hr
                rw [hr1] at y1; cases y1
                have hsr1 := k3.setLoop (rec' := { rec1 with state := .busy }) (r' := { r1 with status := 1 }) hr1 hl1 d1 ⟨rfl, rfl, rfl, rfl, rfl⟩ ⟨rfl, rfl, rfl, rfl⟩ rfl d3
                have hfr1 : Fr base κ1.lam w1 (w1.putObj l (.loop { rec1 with state := .busy })) := Fr.setLoop hbl hlm d1 ⟨rfl, rfl, rfl, rfl, rfl⟩
                have hchk : chkCode P g nt rec.body r.body = true := c7
                have ha1d : a1.defers = [] := k6 rfl
                refine hC (F.inRound l) (hF.inRound l) nt rec.body r.body hchk base κ1 _ _ a1 e1 0 x e2 s2 (nn - 1) _ hsr1 k4 (by rw [ha1d]; exact ⟨by simp, List.Pairwise.nil⟩) (fun _ => ha1d) (.inr ⟨k, l, D, rfl, hl1⟩) (Nat.zero_le _) hTK1.lw hbody ?_
                intro κ2 a2 w2 m1 m2 m3 m4 m5 m6 m7
                have hl2 : κ2.lam[k]? = some (l, D) := by rw [m2]; exact hl1
                obtain ⟨rec2, nt2, f1, f2, f3, f4, f5, f6, f7, f8, f9, f10⟩ := (m3.lp k l D r2 hr2 hl2).ex
                have hlm2 : l ∈ κ2.lam.map (·.1) := List.mem_map.2 ⟨(l, D), List.mem_of_getElem? hl2, rfl⟩
                have fin : ∀ (jump : Option Code), jump = pendOf x → ∃ v w', (Instr.endRound l jump).run P w2 = .ok v w' ∧ (match (Ending.returned v : Ending) with | .returned v => next (a.put o.dst v) w' | _ => True) := by
                  rintro jump rfl
                  refine ⟨_, _, run_endRound _ f1, ?_⟩
                  have hnorm : (pendOf x).isNone = decide (x = .normal) := by cases x <;> rfl
                  have hsr2 := m3.setLoop (rec' := { rec2 with state := if (pendOf x).isNone then .ready else .done, pending := pendOf x }) (r' := { r2 with status := if x = .normal then 0 else 2, pend := x }) hr2 hl2 f1 ⟨rfl, rfl, rfl, rfl, rfl⟩ ⟨rfl, rfl, rfl, rfl⟩ (by cases x <;> rfl) rfl
                  have hfr2 : Fr base κ2.lam w2 (w2.putObj l (.loop { rec2 with state := if (pendOf x).isNone then .ready else .done, pending := pendOf x })) := Fr.setLoop hbl hlm2 f1 ⟨rfl, rfl, rfl, rfl, rfl⟩
                  refine hnext κ2 _ _ (k1.trans m1) (m2.trans k2) hsr2 (by rw [hnorm]; exact .bool _) ?_
                  rw [m2, k2] at hfr2
                  rw [k2] at m7 hfr1
                  exact (k7.trans hfr1).trans (m7.trans hfr2)
                cases x with
                | normal => exact fin none rfl
                | ret => exact fin (some .ret) rfl
                | exit i => exact fin (some (.exit i)) rfl
                | goto t => exact fin (some (.goto t)) rfl
              · cases hev
            · cases hev
          · cases hev
        · cases hev
      · cases hev
    · cases hev
  · cases hev

end Go.Ab
