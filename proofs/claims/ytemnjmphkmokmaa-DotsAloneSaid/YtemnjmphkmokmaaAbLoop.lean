/-
  The records of loops over functions; results; marks.
-/
import Derived.Test.YtemnjmphkmokmaaAbOrd
namespace Go.Ab
set_option linter.unusedVariables false
set_option linter.unusedSimpArgs false

variable {P : Program} {g : GMap} {base : Nat} {κ : K} {w : World} {st : St}

theorem Cells.keep {w w' : World} {blk : Nat} {rs : Array Value} (h : Cells w blk rs) (hh : ∀ (k : Nat) (o : Obj), w.heap[k]? = some o → isCells o = true → w'.heap[k]? = some o) : Cells w' blk rs := by
  obtain ⟨el, lo, hi, h1, h2⟩ := h
  exact ⟨el, lo, hi, hh _ _ h1 rfl, h2⟩

theorem cell_keep {w w' : World} {b i : Nat} {v : Value} (h : w.cell? ⟨b, i, none⟩ = some v) (hh : ∀ (k : Nat) (o : Obj), w.heap[k]? = some o → isCells o = true → w'.heap[k]? = some o) : w'.cell? ⟨b, i, none⟩ = some v := by
  simp only [World.cell?] at *
  cases hb : w.heap[b]? with
  | none => simp [hb] at h
  | some x =>
    cases x <;> simp [hb] at h
    rw [hh _ _ hb rfl]; simpa using h

/-- Cells as they were; the loops seen to. -/
theorem SR.objs {κ κ' : K} {w w' : World} {st st' : St} (h : SR P g base κ w st) (hh : ∀ (k : Nat) (o : Obj), w.heap[k]? = some o → isCells o = true → w'.heap[k]? = some o) (hs : w.heap.size ≤ w'.heap.size)
    (hC : κ'.C = κ.C) (hφ : κ'.φ = κ.φ) (hτ : κ'.τ = κ.τ) (hb : st'.boxes = st.boxes) (ht : st'.toks = st.toks) (hle : ∀ v p, (∃ n, p.inB n = true) → R g κ v p → R g κ' v p)
    (ll : κ'.lam.length = st'.loops.length) (ln : (κ'.lam.map (·.1)).Nodup) (lb : ∀ (l D : Nat), (l, D) ∈ κ'.lam → base ≤ l) (lp : ∀ (k l D : Nat) (r : LoopS), st'.loops[k]? = some r → κ'.lam[k]? = some (l, D) → LoopOK P g κ' w' l D r) : SR P g base κ' w' st' where
  cC b i v hc := by rw [hC] at hc; exact cell_keep (h.cC b i v hc) hh
  bl := by rw [hφ, hb]; exact h.bl
  bn := by rw [hφ]; exact h.bn
  bx b blk cs h1 h2 := by
    rw [hb] at h1; rw [hφ] at h2
    have hx := h.bx b blk cs h1 h2
    obtain ⟨rs, hc, h3, h4⟩ := hx.ex
    refine ⟨hx.ge, by rw [hC]; exact hx.nc, ⟨rs, hc.keep hh, h3, fun i c hi => ?_⟩, hx.lf, hx.lw⟩
    obtain ⟨v, hv, hr⟩ := h4 i c hi
    exact ⟨v, hv, hle v c ⟨b, hx.lw c (List.mem_of_getElem? hi)⟩ hr⟩
  tl := by rw [hτ, ht]; exact h.tl
  tk i blk e ce h1 h2 := by
    rw [ht] at h1; rw [hτ] at h2
    have hx := h.tk i blk e ce h1 h2
    obtain ⟨rs, hc, h3⟩ := hx.ex
    exact ⟨hx.ge, by rw [hφ]; exact hx.nb, by rw [hC]; exact hx.nc, ⟨rs, hc.keep hh, h3⟩⟩
  td := by rw [hτ, ht]; exact h.td
  ll := ll
  ln := ln
  lb := lb
  lp := lp
  hb := Nat.le_trans h.hb hs
  gv := g.mono _ _ (by rw [hC]; exact fun _ _ _ h => h) h.gv

theorem SR.pushObj (h : SR P g base κ w st) {w' : World} {o : Obj} (hw : w'.heap = w.heap.push o) : SR P g base κ w' st :=
  h.objs (κ' := κ) (st' := st) (fun k x hx _ => by rw [hw]; exact push_old hx) (by rw [hw]; simp) rfl rfl rfl rfl rfl (fun _ _ _ h => h) h.ll h.ln h.lb (fun k l D r h1 h2 => (h.lp k l D r h1 h2).mono (K.le.refl _) fun k x hx _ => by rw [hw]; exact push_old hx)

/-- A loop more. -/
theorem SR.addLoop (h : SR P g base κ w st) {w' : World} {rec : Loop} {r : LoopS} {nt : Nat} (hw : w'.heap = w.heap.push (.loop rec)) (h1 : rec.state = stOf r.status) (h2 : rec.pending = pendOf r.pend) (h3 : rec.params.toList = r.params)
    (h4 : EnvR g κ nt rec.tmps r.env) (h5 : chkCode P g nt rec.assign r.assign = true) (h6 : chkCode P g nt rec.body r.body = true) (h7 : ∀ p ∈ r.params, p < nt) (h8 : w.heap[rec.defers]? = some (.deferred (some []))) :
    K.le κ { κ with lam := κ.lam ++ [(w.heap.size, rec.defers)] } ∧ SR P g base { κ with lam := κ.lam ++ [(w.heap.size, rec.defers)] } w' { st with loops := st.loops ++ [r] } := by
  have hle : K.le κ { κ with lam := κ.lam ++ [(w.heap.size, rec.defers)] } := ⟨fun _ _ _ h => h, fun _ _ h => h, fun i x hx => by
    have := (List.getElem?_eq_some_iff.1 hx).1
    simp [List.getElem?_append_left this, hx], fun _ _ h => h⟩
  refine ⟨hle, h.objs (fun k x hx _ => by rw [hw]; exact push_old hx) (by rw [hw]; simp) rfl rfl rfl rfl rfl (fun v p _ hr => hr.mono hle) (by simp [h.ll]) ?_ (fun l D hm => ?_) ?_⟩
  · simp only [List.map_append, List.map_cons, List.map_nil, List.nodup_append]
    refine ⟨h.ln, by simp, fun a ha b hb => ?_⟩
    simp at hb; subst hb
    obtain ⟨rec', hr'⟩ := h.loopAt ha
    have := (Array.getElem?_eq_some_iff.1 hr').1
    omega
  · simp only [List.mem_append, List.mem_singleton, Prod.mk.injEq] at hm
    rcases hm with hm | ⟨rfl, _⟩
    · exact h.lb l D hm
    · exact h.hb
  · intro k l D r' a b
    by_cases hk : k < st.loops.length
    · simp only [List.getElem?_append_left hk] at a
      simp only [List.getElem?_append_left (by rw [h.ll]; exact hk)] at b
      exact (h.lp k l D r' a b).mono hle fun k x hx _ => by rw [hw]; exact push_old hx
    · have hk' : k = st.loops.length := by
        have := (List.getElem?_eq_some_iff.1 a).1
        simp at this; omega
      subst hk'
      simp only [List.getElem?_concat_length, Option.some.injEq] at a
      rw [← h.ll, List.getElem?_concat_length, Option.some.injEq] at b
      simp only [Prod.mk.injEq] at b
      obtain ⟨rfl, rfl⟩ := b
      subst a
      exact ⟨rec, nt, by rw [hw]; simp, h1, h2, h3, h4.mono hle, h5, h6, h7, rfl, by rw [hw]; exact push_old h8⟩

theorem putObj_same {w : World} {l : Nat} {o o' : Obj} (h : w.heap[l]? = some o) : (w.putObj l o').heap[l]? = some o' := World.putObj_heap_same (Array.getElem?_eq_some_iff.1 h).1

/-- A loop's record turned. -/
theorem SR.setLoop (h : SR P g base κ w st) {k l D : Nat} {r r' : LoopS} {rec rec' : Loop} (hk : st.loops[k]? = some r) (hl : κ.lam[k]? = some (l, D)) (hrec : w.heap[l]? = some (.loop rec)) (hlike : LoopLike rec rec') (hsame : SameLoop r r')
    (h1 : rec'.state = stOf r'.status) (h2 : rec'.pending = pendOf r'.pend) : SR P g base κ (w.putObj l (.loop rec')) { st with loops := st.loops.set k r' } := by
  refine h.objs (κ' := κ) (fun j x hx hc => ?_) (by simp) rfl rfl rfl rfl rfl (fun _ _ _ h => h) (by simp [h.ll]) h.ln h.lb ?_
  · rw [World.putObj_heap_other]
    · exact hx
    · rintro rfl; rw [hrec] at hx; cases hx; simp [isCells] at hc
  · intro k' l' D' q a b
    have hdef : ∀ (x : Nat), w.heap[x]? = some (Obj.deferred (some [])) → (w.putObj l (.loop rec')).heap[x]? = some (Obj.deferred (some [])) := fun x hx => by
      rw [World.putObj_heap_other]
      · exact hx
      · rintro rfl; rw [hrec] at hx; cases hx
    by_cases hkk : k = k'
    · subst hkk
      rw [hl] at b; cases b
      have hlt := (List.getElem?_eq_some_iff.1 hk).1
      simp [hlt] at a; subst a
      obtain ⟨rec0, nt, c1, c2, c3, c4, c5, c6, c7, c8, c9, c10⟩ := (h.lp k l D r hk hl).ex
      rw [hrec] at c1; cases c1
      exact ⟨rec', nt, putObj_same hrec, h1, h2, by rw [hlike.params, hsame.params]; exact c4, by rw [hlike.tmps, hsame.env]; exact c5, by rw [hlike.assign, hsame.assign]; exact c6, by rw [hlike.body, hsame.body]; exact c7, by rw [hsame.params]; exact c8,
        by rw [hlike.defers]; exact c9, hdef _ c10⟩
    · simp only [List.getElem?_set_ne hkk] at a
      obtain ⟨rec0, nt, c1, c2, c3, c4, c5, c6, c7, c8, c9, c10⟩ := (h.lp k' l' D' q a b).ex
      have hne : l' ≠ l := by
        rintro rfl
        have e1 : (κ.lam.map (·.1))[k]? = some l' := by simp [hl]
        have e2 : (κ.lam.map (·.1))[k']? = some l' := by simp [b]
        exact hkk ((List.getElem?_inj (by simp; exact (List.getElem?_eq_some_iff.1 hl).1) h.ln).1 (e1.trans e2.symm))
      exact ⟨rec0, nt, by rw [World.putObj_heap_other hne]; exact c1, c2, c3, c4, c5, c6, c7, c8, c9, hdef _ c10⟩

theorem Fr.setLoop {lam : List (Nat × Nat)} {l : Nat} {rec rec' : Loop} (hb : base ≤ l) (hm : l ∈ lam.map (·.1)) (hrec : w.heap[l]? = some (.loop rec)) (hlike : LoopLike rec rec') : Fr base lam w (w.putObj l (.loop rec')) :=
  ⟨⟨rfl, rfl, rfl, by simp, fun k hk => World.putObj_heap_other (by omega)⟩, fun k o ho hc hk => by
    rw [World.putObj_heap_other]
    · exact ho
    · rintro rfl; exact hk hm, fun k r hk hr => by
    by_cases hkl : k = l
    · subst hkl
      rw [hrec] at hr; cases hr
      exact ⟨rec', putObj_same hrec, hlike⟩
    · exact ⟨r, by rw [World.putObj_heap_other hkl]; exact hr, .refl r⟩⟩

/-! ### Results -/
def resF (tmps : Array Value) : ResultVar → Sem Value
  | .tmp t => pure (tmps.getD t undef)
  | .cell a t => do loadVar t (← asAddr (tmps.getD a undef))

theorem results_eq (fn : Func) (tmps : Array Value) : results fn tmps = (do
  let vs ← fn.results.mapM (resF tmps)
  pure (if h : vs.size = 1 then vs[0] else .tuple vs)) := rfl

theorem rv_sim {κ : K} {w : World} {st : St} (h : SR P g base κ w st) {nt : Nat} {tmps : Array Value} {e : Env} (hE : EnvR g κ nt tmps e) {rv : ResultVar} {r : RV} {v : PV} (hc : chkRV P rv r = true) (hr : rv1 e st r = some v) :
    ∃ z, (resF tmps rv).run P w = .ok z w ∧ R g κ z v := by
  cases rv with
  | tmp t =>
    cases r with
    | cell => simp [chkRV] at hc
    | tmp t' =>
      simp only [chkRV, decide_eq_true_eq] at hc
      subst hc
      simp only [rv1, Option.some.injEq] at hr
      subst hr
      exact ⟨_, rfl, hE.2 t⟩
  | cell a ty =>
    cases r with
    | tmp => simp [chkRV] at hc
    | cell t' ag sz =>
      simp only [chkRV, Bool.and_eq_true, decide_eq_true_eq, Bool.or_eq_true, Bool.not_eq_true'] at hc
      obtain ⟨⟨rfl, h1⟩, h2⟩ := hc
      simp only [rv1] at hr
      have hR := hE.2 a
      simp only [resF]
      generalize tmps.getD a undef = u at hR
      generalize e a = p at hR hr
      obtain ⟨z, a1, a2⟩ := load_sim h h1 (fun ha => by rcases h2 with h2 | h2 <;> simp_all) hR hr
      refine ⟨z, ?_, a2⟩
      have hp : ∃ ad, u = .pointer (some ad) := by
        unfold loadPV at hr
        split at hr
        · cases hR; exact ⟨_, rfl⟩
        · cases hR; exact ⟨_, rfl⟩
        · cases hr
      obtain ⟨ad, rfl⟩ := hp
      simp only [Sem.run_bind, asAddr, Sem.run_pure, Result.andThen_ok]
      simpa [Instr.loadAt, Instr.sureAddr] using a1

theorem results_sim {κ : K} {w : World} {st : St} (h : SR P g base κ w st) {nt : Nat} {tmps : Array Value} {e : Env} (hE : EnvR g κ nt tmps e) {fn : Func} {rs : List RV} {v : PV} (hc : chkRVs P fn.results.toList rs = true) (hr : resOf e st rs = some v) :
    ∃ z, (results fn tmps).run P w = .ok z w ∧ R g κ z v := by
  have key : ∀ (rvs : List ResultVar) (rs : List RV) (vs : List PV), chkRVs P rvs rs = true → rvAll e st rs = some vs →
      ∃ zs : List Value, (rvs.mapM (resF tmps)).run P w = .ok zs w ∧ zs.length = vs.length ∧
        ∀ (i : Nat) (z : Value) (p : PV), zs[i]? = some z → vs[i]? = some p → R g κ z p := by
    intro rvs
    induction rvs with
    | nil =>
      intro rs vs h1 h2
      cases rs with
      | cons => simp [chkRVs] at h1
      | nil => simp [rvAll] at h2; subst h2; exact ⟨[], rfl, rfl, fun i z p a => by simp at a⟩
    | cons rv rvs ih =>
      intro rs vs h1 h2
      cases rs with
      | nil => simp [chkRVs] at h1
      | cons r rs =>
        simp only [chkRVs, Bool.and_eq_true] at h1
        simp only [rvAll] at h2
        split at h2
        · rename_i v0 vs0 e1 e2
          cases h2
          obtain ⟨z, a1, a2⟩ := rv_sim h hE h1.1 e1
          obtain ⟨zs, b1, b2, b3⟩ := ih rs vs0 h1.2 e2
          refine ⟨z :: zs, ?_, by simp [b2], fun i u p c d => ?_⟩
          · simp only [List.mapM_cons, Sem.run_bind, a1, Result.andThen_ok, b1, Sem.run_pure]
          · cases i with
            | zero => simp at c d; subst c d; exact a2
            | succ i => simp at c d; exact b3 i u p c d
        · cases h2
  unfold resOf at hr
  split at hr
  · rename_i vs hvs
    split at hr
    · rename_i hnt
      cases hr
      obtain ⟨zs, a1, a2, a3⟩ := key fn.results.toList rs vs hc hvs
      refine ⟨if h : zs.toArray.size = 1 then zs.toArray[0] else .tuple zs.toArray, ?_, ?_⟩
      · rw [results_eq, Array.mapM_eq_mapM_toList]
        simp only [Sem.run_bind, Sem.run_map, a1, Result.andThen_ok, Sem.run_pure]
      · have htup : ¬ zs.length = 1 → R g κ (if h : zs.toArray.size = 1 then zs.toArray[0] else .tuple zs.toArray) (.tup vs) := fun hl => by
          rw [dif_neg (by simpa using hl)]
          exact .tup _ _ (by simpa using a2) hnt (fun i z p c d => a3 i z p (by simpa using c) d)
        match vs, zs, a2, a3, htup with
        | [v0], [z0], _, a3, _ =>
          exact (show R g κ z0 v0 from a3 0 _ v0 rfl rfl)
        | [], [], _, _, htup => exact htup (by simp)
        | _ :: _ :: _, _ :: _ :: _, _, _, htup => exact htup (by simp)
    · cases hr
  · cases hr

/-- The marks taken, one behind the other; the results. -/
theorem leaves_sim {κ : K} {w0 : World} {st : St} {nt : Nat} {tmps : Array Value} {e : Env} {fn : Func} {rs : List RV} {v : PV} {F : Fence} {nn : Nat} {Rr : Ending → World → Prop} (hE : EnvR g κ nt tmps e) (hc : chkRVs P fn.results.toList rs = true) (hr : resOf e st rs = some v)
    (hB : ∀ (l D : Nat), (l, D) ∈ κ.lam → D < w0.heap.size) (hbase : base ≤ w0.heap.size)
    (hk : ∀ w2 z, SR P g base κ w2 st → Fr base κ.lam w0 w2 → R g κ z v → Rr (.returned z) w2) :
    ∀ (ds : List Deferred) (w : World), SR P g base κ w st → Fr base κ.lam w0 w → DefOK w0.heap.size w ds → LeavesInM F nn P fn tmps Rr ds .returning w := by
  intro ds
  induction ds with
  | nil =>
    intro w hsr hfr hd
    obtain ⟨z, a1, a2⟩ := results_sim hsr hE hc hr
    exact ⟨z, a1, hk w z hsr hfr a2⟩
  | cons d ds ih =>
    intro w hsr hfr hd
    obtain ⟨D, rfl, hBD, hobj⟩ := hd.1 d (by simp)
    have hpw := hd.2
    rw [List.pairwise_cons] at hpw
    refine ⟨by simp, .inl ⟨D, _, rfl, run_takeDeferred hobj, ?_⟩⟩
    have hother : ∀ (k : Nat) (o : Obj), w.heap[k]? = some o → k ≠ D → (w.putObj D (.deferred none)).heap[k]? = some o := fun k o ho hne => by rw [World.putObj_heap_other hne]; exact ho
    have hsr' : SR P g base κ (w.putObj D (.deferred none)) st := hsr.objs (κ' := κ) (st' := st) (fun k o ho hcl => hother k o ho (by rintro rfl; rw [hobj] at ho; cases ho; simp [isCells] at hcl)) (by simp) rfl rfl rfl rfl rfl (fun _ _ _ h => h) hsr.ll hsr.ln hsr.lb (fun k l D' r a b => by
      obtain ⟨rec, nt', c1, c2, c3, c4, c5, c6, c7, c8, c9, c10⟩ := (hsr.lp k l D' r a b).ex
      have := hB l D' (List.mem_of_getElem? b)
      exact ⟨rec, nt', hother l _ c1 (by rintro rfl; rw [hobj] at c1; cases c1), c2, c3, c4, c5, c6, c7, c8, c9, hother D' _ c10 (by omega)⟩)
    refine ih _ hsr' ?_ ⟨fun d' hd' => ?_, hpw.2⟩
    · have hs := hfr.below.size
      refine ⟨⟨hfr.below.os, hfr.below.tape, hfr.below.output, by simpa using hs, fun k hk' => ?_⟩, fun k o ho hcl hkl => ?_, fun k r hkl hkr => ?_⟩
      · rw [World.putObj_heap_other (by omega)]; exact hfr.below.block k hk'
      · have := (Array.getElem?_eq_some_iff.1 ho).1
        exact hother k o (hfr.objs k o ho hcl hkl) (by omega)
      · have := (Array.getElem?_eq_some_iff.1 hkr).1
        obtain ⟨r', x1, x2⟩ := hfr.loops k r hkl hkr
        exact ⟨r', hother k _ x1 (by omega), x2⟩
    · obtain ⟨D', rfl, y1, y2⟩ := hd.1 d' (by simp [hd'])
      exact ⟨D', rfl, y1, hother D' _ y2 (by rintro rfl; exact hpw.1 _ hd' rfl)⟩

end Go.Ab
