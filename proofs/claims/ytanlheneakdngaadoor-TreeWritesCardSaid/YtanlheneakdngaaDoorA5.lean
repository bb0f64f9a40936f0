/-
  A component's lines; a component is written.
-/
import Derived.Test.YtanlheneakdngaaDoorA4
import Derived.KernelRfl
import Derived.Test.YtanlheneakdngaaDoorA2
import Derived.Shelf.Bytes.SlIndexWhole
import Derived.Shelf.Bytes.IndexByte
import Derived.Shelf.Strings.Builder1
import Derived.Shelf.Strings.Search2
import Derived.Shelf.Small.Strs
import Derived.HandedShaped
import Derived.LaidLaws
import Derived.Lay
set_option linter.unusedVariables false
set_option linter.unusedSimpArgs false
namespace Go.Ab
set_option maxRecDepth 20000
variable {st s : St} {e : Env}

theorem Kept.appG {v y : PV} {xs ys : List PV} (hk : Kept st s) (h : Own st s 3 v xs) (hy : y.vs 3 = some ys) (hl : xs.length + ys.length ≤ room) :
    ∃ v' s', Ab.appV 3 s v y = some (v', s') ∧ Kept st s' ∧ Own st s' 3 v' (xs ++ ys) ∧ s'.boxes = s.boxes ∧ s'.low = s.low := by
  have hsrc : srcV 3 y = some ys := by
    rcases vs_cases hy with ⟨rfl, rfl⟩ | ⟨t, rfl⟩ <;> simp [srcV]
  by_cases hn : ys = []
  · subst hn
    refine ⟨v, s, ?_, hk, by simpa using h, rfl, rfl⟩
    rcases h with ⟨rfl, rfl⟩ | ⟨i, rfl, _⟩ <;> simp [Ab.appV, hsrc]
  · have hg : GrewAt s.boxes st.toks s.loops s.low s := ⟨rfl, rfl, rfl, hk.tk⟩
    obtain ⟨g2, o2⟩ := Own.app (ys := xs ++ ys) hg h
    refine ⟨.sl 3 (.own s.toks.length) (xs ++ ys), Ab.appS s v, ?_, ⟨?_, ?_, ?_, g2.tk⟩, o2, g2.bx, ?_⟩
    · rcases h with ⟨rfl, rfl⟩ | ⟨i, rfl, h2, h3⟩
      · simp only [List.length_nil, Nat.zero_add] at hl
        simp [Ab.appV, hsrc, hn, hl, freshT, Ab.appS, St.tok1]
      · simp [Ab.appV, hsrc, hn, hl, freshT, Ab.appS, h3, appTok]
    · rw [g2.bx]; exact hk.bx
    · rw [g2.lp]; exact hk.lp
    · rw [g2.lw]; exact hk.lw
    · exact g2.lw

def stK (st : St) (v : PV) : St := match tokOf v with
  | some i => ⟨st.boxes, st.toks.set i false, st.loops, st.low⟩
  | none => st
theorem stK_f {v : PV} : (stK st v).boxes = st.boxes ∧ (stK st v).loops = st.loops ∧ (stK st v).low = st.low ∧ (stK st v).toks.length = st.toks.length := by
  unfold stK; split <;> simp
theorem leave_stK {S : St} {w v : PV} : leave st S v = leave (stK st w) S v := by
  obtain ⟨h1, h2, h3, h4⟩ := stK_f (st := st) (v := w)
  unfold leave
  rw [h1, h3, h4]
def Rw (s : St) (v : PV) (xs : List PV) : Prop := (v = .nils ∧ xs = []) ∨ ∃ i, v = .sl 3 (.own i) xs ∧ s.toks[i]? = some true
theorem Rw.vs {v : PV} {xs : List PV} (h : Rw s v xs) : v.vs 3 = some xs := by
  rcases h with ⟨rfl, rfl⟩ | ⟨i, rfl, _⟩ <;> simp [PV.vs]
theorem own_Rw {v : PV} {xs : List PV} (h : Own st s 3 v xs) : Rw s v xs := by
  rcases h with h | ⟨i, h1, _, h3⟩
  · exact .inl h
  · exact .inr ⟨i, h1, h3⟩
theorem Kept.stK {S : St} {v : PV} {xs : List PV} (hk : Kept st S) (h : Own st S 3 v xs) : Kept st (Ab.stK S v) := by
  obtain ⟨h1, h2, h3, h4⟩ := stK_f (st := S) (v := v)
  refine ⟨by rw [h1]; exact hk.bx, by rw [h2]; exact hk.lp, by rw [h3]; exact hk.lw, ?_⟩
  rcases h with ⟨rfl, _⟩ | ⟨i, rfl, hi, _⟩
  · exact hk.tk
  · show (S.toks.set i false).take st.toks.length = st.toks
    rw [List.take_set_of_le hi]; exact hk.tk
theorem first_app {v u : PV} {xs : List PV} (h : Rw st v xs) (hl : xs.length + 1 ≤ room) :
    Ab.appV 3 ⟨st.boxes, st.toks ++ [true], st.loops, st.boxes.length⟩ v (.sl 3 (.own st.toks.length) [u]) = some (.sl 3 (.own (st.toks.length + 1)) (xs ++ [u]), ⟨st.boxes, (stK st v).toks ++ [true, true], st.loops, st.boxes.length⟩) := by
  rcases h with ⟨rfl, rfl⟩ | ⟨i, rfl, h3⟩
  · simp [Ab.appV, srcV, freshT, room, stK, tokOf]
  · have hlt := (List.getElem?_eq_some_iff.1 h3).1
    have hg : (st.toks ++ [true])[i]? = some true := by rw [List.getElem?_append_left hlt]; exact h3
    have hs : (st.toks ++ [true]).set i false = st.toks.set i false ++ [true] := by rw [List.set_append_left _ _ hlt]
    simp [Ab.appV, srcV, freshT, appTok, hl, hg, hs, stK, tokOf]

def okMs (Ms : List Ln) : Prop := ∀ M ∈ Ms, M.good
def bL (a n : Bs) : Ln := ⟨a, .nils, [], n⟩
theorem bL_good {a n : Bs} : (bL a n).good := ⟨by simp [bL, PV.vs], rfl⟩
theorem lit_bL {a n : Bs} {z : PV} : litFill 3 (List.replicate 1 z) [(0, .agg [.str a, .nils, .str n])] = some [lV (bL a n)] := lit1 rfl rfl

set_option maxHeartbeats 4000000 in
theorem tlines_spec : ∀ (T : TD), T.sm → ∀ (x : PV) (st : St) (v : PV) (Ms : List Ln), IsT T x → Rw st v (Ms.map lV) → okMs Ms → Ms.length + T.lines.length ≤ 1000000000 →
    ∃ Ms', call prog (.fn 339 []) [v, x] st = some (.sl 3 (.own st.toks.length) (Ms'.map lV), (stK st v).tok1) ∧ Ms'.map ofLn = Ms.map ofLn ++ T.lines ∧ okMs Ms' := by
  refine TD.ind ?_
  intro n ls cs ih hsm x st v Ms hx hv hMs hlen
  cases hsm with
  | mk s1 s2 s3 s4 s5 =>
  have hcore : ∃ r, call prog (.fn 339 []) [v, x] st = some r ∧ ∃ Ms', r = (.sl 3 (.own st.toks.length) (Ms'.map lV), (stK st v).tok1) ∧ Ms'.map ofLn = Ms.map ofLn ++ TD.lines (.mk n ls cs) ∧ okMs Ms' := by
    refine call_ex prog_339 ?_
    unfold F_tree_lines; dsimp only
    generalize hQ1 : endX st _ _ = Q0
    obtain ⟨lv, cv, Ls, ys, a1, a2, a3, a4, a5, a6, a7, a8⟩ := strip_T hx
    have hcl := len_vs a6
    rw [a7] at hcl
    have hLl : Ls.length = ls.length := by rw [← a4]; simp
    simp only [TD.lines, List.length_append, List.length_cons, List.length_nil] at hlen
    obtain ⟨st1, hst1⟩ : ∃ st1, st1 = stK st v := ⟨_, rfl⟩
    obtain ⟨f1, f2, f3, f4⟩ := stK_f (st := st) (v := v)
    rw [← hst1] at f1 f2 f3 f4
    have fin : ∀ (E : Env) (S : St) (w : PV) (Ns : List Ln), Kept st1 S → Own st1 S 3 w (Ns.map lV) → Ns ≠ [] → Ns.map ofLn = Ms.map ofLn ++ TD.lines (.mk n ls cs) → okMs Ns → E 4 = w → Q0 .ret E S := by
      intro E S w Ns hk ho hne hm hokN e4
      rw [← hQ1]
      have hlv : leave st S w = (newSl st1 3 (Ns.map lV), newS st1 (Ns.map lV).isEmpty) := by
        rw [leave_stK (w := v), ← hst1]
        exact hk.leaveOwn1 ho (fun h => absurd (by simpa using h) hne)
      refine ⟨.inr rfl, w, ?_, Ns, ?_, hm, hokN⟩
      · rcases ho with ⟨rfl, _⟩ | ⟨i, rfl, _⟩ <;> simp [resOf, rvAll, rv1, e4, notTup, packRes]
      · rw [hlv]
        have hne2 : ¬ Ns.map lV = [] := by simpa using hne
        have hem : (Ns.map lV).isEmpty = false := by cases Ns with
          | nil => exact absurd rfl hne
          | cons _ _ => rfl
        unfold newSl newS
        rw [if_neg hne2, hem, f4, hst1]; rfl
    have hb1 : buildCells [.str [], .nils, .str []] [(0, 1, .str [66, 69, 71, 73, 78]), (2, 1, .str n)] = some [.str begS, .nils, .str n] := rfl
    have hb2 : buildCells [.str [], .nils, .str []] [(0, 1, .str [69, 78, 68]), (2, 1, .str n)] = some [.str endS, .nils, .str n] := rfl
    refine W_cut (fun E S => S = ⟨st.boxes, st.toks, st.loops, st.boxes.length⟩ ∧ E 0 = v ∧ E 3 = .cp [.str n, lv, cv]) ?_ ?_
    · simp (maxSteps := 1000000) (disch := omega) only [a1, cells3, qabz, qajz, qalz, evOp, qaoz, qapz, qarz, qatz, qavz,
 ↓reduceIte, Nat.reduceEqDiff, qawz, qaxz, Option.map_some, true_and, and_true, reduceCtorEq]
    rintro e S ⟨hS, h0, h3⟩
    rw [hS]; clear hS S
    obtain ⟨Ns, hNs⟩ : ∃ Ns, Ns = Ms ++ [bL begS n] ++ Ls := ⟨_, rfl⟩
    have hNsl : Ns.length = Ms.length + 1 + ls.length := by rw [hNs]; simp; omega
    have hNso : Ns.map ofLn = Ms.map ofLn ++ (begS, [], n) :: ls := by rw [hNs]; simp [a4, bL, ofLn]
    have hNsg : okMs Ns := by
      intro M hM
      rw [hNs] at hM
      rcases List.mem_append.1 hM with hM | hM
      · rcases List.mem_append.1 hM with hM | hM
        · exact hMs M hM
        · simp only [List.mem_singleton] at hM; subst hM; exact bL_good
      · exact a5 M hM
    refine W_cut (fun E S => ∃ w, Kept st1 S ∧ Own st1 S 3 w (Ns.map lV) ∧ E 0 = w ∧ E 3 = .cp [.str n, lv, cv]) ?_ ?_
    · have hfa := first_app (u := lV (bL begS n)) hv (by simp [room]; omega)
      have hk1 : Kept st1 ⟨st.boxes, (stK st v).toks ++ [true, true], st.loops, st.boxes.length⟩ := ⟨by simp [f1], by rw [f2], by rw [f1]; exact Nat.le_refl _, by simp [hst1]⟩
      have ho1 : Own st1 ⟨st.boxes, (stK st v).toks ++ [true, true], st.loops, st.boxes.length⟩ 3 (.sl 3 (.own (st.toks.length + 1)) (Ms.map lV ++ [lV (bL begS n)])) (Ms.map lV ++ [lV (bL begS n)]) := by
        refine .inr ⟨_, rfl, by rw [f4]; omega, ?_⟩
        rw [hst1] at f4
        show ((stK st v).toks ++ [true, true])[st.toks.length + 1]? = some true
        rw [List.getElem?_append_right (by omega)]
        simp [f4]
      obtain ⟨w, S', q1, q2, q3, q4, -⟩ := hk1.appG ho1 a3 (by simp [room]; omega)
      have hfT : ∀ S : St, freshT S = (.own S.toks.length, S.tok1) := fun S => rfl
      simp (maxSteps := 1000000) (disch := omega) only [h0, h3, fa3_0, fa3_1, lcc, hb1, lit_bL, freshT_eq, St.tok1, hfa, q1, qabz, qajz, qalz, evOp, qaoz, qapz, qarz, qatz, qavz,
 ↓reduceIte, Nat.reduceEqDiff, List.map_cons, List.map_nil, Option.map_some, Bool.false_eq_true, true_and, and_true, reduceCtorEq]
      exact ⟨w, q2, by rw [hNs]; simpa using q3, rfl⟩
    clear h0 h3
    rintro e S ⟨w, hk, ho, h0, h3⟩
    obtain ⟨I, hI⟩ : ∃ I : Nat → Env → St → Prop, I = fun m E S => ∃ (i : Nat) (w : PV) (Rs : List Ln), m = cs.length - i ∧ i ≤ cs.length ∧ Kept st1 S ∧ Own st1 S 3 w (Rs.map lV) ∧ Rs ≠ [] ∧ Rs.map ofLn = Ms.map ofLn ++ ((begS, [], n) :: (ls ++ linesL (cs.take i))) ∧ okMs Rs ∧ E 0 = w ∧ E 3 = .cp [.str n, lv, cv] ∧ E 17 = cv ∧ E 18 = .int .i64 (cs.length : Int) ∧ E 19 = .int .i64 (i : Int) := ⟨_, rfl⟩
    refine W_cut (I 0) ?_ ?_
    · simp (maxSteps := 1000000) (disch := omega) only [h3, fa3_2, lcc, hcl, qaaz, qabz, qajz, qalz, evOp, qaoz, qapz, qarz, qatz, qavz,
 ↓reduceIte, Option.map_some, qazz]
      rw [qadz]
      refine W_loop I ?_ (n := cs.length) (by
        rw [hI]
        exact ⟨0, w, Ns, rfl, by omega, hk, ho, by intro q; rw [q] at hNsl; simp at hNsl; omega, by rw [hNso]; simp [linesL], hNsg, h0, h3, rfl, rfl, rfl⟩)
      clear hk ho h0 h3
      intro m E S hh
      have hII := hh
      rw [hI] at hh
      obtain ⟨i, w, Rs, rfl, hi, hk, ho, hne, hro, hrg, h0, h3, h17, h18, h19⟩ := hh
      by_cases hlt : i < cs.length
      · obtain ⟨la, ca, q1, q2, q3, q4, q5⟩ := iaddr_T a6 (by omega) (a8 i hlt)
        obtain ⟨d, hd⟩ : ∃ d, d = cs.getD i T0 := ⟨_, rfl⟩
        rw [← hd] at q2 q3
        have hdm : d ∈ cs := by rw [hd]; exact getD_mem hlt
        have hsucc : linesL (cs.take (i + 1)) = linesL (cs.take i) ++ d.lines := by rw [take_snoc (d := T0) hlt, linesL_app, ← hd]; simp [linesL]
        have hle : (linesL (cs.take i)).length + d.lines.length ≤ (linesL cs).length := by
          have e : cs = cs.take (i + 1) ++ cs.drop (i + 1) := (List.take_append_drop _ _).symm
          have h1 := congrArg (fun z => (linesL z).length) e
          simp only [linesL_app, List.length_append, hsucc] at h1
          omega
        have hRl : Rs.length = Ms.length + 1 + ls.length + (linesL (cs.take i)).length := by
          have := congrArg List.length hro
          simp at this; omega
        obtain ⟨b6, hb6⟩ : ∃ b6, b6 = S.boxes.length := ⟨_, rfl⟩
        have hle6 : st1.boxes.length ≤ b6 := by have := hk.bl; omega
        have hA6 := At.last (s := S) (z := [.str [], .nils, .nils]) (T := S.toks) (Lp := S.loops) (lo := S.low)
        rw [← hb6] at hA6
        obtain ⟨S1, u1, w1⟩ := hA6.st3 (v0 := .str d.n) (v1 := la) (v2 := ca) rfl q4.1 q5.1 rfl (q4.2 _) (q5.2 _)
        have m1 := w1.kp _ hk.alloc' hle6
        have mo := ho.tks (s' := S1) w1.tk
        obtain ⟨Rs', c1, c2, c3⟩ := ih d hdm (s5 d hdm) _ S1 w Rs q3 (own_Rw mo) hrg (by omega)
        have mk := m1.stK mo
        obtain ⟨g1, g2, g3, g4⟩ := stK_f (st := S1) (v := w)
        simp (maxSteps := 1000000) (disch := omega) only [h0, h17, h18, h19, hlt, q2, ldcp3, allocPV, ← hb6, u1, w1.at_.ld3, c1, add_n, Int.reduceToNat, loopQ_normal, qaaz, qabz, qacz, qadz, qaez, qajz, qalz, evOp, qaoz, qapz, qaqz, qarz, qatz, qauz, qavz,
 ↓reduceIte, Nat.reduceEqDiff, List.map_cons, List.map_nil, Option.map_some, qazz, qbdz, qbhz, qbpz, decide_true, Int.ofNat_lt, Int.reduceToNat, reduceCtorEq]
        refine ⟨cs.length - (i + 1), by omega, ?_⟩
        rw [hI]
        refine ⟨i + 1, _, Rs', rfl, by omega, mk.tok1, .inr ⟨_, rfl, by have := m1.tl; omega, ?_⟩, ?_, ?_, c3, rfl, h3, h17, h18, rfl⟩
        · show ((stK S1 w).toks ++ [true])[S1.toks.length]? = some true
          rw [List.getElem?_append_right (by omega), g4]; simp
        · intro q
          rw [q] at c2
          have := congrArg List.length c2
          simp at this
          exact hne (List.eq_nil_of_length_eq_zero (by omega))
        · rw [c2, hro, hsucc]; simp
      · obtain rfl : i = cs.length := by omega
        simp (maxSteps := 1000000) (disch := omega) only [h18, h19, hlt, qaaz, qabz, qacz, qagz, qajz, qalz, evOp, qaoz, qarz, qatz, qavz,
 ↓reduceIte, Option.map_some, qazz, qbbz, qbfz, qbhz, qbjz, qbpz, decide_false,
 Int.ofNat_lt, Bool.false_eq_true, true_and]
        rw [hI]
        exact ⟨cs.length, w, Rs, by omega, hi, hk, ho, hne, hro, hrg, h0, h3, h17, h18, h19⟩
    clear hk ho h0 h3
    rintro e S hh
    rw [hI] at hh
    obtain ⟨i, w, Rs, hii, hi, hk, ho, hne, hro, hrg, h0, h3, -, -, -⟩ := hh
    obtain rfl : i = cs.length := by omega
    rw [List.take_length] at hro
    have hRl : Rs.length = Ms.length + 1 + ls.length + (linesL cs).length := by
      have := congrArg List.length hro
      simp at this; omega
    obtain ⟨w', s', q1, q2, q3, q4⟩ := hk.appV (u := lV (bL endS n)) (w := .undef) ho (by simp [room]; omega)
    simp (maxSteps := 1000000) (disch := omega) only [h0, h3, fa3_0, lcc, hb2, lit_bL, freshT_eq, q1, qaaz, qabz, qaiz, qajz, qalz, evOp, qaoz, qapz, qarz, qatz, qavz,
 ↓reduceIte, Nat.reduceEqDiff, List.map_cons, List.map_nil, Option.map_some, qazz, Bool.false_eq_true]
    refine fin _ _ w' (Rs ++ [bL endS n]) q2 (by simpa using q3) (by simp) ?_ ?_ rfl
    · rw [List.map_append, hro]
      simp [TD.lines, bL, ofLn]
    · intro M hM
      rcases List.mem_append.1 hM with hM | hM
      · exact hrg M hM
      · simp only [List.mem_singleton] at hM; subst hM; exact bL_good
  obtain ⟨r, h1, Ms', h2, h3, h4⟩ := hcore
  exact ⟨Ms', by rw [h1, h2], h3, h4⟩
end Go.Ab
/-
  Lines are read as a component by the document, walked.
-/
namespace Go.Ab
set_option maxRecDepth 20000
variable {st s : St} {e : Env}

end Go.Ab
/-
  A component is read, walked.
-/
namespace Go.Ab
set_option maxRecDepth 20000
variable {st s : St} {e : Env}

end Go.Ab
/-
  A component is written; lines of a name.
-/
namespace Go.Ab
set_option maxRecDepth 20000
variable {st s : St} {e : Env}

theorem nm_tx {l : Bs} (h : nmB l = true) : txB l = true := by
  have hv := (nm_vd h).1
  simp only [nmB, Bool.and_eq_true, decide_eq_true_eq, List.all_eq_true] at h
  have hc : ∀ c, nmC c = true → txC c = true := all256 (p := fun c => nmC c = true → txC c = true) (by decide +kernel)
  simp only [txB, Bool.and_eq_true, List.all_eq_true]
  exact ⟨fun c hcm => hc c (h.2 c hcm), valid_iff.2 hv⟩
theorem bL_rt {a n : Bs} (ha : nmB a = true) (hn : nmB n = true) : rtB (bL a n) = true := by
  have := nm_len hn
  exact rtB_true ⟨ha, nm_tx hn, by simp only [bL]; omega, by simp [bL], fun i hi => by simp [bL] at hi, fun i hi => by simp [bL] at hi⟩
theorem lines_rt : ∀ T : TD, T.fit = true → ∀ d ∈ T.lines, rtB (toLn d) = true := by
  refine TD.ind ?_
  intro n ls cs ih hf d hd
  rw [TD.fit, fitL_all] at hf
  simp only [Bool.and_eq_true, List.all_eq_true] at hf
  obtain ⟨⟨hn, hl⟩, hc⟩ := hf
  simp only [TD.lines, List.mem_append, List.mem_cons, List.not_mem_nil, or_false] at hd
  rcases hd with (rfl | hd | hd) | rfl
  · exact bL_rt (show nmB begS = true by decide +kernel) hn
  · have := hl d hd
    simp only [lineB, Bool.and_eq_true] at this
    exact this.1.1
  · have key : ∀ cs : List TD, (∀ c ∈ cs, c.fit = true) → (∀ c ∈ cs, c.fit = true → ∀ d ∈ c.lines, rtB (toLn d) = true) → ∀ d ∈ linesL cs, rtB (toLn d) = true := by
      intro cs
      induction cs with
      | nil => intro _ _ d hd; simp [linesL] at hd
      | cons c r ih2 =>
        intro h1 h2 d hd
        simp only [linesL, List.mem_append] at hd
        rcases hd with hd | hd
        · exact h2 c (by simp) (h1 c (by simp)) d hd
        · exact ih2 (fun x hx => h1 x (by simp [hx])) (fun x hx => h2 x (by simp [hx])) d hd
    exact key cs hc ih d hd
  · exact bL_rt (show nmB endS = true by decide +kernel) hn
def outD (d : LnD) : Bs := outL (toLn d)
theorem outL_of {L : Ln} : outL L = outD (ofLn L) := rfl
theorem outD_pos {d : LnD} (h : rtB (toLn d) = true) : 1 ≤ (outD d).length := by
  have hf := text_fine h
  have hz := unf_foldW (z := []) (by simp) (by simp) _ (textOfL (toLn d)) (Nat.le_refl _) hf.1 hf.2.1
  unfold outD outL
  generalize (foldW (textOfL (toLn d)).length (textOfL (toLn d))).flatMap crW = F at *
  cases F with
  | nil => simp [unfV_nil] at hz
  | cons _ _ => simp
noncomputable def wrT (T : TD) : Int × Bs := if rightD T = true then (if (T.lines.flatMap outD).length ≤ 1048576 then (0, T.lines.flatMap outD) else (2, [])) else (100, [])
theorem strip_L {L : Ln} (h : L.good) : ∃ pv, strip (lV L) = some (lV ⟨L.n, pv, L.ps, L.v⟩) ∧ (⟨L.n, pv, L.ps, L.v⟩ : Ln).good := by
  obtain ⟨u, h1, h2, h3⟩ := strip_vs h.1
  refine ⟨u, ?_, h2, h3⟩
  show (stripAll [.str L.n, L.pv, .str L.v]).map PV.agg = _
  simp only [stripAll, show ∀ s, stripLeaf (.str s) = some (.str s) from fun _ => rfl, h1]; rfl
theorem sub_c {ek : EK} {a : Nat} (h : a ≤ 9000000) : binPV .sub ek (.int .i64 1048576) (.int .i64 (a : Int)) = some (.int .i64 (1048576 - (a : Int))) := by
  simp only [binPV, binI, reduceIte, Option.some.injEq]
  rw [wrap64 (by omega) (by omega)]

set_option maxHeartbeats 4000000 in
theorem tWrite_spec {T : TD} {x : PV} (hsm : T.sm) (hx : IsT T x) (hl : T.lines.length ≤ 1000000) : call prog (.fn 319 []) [x] st = some (outW st (wrT T)) := by
  refine call_of_W prog_319 ?_
  unfold F_tree_Write; dsimp only
  generalize hQ1 : endQ st _ _ = Q0
  have fin : ∀ (E : Env) (S : St) (v : PV) (c : Int) (B : Bs), Kept st S → Mine st S v B → (B = [] → v = .nils) → wrT T = (c, B) → E 2 = v → E 3 = .int .i64 c → Q0 .ret E S := by
    intro E S v c B hk hm hn hw e2 e3
    rw [← hQ1, qblz, hw]
    refine ⟨.tup [v, .int .i64 c], ?_, leave_outW hk hm hn⟩
    obtain ⟨⟨rfl, _⟩ | ⟨i, rfl, _⟩, _⟩ := hm <;> simp [resOf, rvAll, rv1, e2, e3, notTup, packRes]
  obtain ⟨u, hu1, hu2, hu3⟩ := strip_I hx
  obtain ⟨lv, cv, hu, -, -⟩ := hu2.agg
  have hR := fun S : St => tRight_spec (st := S) hsm hu2
  rw [hu] at hu1 hu2 hR
  cases hr : rightD T with
  | false =>
    rw [hr] at hR
    simp (maxSteps := 1000000) (disch := omega) only [hu1, cells3, lcc3, hR, qaaz, qabz, qacz, qaiz, qajz, qalz, evOp, qaoz, qapz, qaqz, qarz, qatz, qavz,
 ↓reduceIte, Nat.reduceEqDiff, List.append_nil, List.map_cons, List.map_nil, qawz, Option.map_some, qazz, qbaz, qbhz, qcfz, Bool.not_false]
    exact fin _ _ .nils 100 [] Kept.start Mine.nil (fun _ => rfl) (by simp [wrT, hr]) rfl rfl
  | true =>
    rw [hr] at hR
    have hfit : T.fit = true := by
      simp only [rightD, Bool.and_eq_true] at hr; exact hr.2
    have hrt := lines_rt T hfit
    refine W_cut (fun E S => Kept st S ∧ E 1 = .cp [.str T.n, lv, cv]) ?_ ?_
    · simp (maxSteps := 1000000) (disch := omega) only [hu1, cells3, qabz, qajz, qalz, evOp, qaoz, qapz, qarz, qatz, qavz,
 ↓reduceIte, Nat.reduceEqDiff, List.append_nil, qawz, Option.map_some, true_and, and_true]
      exact Kept.start
    rintro e S ⟨hk, h1⟩
    refine W_cut (fun E S => Kept st S ∧ E 1 = .cp [.str T.n, lv, cv]) ?_ ?_
    · simp (maxSteps := 1000000) (disch := omega) only [h1, lcc3, hR, qaaz, qabz, qacz, qaez, qajz, qalz, evOp, qaoz, qaqz, qarz, qatz, qavz,
 ↓reduceIte, Nat.reduceEqDiff, List.map_cons, List.map_nil, Option.map_some, qazz, qbhz, qcfz, Bool.false_eq_true, true_and, and_true, Bool.not_true]
      exact hk
    clear hk h1
    rintro e S ⟨hk, h1⟩
    refine W_cut (fun E S => Kept st S ∧ E 1 = .cp [.str T.n, lv, cv] ∧ E 4 = .nils) ?_ ?_
    · simp (maxSteps := 1000000) (disch := omega) only [h1, qabz, qajz, qalz, evOp, qapz, qarz, qatz, qavz,
 ↓reduceIte, Nat.reduceEqDiff, true_and, and_true]
      exact hk
    clear hk h1
    rintro e S ⟨hk, h1, h4⟩
    obtain ⟨Ms, c1, c2, c3⟩ := tlines_spec T hsm _ S .nils [] hu2 (.inl ⟨rfl, rfl⟩) (fun M hM => by simp at hM) (by simp; omega)
    have c1' : call prog (.fn 339 []) [.nils, .agg [.str T.n, lv, cv]] S = some (.sl 3 (.own S.toks.length) (Ms.map lV), S.tok1) := c1
    simp only [List.map_nil, List.nil_append] at c2
    have hMl : Ms.length = T.lines.length := by rw [← c2]; simp
    have hrow : (PV.sl 3 (.own S.toks.length) (Ms.map lV)).vs 3 = some (Ms.map lV) := by simp [PV.vs]
    have hrl : lenPV false (.sl 3 (.own S.toks.length) (Ms.map lV)) = some (.int .i64 (T.lines.length : Int)) := by rw [len_vs hrow, List.length_map, hMl]
    obtain ⟨rw13, h13⟩ : ∃ r, r = PV.sl 3 (.own S.toks.length) (Ms.map lV) := ⟨_, rfl⟩
    rw [← h13] at c1' hrow hrl
    obtain ⟨I, hI⟩ : ∃ I : Nat → Env → St → Prop, I = fun m E S => ∃ (i : Nat) (v : PV), m = T.lines.length - i ∧ i ≤ T.lines.length ∧ Kept st S ∧ Mine st S v ((T.lines.take i).flatMap outD) ∧ ((T.lines.take i).flatMap outD = [] → v = .nils) ∧ ((T.lines.take i).flatMap outD).length ≤ 1048576 ∧ E 4 = v ∧ E 13 = rw13 ∧ E 14 = .int .i64 (T.lines.length : Int) ∧ E 15 = .int .i64 (i : Int) := ⟨_, rfl⟩
    refine W_cutX (I 0) ?_ ?_
    · obtain ⟨QQ, hQQ⟩ : ∃ QQ : Ex → Env → St → Prop, QQ = fun xx e' s' => (xx = .normal ∧ I 0 e' s') ∨ (xx ≠ .normal ∧ Q0 xx e' s') := ⟨_, rfl⟩
      rw [← hQQ, qaaz]
      simp (maxSteps := 1000000) (disch := omega) only [h1, lcc3, c1', hrl, qabz, qajz, qalz, evOp, qaoz, qapz, qaqz, qarz, qatz, qavz,
 ↓reduceIte, List.map_cons, List.map_nil, Option.map_some, qazz]
      rw [qadz]
      refine W_loop I ?_ (n := T.lines.length) (by
        rw [hI]
        exact ⟨0, .nils, rfl, by omega, hk.tok1, Mine.nil, fun _ => rfl, by simp, h4, rfl, rfl, rfl⟩)
      clear hk h1 h4 c1 c1'
      intro m E S hh
      rw [hI] at hh
      obtain ⟨i, v, rfl, hi, hk, hm, hn, hbl, h4, h13', h14, h15⟩ := hh
      by_cases hlt : i < T.lines.length
      · obtain ⟨L, hL⟩ : ∃ L, L = Ms.getD i L0 := ⟨_, rfl⟩
        have hltM : i < Ms.length := by omega
        have hLg := c3 L (by rw [hL]; exact getD_mem hltM)
        obtain ⟨d, hd⟩ : ∃ d, d = T.lines.getD i ([], [], []) := ⟨_, rfl⟩
        have hdL : ofLn L = d := by rw [hd, ← c2, getD_map hltM, ← hL]
        have hdm : d ∈ T.lines := by rw [hd]; exact getD_mem hlt
        have hdr := hrt d hdm
        have hia := iaddr_L (k := .i64) (c := (i : Int)) hrow (by omega) (by rw [Int.toNat_natCast]; exact hltM)
        rw [Int.toNat_natCast, ← hL] at hia
        have hsucc : (T.lines.take (i + 1)).flatMap outD = (T.lines.take i).flatMap outD ++ outD d := by rw [take_snoc (d := ([], [], [])) hlt, ← hd]; simp
        obtain ⟨pv, p1, p2⟩ := strip_L hLg
        obtain ⟨L2, hL2⟩ : ∃ L2 : Ln, L2 = ⟨L.n, pv, L.ps, L.v⟩ := ⟨_, rfl⟩
        rw [← hL2] at p1 p2
        have hL2o : ofLn L2 = d := by rw [← hdL, hL2]; rfl
        have hL2ok : L2.ok := p2.ok (by rw [hL2o]; exact rt_okD hdr)
        have hL2r : rtB L2 = true := by
          have : rtB L2 = rtB (toLn (ofLn L2)) := rtB_pv
          rw [this, hL2o]; exact hdr
        have hlit : ∀ z, litFill 3 (List.replicate 1 z) [(0, .agg [.str L.n, L.pv, .str L.v])] = some [lV L2] := fun z => lit1 p1 rfl
        have hvs1 : ∀ k, (PV.sl 3 (.own k) [lV L2]).vs 3 = some ([L2].map lV) := fun k => by simp [PV.vs]
        have hwr : writeL [L2] = (0, outD d) := by simp [writeL, hL2r, outL_of, hL2o]
        have hop := outD_pos hdr
        have hone : outD d ≠ [] := fun q => by rw [q] at hop; simp at hop
        have hsw := fun (S : St) (k : Nat) => sWrite_spec (st := S) (hvs1 k) ⟨fun M hM => by simp only [List.mem_singleton] at hM; subst hM; exact hL2ok, by simp⟩
        simp only [hwr, outW, hone, if_false] at hsw
        obtain ⟨b6, hb6⟩ : ∃ b6, b6 = S.boxes.length := ⟨_, rfl⟩
        have hle6 : st.boxes.length ≤ b6 := by have := hk.bl; omega
        have hA6 := At.last (s := S) (z := [.str [], .nils, .str []]) (T := S.toks) (Lp := S.loops) (lo := S.low)
        rw [← hb6] at hA6
        have hlf := vs_leaf hLg.1
        obtain ⟨S1, u1, w1⟩ := hA6.st3 (v0 := .str L.n) (v1 := L.pv) (v2 := .str L.v) rfl hlf.1 rfl rfl (hlf.2 _) rfl
        have m1 := (w1.kp _ hk.alloc' hle6).tok1.tok1
        have mm : Mine st S1.tok1.tok1 v ((T.lines.take i).flatMap outD) := by
          have h1 : Mine st S1 v ((T.lines.take i).flatMap outD) := ⟨hm.1.move fun t _ => by rw [w1.tk], hm.2⟩
          exact h1.tok1.tok1
        have hvl := len_by hm.by
        have hbd : (outD d).length ≤ 50000 := by
          have := outL_len hL2ok
          rw [outL_of, hL2o] at this; exact this
        by_cases hbig : ((T.lines.take (i + 1)).flatMap outD).length ≤ 1048576
        · rw [hsucc, List.length_append] at hbig
          have e1 : ¬ (1048576 - (((T.lines.take i).flatMap outD).length : Int) < ((outD d).length : Int)) := by omega
          obtain ⟨v', s', q1, q2, q3⟩ := m1.app8 (y := .bys (.own S1.tok1.toks.length) (outD d)) (m := outD d) mm rfl (by simp only [room]; omega)
          simp (maxSteps := 1000000) (disch := omega) only [h4, h13', h14, h15, hlt, hia, ldcp3, allocPV, ← hb6, u1, w1.at_.ld3, hlit, freshT_eq, hsw, lenB, hvl, sub_c, e1, q1, add_n, loopQ_normal, qaaz, qabz, qacz, qadz, qaez, qajz, qalz, evOp, qaoz, qapz, qaqz, qarz, qatz, qauz, qavz,
 ↓reduceIte, Nat.reduceEqDiff, List.map_cons, List.map_nil, Option.map_some, qazz, qbdz, qbhz, qbpz, qbrz, decide_true, decide_false,
 Int.ofNat_lt, Bool.false_eq_true, qcjz, List.getElem?_cons_zero, List.getElem?_cons_succ, Int.reduceToNat]
          refine ⟨T.lines.length - (i + 1), by omega, ?_⟩
          rw [hI]
          refine ⟨i + 1, v', rfl, by omega, q2, by rw [hsucc]; exact q3, fun q => ?_, by rw [hsucc, List.length_append]; exact hbig, rfl, h13', h14, rfl⟩
          rw [hsucc] at q
          exact absurd (List.append_eq_nil_iff.1 q).2 hone
        · have hbig' := hbig
          rw [hsucc, List.length_append] at hbig
          have e1 : (1048576 - (((T.lines.take i).flatMap outD).length : Int) < ((outD d).length : Int)) := by omega
          simp (maxSteps := 1000000) (disch := omega) only [h4, h13', h14, h15, hlt, hia, ldcp3, allocPV, ← hb6, u1, w1.at_.ld3, hlit, freshT_eq, hsw, lenB, hvl, sub_c, e1, qaaz, qabz, qacz, qadz, qaez, qaiz, qajz, qalz, evOp, qaoz, qapz, qaqz, qarz, qatz, qauz, qavz,
 ↓reduceIte, Nat.reduceEqDiff, List.map_cons, List.map_nil, Option.map_some, qazz, qbaz, qbez, qbhz, qbiz, qbpz, qbrz, decide_true, Int.ofNat_lt, qcjz, List.getElem?_cons_zero, List.getElem?_cons_succ]
          rw [hQQ]
          refine .inr ⟨by simp, fin _ _ .nils 2 [] m1 Mine.nil (fun _ => rfl) ?_ rfl rfl⟩
          have hle : ((T.lines.take (i + 1)).flatMap outD).length ≤ (T.lines.flatMap outD).length := by
            have e : T.lines.flatMap outD = (T.lines.take (i + 1)).flatMap outD ++ (T.lines.drop (i + 1)).flatMap outD := by rw [← List.flatMap_append, List.take_append_drop]
            rw [e, List.length_append]; omega
          unfold wrT
          rw [if_pos hr, if_neg (by omega)]
      · obtain rfl : i = T.lines.length := by omega
        simp (maxSteps := 1000000) (disch := omega) only [h14, h15, hlt, qaaz, qabz, qacz, qagz, qajz, qalz, evOp, qaoz, qarz, qatz, qavz,
 ↓reduceIte, Option.map_some, qazz, qbbz, qbfz, qbhz, qbjz, qbpz, decide_false,
 Int.ofNat_lt, Bool.false_eq_true]
        rw [hQQ, hI]
        exact .inl ⟨rfl, T.lines.length, v, by omega, hi, hk, hm, hn, hbl, h4, h13', h14, h15⟩
    · clear hk h1 h4 c1 c1'
      rintro e S hh
      rw [hI] at hh
      obtain ⟨i, v, hii, hi, hk, hm, hn, hbl, h4, -, -, -⟩ := hh
      obtain rfl : i = T.lines.length := by omega
      rw [List.take_length] at hm hn hbl
      simp (maxSteps := 1000000) (disch := omega) only [h4, qaaz, qabz, qaiz, qajz, qalz, evOp, qaoz, qapz, qarz, qatz, qavz,
 ↓reduceIte, qazz]
      exact fin _ _ v 0 _ hk hm hn (by unfold wrT; rw [if_pos hr, if_pos hbl]) rfl rfl

end Go.Ab
/-
  What must come of fixed calls; a component that was written is read: plain.
-/
namespace Go.Ab
set_option maxRecDepth 20000
variable {st s : St} {e : Env}

theorem lines_cnt : ∀ T : TD, T.lines.length = 2 * T.cnt + T.lns := by
  refine TD.ind ?_
  intro n ls cs ih
  have h : ∀ cs : List TD, (∀ c ∈ cs, c.lines.length = 2 * c.cnt + c.lns) → (linesL cs).length = 2 * cntL cs + lnsL cs := by
    intro cs
    induction cs with
    | nil => intro _; simp [linesL, cntL, lnsL]
    | cons c r ih2 =>
      intro h
      have h1 := h c (by simp)
      have h2 := ih2 (fun d hd => h d (by simp [hd]))
      simp only [linesL, List.length_append, cntL, lnsL]; omega
  have := h cs ih
  simp only [TD.lines, List.length_append, List.length_cons, List.length_nil, TD.cnt, TD.lns]; omega
def tl (d : LnD) : Nat := (textOfL (toLn d)).length + 2
end Go.Ab
/-
  How much a tree has, whatever it has.
-/
namespace Go.Ab
set_option maxRecDepth 20000
variable {st s : St} {e : Env}

theorem w64_def (n : Int) : IntKind.i64.wrap n = if n % 18446744073709551616 ≥ 9223372036854775808 then n % 18446744073709551616 - 18446744073709551616 else n % 18446744073709551616 := by
  unfold IntKind.wrap
  simp [IntKind.signed, IntKind.bits]
theorem w64_add (a b : Int) : IntKind.i64.wrap (IntKind.i64.wrap a + IntKind.i64.wrap b) = IntKind.i64.wrap (a + b) := by
  simp only [w64_def]
  split <;> split <;> split <;> split <;> omega
theorem add_w {ek : EK} {a b : Int} : binPV .add ek (.int .i64 (IntKind.i64.wrap a)) (.int .i64 (IntKind.i64.wrap b)) = some (.int .i64 (IntKind.i64.wrap (a + b))) := by
  simp only [binPV, binI, reduceIte, w64_add]

set_option maxHeartbeats 2000000 in
theorem CountW_spec : ∀ (T : TD), T.sm → T.deep ≤ 1000 → ∀ (x : PV) (st : St), IsT T x → call prog (.fn 337 []) [x] st = some (.tup [.int .i64 (IntKind.i64.wrap (T.cnt : Int)), .int .i64 (IntKind.i64.wrap (T.lns : Int)), .int .i64 (T.deep : Int)], st) := by
  refine TD.ind ?_
  intro n ls cs ih hsm hb x st hx
  cases hsm with
  | mk s1 s2 s3 s4 s5 =>
  refine call_of_W prog_337 ?_
  unfold F_posthornref11_Count; dsimp only
  generalize hQ1 : endQ st _ _ = Q0
  obtain ⟨lv, cv, Ls, ys, a1, a2, a3, a4, a5, a6, a7, a8⟩ := strip_T hx
  have hll := len_vs a3
  have hcl := len_vs a6
  rw [a7] at hcl
  have hLl : (Ls.map lV).length = ls.length := by rw [← a4]; simp
  rw [hLl] at hll
  have hll' : lenPV false lv = some (.int .i64 (IntKind.i64.wrap (ls.length : Int))) := by rw [hll, wrap64 (by omega) (by omega)]
  simp only [TD.deep] at hb
  have h1w : IntKind.i64.wrap 1 = 1 := by rw [wrap64 (by omega) (by omega)]
  simp (maxSteps := 1000000) (disch := omega) only [a1, cells3, fa3_1, lcc, hll', qaaz, qabz, qadz, qajz, qalz, evOp, qaoz, qapz, qarz, qatz, qavz,
 ↓reduceIte, Nat.reduceEqDiff, List.append_nil, qawz, Option.map_some, qazz]
  obtain ⟨I, hI⟩ : ∃ I : Nat → Env → St → Prop, I = fun k E S => ∃ i : Nat, k = cs.length - i ∧ i ≤ cs.length ∧ Kept st S ∧ E 1 = .cp [.str n, lv, cv] ∧ E 5 = .int .i64 (IntKind.i64.wrap ((1 + cntL (cs.take i) : Nat) : Int)) ∧ E 6 = .int .i64 (IntKind.i64.wrap ((ls.length + lnsL (cs.take i) : Nat) : Int)) ∧ E 7 = .int .i64 ((1 + deepL (cs.take i) : Nat) : Int) ∧ E 8 = .int .i64 (i : Int) := ⟨_, rfl⟩
  refine W_loop I ?_ (n := cs.length) (by
    rw [hI]; exact ⟨0, rfl, by omega, Kept.start, rfl, by simp [cntL, qavz, h1w], by simp [lnsL, qavz], by simp [deepL, qavz], rfl⟩)
  intro k E S hh
  rw [hI] at hh
  obtain ⟨i, rfl, hi, hk, h1, h5, h6, h7, h8⟩ := hh
  by_cases hlt : i < cs.length
  · obtain ⟨p1, p2, p3⟩ := part_le hlt
    obtain ⟨t1, t2, t3⟩ := take_succ_T hlt
    obtain ⟨la, ca, q1, q2, q3, -, -⟩ := iaddr_T a6 (by omega) (a8 i hlt)
    obtain ⟨c, hc⟩ : ∃ c, c = cs.getD i T0 := ⟨_, rfl⟩
    rw [← hc] at p1 p2 p3 t1 t2 t3 q2 q3
    have hcall := fun S : St => ih c (by rw [hc]; exact getD_mem hlt) (s5 c (by rw [hc]; exact getD_mem hlt)) (by omega) _ S q3
    by_cases hd : deepL (cs.take i) < c.deep
    · have e1 : ((1 + deepL (cs.take i) : Nat) : Int) < ((c.deep + 1 : Nat) : Int) := by omega
      simp (maxSteps := 1000000) (disch := omega) only [h1, h5, h6, h7, h8, fa3_2, lcc, hcl, hlt, q2, ldcp3, hcall, add_w, add_n, e1, loopQ_normal, qaaz, qabz, qacz, qadz, qaez, qajz, qalz, evOp, qaoz, qapz, qaqz, qarz, qatz, qavz,
 ↓reduceIte, Nat.reduceEqDiff, List.map_cons, List.map_nil, Option.map_some, qazz, qbdz, qbhz, qbpz, qbrz, decide_true, Int.ofNat_lt, qcjz, List.getElem?_cons_zero, List.getElem?_cons_succ, Int.reduceToNat]
      refine ⟨cs.length - (i + 1), by omega, ?_⟩
      rw [hI]
      refine ⟨i + 1, rfl, by omega, hk, h1, ?_, ?_, ?_, rfl⟩
      · simp only [qavz, Nat.reduceEqDiff, ↓reduceIte]; rw [t1]; congr 2; omega
      · simp only [qavz, Nat.reduceEqDiff, ↓reduceIte]; rw [t2]; congr 2; omega
      · simp only [qavz, Nat.reduceEqDiff, ↓reduceIte]; rw [t3]; congr 2; omega
    · have e1 : ¬ ((1 + deepL (cs.take i) : Nat) : Int) < ((c.deep + 1 : Nat) : Int) := by omega
      simp (maxSteps := 1000000) (disch := omega) only [h1, h5, h6, h7, h8, fa3_2, lcc, hcl, hlt, q2, ldcp3, hcall, add_w, add_n, e1, loopQ_normal, qaaz, qabz, qacz, qadz, qaez, qajz, qalz, evOp, qaoz, qapz, qaqz, qarz, qatz, qavz,
 ↓reduceIte, Nat.reduceEqDiff, List.map_cons, List.map_nil, Option.map_some, qazz, qbdz, qbhz, qbpz, qbrz, decide_true, decide_false,
 Int.ofNat_lt, Bool.false_eq_true, qcjz, List.getElem?_cons_zero, List.getElem?_cons_succ, Int.reduceToNat]
      refine ⟨cs.length - (i + 1), by omega, ?_⟩
      rw [hI]
      refine ⟨i + 1, rfl, by omega, hk, h1, ?_, ?_, ?_, rfl⟩
      · simp only [qavz, Nat.reduceEqDiff, ↓reduceIte]; rw [t1]; congr 2; omega
      · simp only [qavz, Nat.reduceEqDiff, ↓reduceIte]; rw [t2]; congr 2; omega
      · simp only [qavz, Nat.reduceEqDiff, ↓reduceIte]; rw [h7, t3]; congr 2; omega
  · obtain rfl : i = cs.length := by omega
    rw [List.take_length] at h5 h6 h7
    simp (maxSteps := 1000000) (disch := omega) only [h1, h5, h6, h7, h8, fa3_2, lcc, hcl, hlt, qaaz, qabz, qacz, qagz, qaiz, qajz, qalz, evOp, qaoz, qarz, qatz, qavz,
 ↓reduceIte, Nat.reduceEqDiff, Option.map_some, qazz, qbbz, qbfz, qbhz, qbjz, qbpz, decide_false,
 Int.ofNat_lt, Bool.false_eq_true]
    rw [← hQ1, qblz]
    exact ret3I rfl rfl rfl hk (by simp [TD.cnt]) (by simp [TD.lns]) (by simp [TD.deep])

def smallD (ls : List LnD) : Prop := smallL (ls.map toLn)
def smallT : Nat → TD → Prop
  | 0, _ => False
  | k + 1, T => smallD T.ls ∧ T.cs.length ≤ 70 ∧ T.n.length ≤ 200 ∧ ∀ c ∈ T.cs, smallT k c
noncomputable def greatT (k : Nat) (T : TD) : Bool := @decide (¬ smallT k T) (Classical.propDecidable _)
theorem greatT_t {k : Nat} {T : TD} (h : ¬ smallT k T) : greatT k T = true := by unfold greatT; simp [h]
theorem greatT_f {k : Nat} {T : TD} (h : smallT k T) : greatT k T = false := by unfold greatT; simp [h]
theorem small_of {Ls : List Ln} : smallL Ls ↔ smallD (Ls.map ofLn) := by
  unfold smallD smallL
  rw [List.map_map]
  have hg : ∀ i, i < Ls.length → bndL ((Ls.map (toLn ∘ ofLn)).getD i L0) i = bndL (Ls.getD i L0) i := fun i hi => by
    have : (Ls.map (toLn ∘ ofLn)).getD i L0 = toLn (ofLn (Ls.getD i L0)) := by simp [List.getD, hi]
    rw [this]; rfl
  rw [List.length_map]
  constructor
  · rintro ⟨h1, h2⟩; exact ⟨h1, fun i hi => by rw [hg i hi]; exact h2 i hi⟩
  · rintro ⟨h1, h2⟩; exact ⟨h1, fun i hi => by rw [← hg i hi]; exact h2 i hi⟩
theorem great_of {Ls : List Ln} {ls : List LnD} (h : Ls.map ofLn = ls) : (greatB Ls = true ↔ ¬ smallD ls) ∧ (greatB Ls = false ↔ smallD ls) := by
  subst h
  by_cases hs : smallL Ls
  · have := small_of.1 hs
    rw [great_f hs]; simp [this]
  · have : ¬ smallD (Ls.map ofLn) := fun q => hs (small_of.2 q)
    rw [great_t hs]; simp [this]
theorem small_okD {ls : List LnD} (h : smallD ls) : ls.length ≤ 60 ∧ ∀ d ∈ ls, okD d := by
  obtain ⟨h1, h2⟩ := h
  rw [List.length_map] at h1
  refine ⟨h1, fun d hd => ?_⟩
  obtain ⟨i, hi, rfl⟩ := List.mem_iff_getElem.1 hd
  have := h2 i (by simpa using hi)
  have he : (ls.map toLn).getD i L0 = toLn ls[i] := by simp [List.getD, hi]
  rw [he] at this
  obtain ⟨b1, b2, b3, b4, b5⟩ := this
  refine ⟨b2, b3, b1, fun p hp => ?_⟩
  obtain ⟨k, hk, rfl⟩ := List.mem_iff_getElem.1 hp
  have := b5 k hk
  simpa [toLn, List.getD, hk] using this
theorem small_sm : ∀ (k : Nat) (T : TD), smallT k T → T.sm ∧ T.deep ≤ k := by
  intro k
  induction k with
  | zero => intro T h; exact h.elim
  | succ k ih =>
    intro T h
    obtain ⟨n, ls, cs⟩ := T
    obtain ⟨h1, h2, h3, h4⟩ := h
    obtain ⟨g1, g2⟩ := small_okD h1
    simp only [TD.cs, TD.n, TD.ls] at *
    refine ⟨.mk (by omega) (by omega) g2 (by omega) (fun c hc => (ih c (h4 c hc)).1), ?_⟩
    have : ∀ cs : List TD, (∀ c ∈ cs, c.deep ≤ k) → deepL cs ≤ k := by
      intro cs
      induction cs with
      | nil => intro _; simp [deepL]
      | cons c r ih2 =>
        intro h
        have h1 := h c (by simp)
        have h2 := ih2 (fun d hd => h d (by simp [hd]))
        simp only [deepL]; omega
    have := this cs (fun c hc => (ih c (h4 c hc)).2)
    simp only [TD.deep]; omega
theorem small_cnt : ∀ (k : Nat) (T : TD), smallT k T → T.cnt ≤ 71 ^ T.deep ∧ T.lns ≤ 60 * T.cnt := by
  intro k
  induction k with
  | zero => intro T h; exact h.elim
  | succ k ih =>
    intro T h
    obtain ⟨n, ls, cs⟩ := T
    obtain ⟨h1, h2, h3, h4⟩ := h
    obtain ⟨g1, -⟩ := small_okD h1
    simp only [TD.cs, TD.ls] at *
    have key : ∀ (M : Nat) (ds : List TD), (∀ c ∈ ds, c.cnt ≤ 71 ^ c.deep ∧ c.lns ≤ 60 * c.cnt) → deepL ds ≤ M → cntL ds ≤ ds.length * 71 ^ M ∧ lnsL ds ≤ 60 * cntL ds := by
      intro M ds
      induction ds with
      | nil => intro _ _; simp [cntL, lnsL]
      | cons c r ih2 =>
        intro h hd
        simp only [deepL] at hd
        have h1 := h c (by simp)
        have h2 := ih2 (fun d hd => h d (by simp [hd])) (by omega)
        have hp : 71 ^ c.deep ≤ 71 ^ M := Nat.pow_le_pow_right (by omega) (by omega)
        simp only [cntL, lnsL, List.length_cons, Nat.succ_mul]
        omega
    obtain ⟨k1, k2⟩ := key (deepL cs) cs (fun c hc => ih c (h4 c hc)) (Nat.le_refl _)
    have k3 : cs.length * 71 ^ deepL cs ≤ 70 * 71 ^ deepL cs := Nat.mul_le_mul_right _ h2
    have k4 : 1 ≤ 71 ^ deepL cs := Nat.pow_pos (by omega)
    simp only [TD.cnt, TD.lns, TD.deep]
    rw [Nat.add_comm 1 (deepL cs), Nat.pow_succ]
    omega

inductive TD.rw : TD → Prop
  | mk {n : Bs} {ls : List LnD} {cs : List TD} (h1 : n.length ≤ 4000000000000000000) (h2 : ls.length ≤ 9223372036854775807) (h3 : ∀ d ∈ ls, d.1.length ≤ 4000000000000000000 ∧ d.2.2.length ≤ 4000000000000000000 ∧ d.2.1.length ≤ 9223372036854775807 ∧ ∀ p ∈ d.2.1, p.1.length ≤ 4000000000000000000 ∧ p.2.length ≤ 4000000000000000000) (h4 : cs.length ≤ 9223372036854775807) (h5 : ∀ c ∈ cs, c.rw) : TD.rw (.mk n ls cs)
set_option maxHeartbeats 4000000 in
theorem Great11_spec : ∀ (k : Nat) (T : TD), T.rw → k ≤ 1000 → ∀ (x : PV) (st : St), IsT T x → call prog (.fn 316 []) [x, .int .i64 (k : Int)] st = some (.bool (greatT k T), st) := by
  intro k
  induction k with
  | zero =>
    intro T hrw hk x st hx
    refine call_of_W prog_316 ?_
    unfold F_posthornlaw11_Great; dsimp only
    generalize hQ1 : endQ st _ _ = Q0
    obtain ⟨u, hu1, hu2, hu3⟩ := strip_I hx
    obtain ⟨lv, cv, hu, -, -⟩ := hu2.agg
    rw [hu] at hu1
    simp (maxSteps := 1000000) (disch := omega) only [hu1, cells3, show ((0 : Nat) : Int) = 0 from rfl, qaaz, qabz, qacz, qaiz, qajz, qakz, qalz, qamz, qanz, evOp, qaoz, qapz, qarz, qatz, qavz,
 ↓reduceIte, Nat.reduceEqDiff, List.append_nil, qawz, qaxz, Option.map_some, qazz, qbaz, qbhz, qbqz, beq_false, decide_true, Bool.false_eq_true, Int.reduceLE, Bool.not_true]
    rw [← hQ1, qblz]
    exact retB rfl Kept.start (greatT_t (fun h => by simp [smallT] at h)).symm
  | succ k ih =>
    intro T hrw hk x st hx
    obtain ⟨n, ls, cs⟩ := T
    cases hrw with
    | mk r1 r2 r3 r4 r5 =>
    refine call_of_W prog_316 ?_
    unfold F_posthornlaw11_Great; dsimp only
    generalize hQ1 : endQ st _ _ = Q0
    obtain ⟨lv, cv, Ls, ys, a1, a2, a3, a4, a5, a6, a7, a8⟩ := strip_T hx
    have hcl := len_vs a6
    rw [a7] at hcl
    have hLl : Ls.length = ls.length := by rw [← a4]; simp
    have hraw : ∀ L ∈ Ls, L.raw := fun L hL => by
      have h := r3 (ofLn L) (by rw [← a4]; exact List.mem_map.2 ⟨L, hL, rfl⟩)
      have hg := a5 L hL
      exact ⟨hg.1, (vs_leaf hg.1).2, (vs_leaf hg.1).1, hg.2, h.1, h.2.1, h.2.2.1, h.2.2.2⟩
    have hG := fun S : St => Great10_spec (st := S) a3 hraw (by omega)
    obtain ⟨g1, g2⟩ := great_of a4
    have yes : ∀ (E : Env) (S : St), Kept st S → ¬ smallT (k + 1) (.mk n ls cs) → E 4 = .bool true → Q0 .ret E S := fun E S hk h h4 => by
      rw [← hQ1, qblz]; exact retB h4 hk (greatT_t h).symm
    have no : ∀ (E : Env) (S : St), Kept st S → smallT (k + 1) (.mk n ls cs) → E 4 = .bool false → Q0 .ret E S := fun E S hk h h4 => by
      rw [← hQ1, qblz]; exact retB h4 hk (greatT_f h).symm
    have e0 : ¬ ((k + 1 : Nat) : Int) ≤ 0 := by omega
    cases hgb : greatB Ls with
    | true =>
      rw [hgb] at hG
      simp (maxSteps := 1000000) (disch := omega) only [a1, cells3, e0, fa3_1, lcc, hG, qaaz, qabz, qacz, qaiz, qajz, qakz, qalz, qamz, qanz, evOp, qaoz, qapz, qaqz, qarz, qatz, qavz,
 ↓reduceIte, Nat.reduceEqDiff, List.append_nil, List.map_cons, List.map_nil, qawz, qaxz, Option.map_some, qazz, qbaz, qbhz, qbqz, beq_false, decide_false,
 Bool.false_eq_true, Bool.not_true, Bool.not_false]
      exact yes _ _ Kept.start (fun q => g1.1 hgb q.1) rfl
    | false =>
    rw [hgb] at hG
    have hsd := g2.1 hgb
    by_cases hc70 : 70 < cs.length
    · have e1 : (70 : Int) < (cs.length : Int) := by omega
      simp (maxSteps := 1000000) (disch := omega) only [a1, cells3, e0, fa3_1, fa3_2, lcc, hG, hcl, e1, qaaz, qabz, qacz, qaiz, qajz, qakz, qalz, qamz, qanz, evOp, qaoz, qapz, qaqz, qarz, qatz, qavz,
 ↓reduceIte, Nat.reduceEqDiff, List.append_nil, List.map_cons, List.map_nil, qawz, qaxz, Option.map_some, qazz, qbaz, qbhz, qbqz, qbrz, beq_false, decide_true, decide_false,
 Bool.false_eq_true, Bool.not_true, Bool.not_false]
      exact yes _ _ Kept.start (fun q => by have := q.2.1; simp only [TD.cs] at this; omega) rfl
    have e1 : ¬ (70 : Int) < (cs.length : Int) := by omega
    by_cases hn200 : 200 < n.length
    · have e2 : (200 : Int) < (n.length : Int) := by omega
      simp (maxSteps := 1000000) (disch := omega) only [a1, cells3, e0, fa3_0, fa3_1, fa3_2, lcc, hG, hcl, e1, len_s, e2, qaaz, qabz, qacz, qaiz, qajz, qakz, qalz, qamz, qanz, evOp, qaoz, qapz, qaqz, qarz, qatz, qavz,
 ↓reduceIte, Nat.reduceEqDiff, List.append_nil, List.map_cons, List.map_nil, qawz, qaxz, Option.map_some, qazz, qbaz, qbhz, qbqz, qbrz, beq_false, decide_true, decide_false,
 Bool.false_eq_true, Bool.not_false]
      exact yes _ _ Kept.start (fun q => by have := q.2.2.1; simp only [TD.n] at this; omega) rfl
    have e2 : ¬ (200 : Int) < (n.length : Int) := by omega
    simp (maxSteps := 1000000) (disch := omega) only [a1, cells3, e0, fa3_0, fa3_1, fa3_2, lcc, hG, hcl, e1, len_s, e2, qaaz, qabz, qacz, qadz, qaez, qajz, qakz, qalz, qamz, qanz, evOp, qaoz, qapz, qaqz, qarz, qatz, qavz,
 ↓reduceIte, Nat.reduceEqDiff, List.append_nil, List.map_cons, List.map_nil, qawz, qaxz, Option.map_some, qazz, qbhz, qbqz, qbrz, beq_false, decide_false,
 Bool.false_eq_true, Bool.not_false]
    obtain ⟨I, hI⟩ : ∃ I : Nat → Env → St → Prop, I = fun m E S => ∃ i : Nat, m = cs.length - i ∧ i ≤ cs.length ∧ Kept st S ∧ (∀ j, j < i → smallT k (cs.getD j T0)) ∧ E 1 = .int .i64 ((k + 1 : Nat) : Int) ∧ E 2 = .cp [.str n, lv, cv] ∧ E 5 = .int .i64 (i : Int) := ⟨_, rfl⟩
    refine W_loop I ?_ (n := cs.length) (by
      rw [hI]; exact ⟨0, rfl, by omega, Kept.start, fun j hj => by omega, rfl, rfl, rfl⟩)
    intro m E S hh
    rw [hI] at hh
    obtain ⟨i, rfl, hi, hk', hall, h1, h2, h5⟩ := hh
    by_cases hlt : i < cs.length
    · obtain ⟨la, ca, q1, q2, q3, -, -⟩ := iaddr_T a6 (by omega) (a8 i hlt)
      obtain ⟨c, hc⟩ : ∃ c, c = cs.getD i T0 := ⟨_, rfl⟩
      rw [← hc] at q2 q3
      have hcm : c ∈ cs := by rw [hc]; exact getD_mem hlt
      have hcall := fun S : St => ih c (r5 c hcm) (by omega) _ S q3
      by_cases hsc : smallT k c
      · rw [greatT_f hsc] at hcall
        simp (maxSteps := 1000000) (disch := omega) only [h1, h2, h5, fa3_2, lcc, hcl, hlt, q2, ldcp3, sub_n, Int.reduceToNat, Nat.add_sub_cancel, hcall, add_n, loopQ_normal, qaaz, qabz, qacz, qadz, qaez, qajz, qalz, evOp, qaoz, qapz, qaqz, qarz, qatz, qavz,
 ↓reduceIte, Nat.reduceEqDiff, List.map_cons, List.map_nil, Option.map_some, qazz, qbdz, qbhz, qbpz, decide_true, Int.ofNat_lt, Bool.false_eq_true, Int.reduceToNat]
        refine ⟨cs.length - (i + 1), by omega, ?_⟩
        rw [hI]
        refine ⟨i + 1, rfl, by omega, hk', fun j hj => ?_, h1, h2, rfl⟩
        by_cases hji : j = i
        · subst hji; rw [← hc]; exact hsc
        · exact hall j (by omega)
      · rw [greatT_t hsc] at hcall
        simp (maxSteps := 1000000) (disch := omega) only [h1, h2, h5, fa3_2, lcc, hcl, hlt, q2, ldcp3, sub_n, Int.reduceToNat, Nat.add_sub_cancel, hcall, qaaz, qabz, qacz, qadz, qaez, qaiz, qajz, qalz, evOp, qaoz, qapz, qaqz, qarz, qatz, qavz,
 ↓reduceIte, Nat.reduceEqDiff, List.map_cons, List.map_nil, Option.map_some, qazz, qbaz, qbez, qbhz, qbiz, qbpz, decide_true, Int.ofNat_lt, Int.reduceToNat]
        exact yes _ _ hk' (fun q => hsc (q.2.2.2 c hcm)) rfl
    · obtain rfl : i = cs.length := by omega
      simp (maxSteps := 1000000) (disch := omega) only [h2, h5, fa3_2, lcc, hcl, hlt, qaaz, qabz, qacz, qagz, qaiz, qajz, qalz, evOp, qaoz, qapz, qarz, qatz, qavz,
 ↓reduceIte, Nat.reduceEqDiff, Option.map_some, qazz, qbbz, qbfz, qbhz, qbjz, qbpz, decide_false,
 Int.ofNat_lt, Bool.false_eq_true]
      refine no _ _ hk' ⟨hsd, by simp only [TD.cs]; omega, by simp only [TD.n]; omega, fun c hc => ?_⟩ rfl
      obtain ⟨j, hj, rfl⟩ := List.mem_iff_getElem.1 hc
      have hj' : j < cs.length := hj
      have := hall j hj'
      have e : cs.getD j T0 = (TD.mk n ls cs).cs[j] := by simp [TD.cs, List.getD, hj']
      rw [e] at this; exact this

noncomputable def fewT (T : TD) : Bool := decide (IntKind.i64.wrap (T.cnt : Int) ≤ 80)
theorem few_spec {T : TD} {x : PV} (hsm : T.sm) (hd : T.deep ≤ 1000) (hx : IsT T x) : call prog (.fn 317 []) [x] st = some (.bool (fewT T), st) := by
  refine call_of_W prog_317 ?_
  unfold F_posthornlaw11_few; dsimp only
  generalize hQ1 : endQ st _ _ = Q0
  obtain ⟨u, hu1, hu2, hu3⟩ := strip_I hx
  obtain ⟨lv, cv, hu, -, -⟩ := hu2.agg
  rw [hu] at hu1 hu2
  have hcnt := fun S : St => CountW_spec T hsm hd _ S hu2
  simp (maxSteps := 1000000) (disch := omega) only [hu1, cells3, lcc3, hcnt, qaaz, qabz, qaiz, qajz, qalz, evOp, qaoz, qapz, qaqz, qarz, qatz, qavz,
 ↓reduceIte, Nat.reduceEqDiff, List.append_nil, List.map_cons, List.map_nil, qawz, Option.map_some, qazz, qbqz, qcjz, List.getElem?_cons_zero, List.getElem?_cons_succ]
  rw [← hQ1, qblz]
  exact retB rfl Kept.start rfl
theorem rTRightW_spec {T : TD} {x : PV} {k : Nat} (hs : smallT k T) (hk : k ≤ 1000) (hx : IsT T x) : call prog (.fn 322 []) [x] st = some (.bool (rightD T), st) := by
  obtain ⟨hsm, hdk⟩ := small_sm k T hs
  obtain ⟨c1, c2⟩ := small_cnt k T hs
  refine call_of_W prog_322 ?_
  unfold F_posthornref11_Right; dsimp only
  generalize hQ1 : endQ st _ _ = Q0
  obtain ⟨u, hu1, hu2, hu3⟩ := strip_I hx
  obtain ⟨lv, cv, hu, -, -⟩ := hu2.agg
  rw [hu] at hu1 hu2
  have hcnt := fun S : St => CountW_spec T hsm (by omega) _ S hu2
  have hfit := fun S : St => fits_spec T hsm _ S hu2
  have fin : ∀ (E : Env) (S : St) (b : Bool), Kept st S → b = rightD T → E 2 = .bool b → Q0 .ret E S := fun E S b k h h4 => by
    rw [← hQ1, qblz]; exact retB h4 k h
  have hR : rightD T = (decide (T.cnt ≤ 64) && decide (T.lns ≤ 8192) && decide (T.deep ≤ 8) && T.fit) := rfl
  by_cases h3 : T.deep ≤ 8
  · have hp : 71 ^ T.deep ≤ 71 ^ 8 := Nat.pow_le_pow_right (by omega) h3
    have hp8 : (71 : Nat) ^ 8 = 645753531245761 := by decide
    have w1 : IntKind.i64.wrap (T.cnt : Int) = (T.cnt : Int) := wrap64 (by omega) (by omega)
    have w2 : IntKind.i64.wrap (T.lns : Int) = (T.lns : Int) := wrap64 (by omega) (by omega)
    rw [w1, w2] at hcnt
    have e3 : (T.deep : Int) ≤ 8 := by omega
    by_cases h1 : T.cnt ≤ 64
    · have e1 : (T.cnt : Int) ≤ 64 := by omega
      by_cases h2 : T.lns ≤ 8192
      · have e2 : (T.lns : Int) ≤ 8192 := by omega
        simp (maxSteps := 1000000) (disch := omega) only [hu1, cells3, lcc3, hcnt, e1, e2, e3, hfit, qaaz, qabz, qaiz, qajz, qakz, qalz, qamz, qanz, evOp, qaoz, qapz, qaqz, qarz, qatz, qavz,
 ↓reduceIte, Nat.reduceEqDiff, List.append_nil, List.map_cons, List.map_nil, qawz, Option.map_some, qazz, qbqz, beq_true, decide_true, qcjz, List.getElem?_cons_zero, List.getElem?_cons_succ]
        exact fin _ _ _ Kept.start (by rw [hR]; simp [h1, h2, h3]) rfl
      · have e2 : ¬ (T.lns : Int) ≤ 8192 := by omega
        simp (maxSteps := 1000000) (disch := omega) only [hu1, cells3, lcc3, hcnt, e1, e2, qaaz, qabz, qaiz, qajz, qakz, qalz, qamz, qanz, evOp, qaoz, qapz, qaqz, qarz, qatz, qavz,
 ↓reduceIte, Nat.reduceEqDiff, List.append_nil, List.map_cons, List.map_nil, qawz, Option.map_some, qazz, qbqz, beq_true, decide_true, decide_false,
 Bool.false_eq_true, qcjz, List.getElem?_cons_zero, List.getElem?_cons_succ]
        exact fin _ _ _ Kept.start (by rw [hR]; simp [h1, h2, h3]) rfl
    · have e1 : ¬ (T.cnt : Int) ≤ 64 := by omega
      simp (maxSteps := 1000000) (disch := omega) only [hu1, cells3, lcc3, hcnt, e1, qaaz, qabz, qaiz, qajz, qakz, qalz, qamz, qanz, evOp, qaoz, qapz, qaqz, qarz, qatz, qavz,
 ↓reduceIte, Nat.reduceEqDiff, List.append_nil, List.map_cons, List.map_nil, qawz, Option.map_some, qazz, qbqz, beq_true, decide_false,
 Bool.false_eq_true, qcjz, List.getElem?_cons_zero, List.getElem?_cons_succ]
      exact fin _ _ _ Kept.start (by rw [hR]; simp [h1]) rfl
  · have e3 : ¬ (T.deep : Int) ≤ 8 := by omega
    have hf : rightD T = false := by rw [hR]; simp [h3]
    by_cases h1 : IntKind.i64.wrap (T.cnt : Int) ≤ 64
    · by_cases h2 : IntKind.i64.wrap (T.lns : Int) ≤ 8192
      · simp (maxSteps := 1000000) (disch := omega) only [hu1, cells3, lcc3, hcnt, h1, h2, e3, qaaz, qabz, qaiz, qajz, qakz, qalz, qamz, qanz, evOp, qaoz, qapz, qaqz, qarz, qatz, qavz,
 ↓reduceIte, Nat.reduceEqDiff, List.append_nil, List.map_cons, List.map_nil, qawz, Option.map_some, qazz, qbqz, beq_true, decide_true, decide_false,
 Bool.false_eq_true, qcjz, List.getElem?_cons_zero, List.getElem?_cons_succ]
        exact fin _ _ _ Kept.start hf.symm rfl
      · simp (maxSteps := 1000000) (disch := omega) only [hu1, cells3, lcc3, hcnt, h1, h2, qaaz, qabz, qaiz, qajz, qakz, qalz, qamz, qanz, evOp, qaoz, qapz, qaqz, qarz, qatz, qavz,
 ↓reduceIte, Nat.reduceEqDiff, List.append_nil, List.map_cons, List.map_nil, qawz, Option.map_some, qazz, qbqz, beq_true, decide_true, decide_false,
 Bool.false_eq_true, qcjz, List.getElem?_cons_zero, List.getElem?_cons_succ]
        exact fin _ _ _ Kept.start hf.symm rfl
    · simp (maxSteps := 1000000) (disch := omega) only [hu1, cells3, lcc3, hcnt, h1, qaaz, qabz, qaiz, qajz, qakz, qalz, qamz, qanz, evOp, qaoz, qapz, qaqz, qarz, qatz, qavz,
 ↓reduceIte, Nat.reduceEqDiff, List.append_nil, List.map_cons, List.map_nil, qawz, Option.map_some, qazz, qbqz, beq_true, decide_false,
 Bool.false_eq_true, qcjz, List.getElem?_cons_zero, List.getElem?_cons_succ]
      exact fin _ _ _ Kept.start hf.symm rfl
theorem right_lines {T : TD} (h : rightD T = true) : T.lines.length ≤ 10000 := by
  simp only [rightD, Bool.and_eq_true, decide_eq_true_eq] at h
  rw [lines_cnt]; omega
theorem tWriteA_spec {T : TD} {x : PV} (hsm : T.sm) (hx : IsT T x) : call prog (.fn 319 []) [x] st = some (outW st (wrT T)) := by
  cases hr : rightD T with
  | true => exact tWrite_spec hsm hx (by have := right_lines hr; omega)
  | false =>
    refine call_of_W prog_319 ?_
    unfold F_tree_Write; dsimp only
    obtain ⟨u, hu1, hu2, hu3⟩ := strip_I hx
    obtain ⟨lv, cv, hu, -, -⟩ := hu2.agg
    have hR := fun S : St => tRight_spec (st := S) hsm hu2
    rw [hu] at hu1 hu2 hR
    rw [hr] at hR
    have hw : wrT T = (100, []) := by simp [wrT, hr]
    rw [hw]
    simp (maxSteps := 1000000) (disch := omega) only [hu1, cells3, lcc3, hR, qaaz, qabz, qacz, qaiz, qajz, qalz, evOp, qaoz, qapz, qaqz, qarz, qatz, qavz,
 ↓reduceIte, Nat.reduceEqDiff, List.append_nil, List.map_cons, List.map_nil, qawz, Option.map_some, qazz, qbaz, qbhz, qblz, qcfz, Bool.not_false]
    exact ⟨.tup [.nils, .int .i64 100], rfl, Kept.start.leave' ⟨fun _ => rfl, fun _ _ => rfl⟩⟩
end Go.Ab
/-
  The document's lines of a component, and how it writes it.
-/
namespace Go.Ab
set_option maxRecDepth 20000
variable {st s : St} {e : Env}

set_option maxHeartbeats 4000000 in
theorem rlines_spec : ∀ (T : TD), T.sm → ∀ (x : PV) (st : St), IsT T x → T.lines.length ≤ 1000000000 →
    ∃ Ms, call prog (.fn 340 []) [x] st = some (.sl 3 (.own st.toks.length) (Ms.map lV), st.tok1) ∧ Ms.map ofLn = T.lines ∧ okMs Ms := by
  refine TD.ind ?_
  intro n ls cs ih hsm x st hx hlen
  cases hsm with
  | mk s1 s2 s3 s4 s5 =>
  have hcore : ∃ r, call prog (.fn 340 []) [x] st = some r ∧ ∃ Ms, r = (.sl 3 (.own st.toks.length) (Ms.map lV), st.tok1) ∧ Ms.map ofLn = TD.lines (.mk n ls cs) ∧ okMs Ms := by
    refine call_ex prog_340 ?_
    unfold F_posthornref11_Lines; dsimp only
    generalize hQ1 : endX st _ _ = Q0
    obtain ⟨lv, cv, Ls, ys, a1, a2, a3, a4, a5, a6, a7, a8⟩ := strip_T hx
    have hcl := len_vs a6
    rw [a7] at hcl
    have hLl : Ls.length = ls.length := by rw [← a4]; simp
    simp only [TD.lines, List.length_append, List.length_cons, List.length_nil] at hlen
    have fin : ∀ (E : Env) (S : St) (w : PV) (Ns : List Ln), Kept st S → Own st S 3 w (Ns.map lV) → Ns ≠ [] → Ns.map ofLn = TD.lines (.mk n ls cs) → okMs Ns → E 2 = w → Q0 .ret E S := by
      intro E S w Ns hk ho hne hm hokN e4
      rw [← hQ1]
      have hlv : leave st S w = (newSl st 3 (Ns.map lV), newS st (Ns.map lV).isEmpty) := hk.leaveOwn1 ho (fun h => absurd (by simpa using h) hne)
      refine ⟨.inr rfl, w, ?_, Ns, ?_, hm, hokN⟩
      · rcases ho with ⟨rfl, _⟩ | ⟨i, rfl, _⟩ <;> simp [resOf, rvAll, rv1, e4, notTup, packRes]
      · rw [hlv]
        have hne2 : ¬ Ns.map lV = [] := by simpa using hne
        have hem : (Ns.map lV).isEmpty = false := by cases Ns with
          | nil => exact absurd rfl hne
          | cons _ _ => rfl
        unfold newSl newS
        rw [if_neg hne2, hem]; rfl
    have hb1 : buildCells [.str [], .nils, .str []] [(0, 1, .str [66, 69, 71, 73, 78]), (2, 1, .str n)] = some [.str begS, .nils, .str n] := rfl
    have hb2 : buildCells [.str [], .nils, .str []] [(0, 1, .str [69, 78, 68]), (2, 1, .str n)] = some [.str endS, .nils, .str n] := rfl
    refine W_cut (fun E S => Kept st S ∧ E 1 = .cp [.str n, lv, cv]) ?_ ?_
    · simp (maxSteps := 1000000) (disch := omega) only [a1, cells3, qabz, qajz, qalz, evOp, qaoz, qapz, qarz, qatz, qavz,
 ↓reduceIte, Nat.reduceEqDiff, qawz, Option.map_some, true_and, and_true]
      exact Kept.start
    rintro e S ⟨hk, h1⟩
    refine W_cut (fun E S => Kept st S ∧ E 1 = .cp [.str n, lv, cv] ∧ E 3 = .nils) ?_ ?_
    · simp (maxSteps := 1000000) (disch := omega) only [h1, qabz, qajz, qalz, evOp, qapz, qarz, qatz, qavz,
 ↓reduceIte, Nat.reduceEqDiff, true_and, and_true]
      exact hk
    clear hk h1
    rintro e S ⟨hk, h1, h3⟩
    refine W_cut (fun E S => ∃ w, Kept st S ∧ Own st S 3 w [lV (bL begS n)] ∧ E 1 = .cp [.str n, lv, cv] ∧ E 3 = w) ?_ ?_
    · obtain ⟨w, S', q1, q2, q3, q4⟩ := hk.appV (u := lV (bL begS n)) (w := .undef) (v := .nils) (esz := 3) (xs := []) (.inl ⟨rfl, rfl⟩) (by simp [room])
      simp (maxSteps := 1000000) (disch := omega) only [h1, h3, fa3_0, lcc, hb1, lit_bL, freshT_eq, q1, qabz, qajz, qalz, evOp, qaoz, qapz, qarz, qatz, qavz,
 ↓reduceIte, Nat.reduceEqDiff, List.map_cons, List.map_nil, Option.map_some, Bool.false_eq_true, true_and]
      exact ⟨w, q2, by simpa using q3, rfl⟩
    clear hk h1 h3
    rintro e S ⟨w0, hk, ho, h1, h3⟩
    obtain ⟨Ns, hNs⟩ : ∃ Ns, Ns = bL begS n :: Ls := ⟨_, rfl⟩
    have hNsl : Ns.length = 1 + ls.length := by rw [hNs]; simp; omega
    have hNso : Ns.map ofLn = (begS, [], n) :: ls := by rw [hNs]; simp [a4, bL, ofLn]
    have hNsg : okMs Ns := by
      intro M hM
      rw [hNs] at hM
      rcases List.mem_cons.1 hM with rfl | hM
      · exact bL_good
      · exact a5 M hM
    refine W_cut (fun E S => ∃ w, Kept st S ∧ Own st S 3 w (Ns.map lV) ∧ E 1 = .cp [.str n, lv, cv] ∧ E 3 = w) ?_ ?_
    · obtain ⟨w, S', q1, q2, q3, q4, -⟩ := hk.appG ho a3 (by simp [room]; omega)
      simp (maxSteps := 1000000) (disch := omega) only [h1, h3, fa3_1, lcc, q1, qabz, qajz, qalz, evOp, qaoz, qarz, qatz, qavz,
 ↓reduceIte, Nat.reduceEqDiff, Option.map_some, Bool.false_eq_true, true_and]
      exact ⟨w, q2, by rw [hNs]; simpa using q3, rfl⟩
    clear hk ho h1 h3
    rintro e S ⟨w, hk, ho, h1, h3⟩
    obtain ⟨I, hI⟩ : ∃ I : Nat → Env → St → Prop, I = fun m E S => ∃ (i : Nat) (w : PV) (Rs : List Ln), m = cs.length - i ∧ i ≤ cs.length ∧ Kept st S ∧ Own st S 3 w (Rs.map lV) ∧ Rs ≠ [] ∧ Rs.map ofLn = (begS, [], n) :: (ls ++ linesL (cs.take i)) ∧ okMs Rs ∧ E 1 = .cp [.str n, lv, cv] ∧ E 3 = w ∧ E 4 = .int .i64 (i : Int) := ⟨_, rfl⟩
    refine W_cut (I 0) ?_ ?_
    · rw [qaaz]
      simp (maxSteps := 1000000) (disch := omega) only [qabz, qajz, qalz, evOp, qapz, qarz, qatz, qazz]
      rw [qadz]
      refine W_loop I ?_ (n := cs.length) (by
        rw [hI]
        exact ⟨0, w, Ns, rfl, by omega, hk, ho, by intro q; rw [q] at hNsl; simp at hNsl; omega, by rw [hNso]; simp [linesL], hNsg, h1, h3, rfl⟩)
      clear hk ho h1 h3
      intro m E S hh
      rw [hI] at hh
      obtain ⟨i, w, Rs, rfl, hi, hk, ho, hne, hro, hrg, h1, h3, h4⟩ := hh
      by_cases hlt : i < cs.length
      · obtain ⟨la, ca, q1, q2, q3, q4, q5⟩ := iaddr_T a6 (by omega) (a8 i hlt)
        obtain ⟨d, hd⟩ : ∃ d, d = cs.getD i T0 := ⟨_, rfl⟩
        rw [← hd] at q2 q3
        have hdm : d ∈ cs := by rw [hd]; exact getD_mem hlt
        have hsucc : linesL (cs.take (i + 1)) = linesL (cs.take i) ++ d.lines := by rw [take_snoc (d := T0) hlt, linesL_app, ← hd]; simp [linesL]
        have hle : (linesL (cs.take i)).length + d.lines.length ≤ (linesL cs).length := by
          have e : cs = cs.take (i + 1) ++ cs.drop (i + 1) := (List.take_append_drop _ _).symm
          have h1 := congrArg (fun z => (linesL z).length) e
          simp only [linesL_app, List.length_append, hsucc] at h1
          omega
        have hRl : Rs.length = 1 + ls.length + (linesL (cs.take i)).length := by
          have := congrArg List.length hro
          simp at this; omega
        obtain ⟨Rs', c1, c2, c3⟩ := ih d hdm (s5 d hdm) _ S q3 (by omega)
        have hRl' : Rs'.length = d.lines.length := by rw [← c2]; simp
        obtain ⟨w', S', z1, z2, z3, z4, -⟩ := hk.tok1.appG (y := .sl 3 (.own S.toks.length) (Rs'.map lV)) (ys := Rs'.map lV) ho.tok1 (by simp [PV.vs]) (by simp [room]; omega)
        simp (maxSteps := 1000000) (disch := omega) only [h1, h3, h4, fa3_2, lcc, hcl, hlt, q2, ldcp3, c1, z1, add_n, loopQ_normal, qaaz, qabz, qacz, qadz, qaez, qajz, qalz, evOp, qaoz, qapz, qaqz, qarz, qatz, qavz,
 ↓reduceIte, Nat.reduceEqDiff, List.map_cons, List.map_nil, Option.map_some, qazz, qbdz, qbhz, qbpz, decide_true, Int.ofNat_lt, Bool.false_eq_true, Int.reduceToNat]
        refine ⟨cs.length - (i + 1), by omega, ?_⟩
        rw [hI]
        refine ⟨i + 1, w', Rs ++ Rs', rfl, by omega, z2, by simpa using z3, by simp [hne], by rw [List.map_append, hro, c2, hsucc]; simp, ?_, h1, rfl, rfl⟩
        intro M hM
        rcases List.mem_append.1 hM with hM | hM
        · exact hrg M hM
        · exact c3 M hM
      · obtain rfl : i = cs.length := by omega
        simp (maxSteps := 1000000) (disch := omega) only [h1, h4, fa3_2, lcc, hcl, hlt, qaaz, qabz, qacz, qagz, qajz, qalz, evOp, qaoz, qarz, qatz, qavz,
 ↓reduceIte, Nat.reduceEqDiff, Option.map_some, qazz, qbbz, qbfz, qbhz, qbjz, qbpz, decide_false,
 Int.ofNat_lt, Bool.false_eq_true, true_and]
        rw [hI]
        exact ⟨cs.length, w, Rs, by omega, hi, hk, ho, hne, hro, hrg, h1, h3, h4⟩
    clear hk ho h1 h3
    rintro e S hh
    rw [hI] at hh
    obtain ⟨i, w, Rs, hii, hi, hk, ho, hne, hro, hrg, h1, h3, -⟩ := hh
    obtain rfl : i = cs.length := by omega
    rw [List.take_length] at hro
    have hRl : Rs.length = 1 + ls.length + (linesL cs).length := by
      have := congrArg List.length hro
      simp at this; omega
    obtain ⟨w', s', q1, q2, q3, q4⟩ := hk.appV (u := lV (bL endS n)) (w := .undef) ho (by simp [room]; omega)
    simp (maxSteps := 1000000) (disch := omega) only [h1, h3, fa3_0, lcc, hb2, lit_bL, freshT_eq, q1, qaaz, qabz, qaiz, qajz, qalz, evOp, qaoz, qapz, qarz, qatz, qavz,
 ↓reduceIte, Nat.reduceEqDiff, List.map_cons, List.map_nil, Option.map_some, qazz, Bool.false_eq_true]
    refine fin _ _ w' (Rs ++ [bL endS n]) q2 (by simpa using q3) (by simp) ?_ ?_ rfl
    · rw [List.map_append, hro]
      simp [TD.lines, bL, ofLn]
    · intro M hM
      rcases List.mem_append.1 hM with hM | hM
      · exact hrg M hM
      · simp only [List.mem_singleton] at hM; subst hM; exact bL_good
  obtain ⟨r, h1, Ms', h2, h3, h4⟩ := hcore
  exact ⟨Ms', by rw [h1, h2], h3, h4⟩

set_option maxHeartbeats 4000000 in
theorem rtWrite_spec {T : TD} {x : PV} {k : Nat} (hs : smallT k T) (hk : k ≤ 1000) (hx : IsT T x) : call prog (.fn 320 []) [x] st = some (outW st (wrT T)) := by
  obtain ⟨hsm, -⟩ := small_sm k T hs
  refine call_of_W prog_320 ?_
  unfold F_posthornref11_Write; dsimp only
  generalize hQ1 : endQ st _ _ = Q0
  have fin : ∀ (E : Env) (S : St) (v : PV) (c : Int) (B : Bs), Kept st S → Mine st S v B → (B = [] → v = .nils) → wrT T = (c, B) → E 2 = v → E 3 = .int .i64 c → Q0 .ret E S := by
    intro E S v c B hk hm hn hw e2 e3
    rw [← hQ1, qblz, hw]
    refine ⟨.tup [v, .int .i64 c], ?_, leave_outW hk hm hn⟩
    obtain ⟨⟨rfl, _⟩ | ⟨i, rfl, _⟩, _⟩ := hm <;> simp [resOf, rvAll, rv1, e2, e3, notTup, packRes]
  obtain ⟨u, hu1, hu2, hu3⟩ := strip_I hx
  obtain ⟨lv, cv, hu, -, -⟩ := hu2.agg
  have hR := fun S : St => rTRightW_spec (st := S) hs hk hu2
  rw [hu] at hu1 hu2 hR
  cases hr : rightD T with
  | false =>
    rw [hr] at hR
    simp (maxSteps := 1000000) (disch := omega) only [hu1, cells3, lcc3, hR, qaaz, qabz, qacz, qaiz, qajz, qalz, evOp, qaoz, qapz, qaqz, qarz, qatz, qavz,
 ↓reduceIte, Nat.reduceEqDiff, List.append_nil, List.map_cons, List.map_nil, qawz, Option.map_some, qazz, qbaz, qbhz, qcfz, Bool.not_false]
    exact fin _ _ .nils 100 [] Kept.start Mine.nil (fun _ => rfl) (by simp [wrT, hr]) rfl rfl
  | true =>
    rw [hr] at hR
    have hfit : T.fit = true := by
      simp only [rightD, Bool.and_eq_true] at hr; exact hr.2
    have hrt := lines_rt T hfit
    have hll := right_lines hr
    refine W_cut (fun E S => Kept st S ∧ E 1 = .cp [.str T.n, lv, cv]) ?_ ?_
    · simp (maxSteps := 1000000) (disch := omega) only [hu1, cells3, qabz, qajz, qalz, evOp, qaoz, qapz, qarz, qatz, qavz,
 ↓reduceIte, Nat.reduceEqDiff, List.append_nil, qawz, Option.map_some, true_and, and_true]
      exact Kept.start
    rintro e S ⟨hk, h1⟩
    refine W_cut (fun E S => Kept st S ∧ E 1 = .cp [.str T.n, lv, cv]) ?_ ?_
    · simp (maxSteps := 1000000) (disch := omega) only [h1, lcc3, hR, qaaz, qabz, qacz, qaez, qajz, qalz, evOp, qaoz, qaqz, qarz, qatz, qavz,
 ↓reduceIte, Nat.reduceEqDiff, List.map_cons, List.map_nil, Option.map_some, qazz, qbhz, qcfz, Bool.false_eq_true, true_and, and_true, Bool.not_true]
      exact hk
    clear hk h1
    rintro e S ⟨hk, h1⟩
    obtain ⟨Ms, c1, c2, c3⟩ := rlines_spec T hsm _ S hu2 (by omega)
    have hMl : Ms.length = T.lines.length := by rw [← c2]; simp
    have hrow : (PV.sl 3 (.own S.toks.length) (Ms.map lV)).vs 3 = some (Ms.map lV) := by simp [PV.vs]
    have hrl : lenPV false (.sl 3 (.own S.toks.length) (Ms.map lV)) = some (.int .i64 (T.lines.length : Int)) := by rw [len_vs hrow, List.length_map, hMl]
    obtain ⟨row, hrw⟩ : ∃ r, r = PV.sl 3 (.own S.toks.length) (Ms.map lV) := ⟨_, rfl⟩
    refine W_cut (fun E S => Kept st S ∧ E 4 = row) ?_ ?_
    · simp (maxSteps := 1000000) (disch := omega) only [h1, lcc3, c1, qabz, qajz, qalz, evOp, qaoz, qaqz, qarz, qatz, qavz,
 ↓reduceIte, List.map_cons, List.map_nil, Option.map_some, true_and]
      exact ⟨hk.tok1, hrw.symm⟩
    rw [← hrw] at hrow hrl
    clear hk h1 c1 hrw
    rintro e S ⟨hk, h4⟩
    refine W_cut (fun E S => Kept st S ∧ E 4 = row ∧ E 5 = .nils) ?_ ?_
    · simp (maxSteps := 1000000) (disch := omega) only [h4, qabz, qajz, qalz, evOp, qapz, qarz, qatz, qavz,
 ↓reduceIte, Nat.reduceEqDiff, true_and, and_true]
      exact hk
    clear hk h4
    rintro e S ⟨hk, h4, h5⟩
    obtain ⟨I, hI⟩ : ∃ I : Nat → Env → St → Prop, I = fun m E S => ∃ (i : Nat) (v : PV), m = T.lines.length - i ∧ i ≤ T.lines.length ∧ Kept st S ∧ Mine st S v ((T.lines.take i).flatMap outD) ∧ ((T.lines.take i).flatMap outD = [] → v = .nils) ∧ ((T.lines.take i).flatMap outD).length ≤ i * 50000 ∧ E 4 = row ∧ E 5 = v ∧ E 6 = .int .i64 (i : Int) := ⟨_, rfl⟩
    refine W_cut (I 0) ?_ ?_
    · rw [qaaz]
      simp (maxSteps := 1000000) (disch := omega) only [qabz, qajz, qalz, evOp, qapz, qarz, qatz, qazz]
      rw [qadz]
      refine W_loop I ?_ (n := T.lines.length) (by
        rw [hI]
        exact ⟨0, .nils, rfl, by omega, hk, Mine.nil, fun _ => rfl, by simp, h4, h5, rfl⟩)
      clear hk h4 h5
      intro m E S hh
      rw [hI] at hh
      obtain ⟨i, v, rfl, hi, hk, hm, hn, hbl, h4, h5, h6⟩ := hh
      by_cases hlt : i < T.lines.length
      · obtain ⟨L, hL⟩ : ∃ L, L = Ms.getD i L0 := ⟨_, rfl⟩
        have hltM : i < Ms.length := by omega
        have hLg := c3 L (by rw [hL]; exact getD_mem hltM)
        obtain ⟨d, hd⟩ : ∃ d, d = T.lines.getD i ([], [], []) := ⟨_, rfl⟩
        have hdL : ofLn L = d := by rw [hd, ← c2, getD_map hltM, ← hL]
        have hdm : d ∈ T.lines := by rw [hd]; exact getD_mem hlt
        have hdr := hrt d hdm
        have hsucc : (T.lines.take (i + 1)).flatMap outD = (T.lines.take i).flatMap outD ++ outD d := by rw [take_snoc (d := ([], [], [])) hlt, ← hd]; simp
        have hLok : L.ok := hLg.ok (by rw [hdL]; exact rt_okD hdr)
        have hLr : rtB L = true := by
          have : rtB L = rtB (toLn (ofLn L)) := rtB_pv
          rw [this, hdL]; exact hdr
        have hslc : ∃ y, slcPV 3 row (some (.int .i64 (i : Int))) (some (.int .i64 ((i + 1 : Nat) : Int))) none = some y ∧ y.vs 3 = some ([L].map lV) := by
          have hg1 : ((Ms.map lV).take (i + 1)).drop i = [lV L] := by
            have hlt2 : i < (Ms.map lV).length := by simpa using hltM
            rw [List.drop_take, show i + 1 - i = 1 by omega, List.drop_eq_getElem_cons hlt2]
            simp [hL, List.getD, hltM]
          rcases vs_cases hrow with ⟨rfl, h0⟩ | ⟨t, rfl⟩
          · simp only [List.map_eq_nil_iff] at h0; rw [h0] at hltM; simp at hltM
          · refine ⟨.sl 3 .no (((Ms.map lV).take (i + 1)).drop i), ?_, by rw [hg1]; simp [PV.vs]⟩
            have h3 : i + 1 ≤ (Ms.map lV).length := by rw [List.length_map]; omega
            simp [slcPV, bnd, intOf, sufTok]
            have c1 : (0 : Int) ≤ (i : Int) + 1 ∧ (i : Int) + 1 ≤ (Ms.length : Int) := ⟨by omega, by omega⟩
            rw [if_pos c1]; simp
        obtain ⟨y, y1, y2⟩ := hslc
        have hwr : writeL [L] = (0, outD d) := by simp [writeL, hLr, outL_of, hdL]
        have hop := outD_pos hdr
        have hone : outD d ≠ [] := fun q => by rw [q] at hop; simp at hop
        have hsw := fun (S : St) => rSWrite_spec (st := S) y2 ⟨fun M hM => by simp only [List.mem_singleton] at hM; subst hM; exact hLok, by simp⟩
        simp only [hwr, outW, hone, if_false] at hsw
        have hbd : (outD d).length ≤ 50000 := by
          have := outL_len hLok
          rw [outL_of, hdL] at this; exact this
        have m1 := hk.tok1
        have mm := hm.tok1
        obtain ⟨v', s', q1, q2, q3⟩ := m1.app8 (y := .bys (.own S.toks.length) (outD d)) (m := outD d) mm rfl (by simp only [room]; omega)
        simp (maxSteps := 1000000) (disch := omega) only [h4, h5, h6, hrl, hlt, add_n, y1, hsw, q1, loopQ_normal, qaaz, qabz, qacz, qadz, qaez, qajz, qalz, evOp, qaoz, qapz, qaqz, qarz, qatz, qavz,
 ↓reduceIte, Nat.reduceEqDiff, List.map_cons, List.map_nil, Option.map_some, Option.map_none, qazz, qbdz, qbhz, qbpz, decide_true, Int.ofNat_lt, qcjz, List.getElem?_cons_zero, List.getElem?_cons_succ, Int.reduceToNat]
        refine ⟨T.lines.length - (i + 1), by omega, ?_⟩
        rw [hI]
        refine ⟨i + 1, v', rfl, by omega, q2, by rw [hsucc]; exact q3, fun q => ?_, by rw [hsucc, List.length_append, Nat.succ_mul]; omega, h4, rfl, rfl⟩
        rw [hsucc] at q
        exact absurd (List.append_eq_nil_iff.1 q).2 hone
      · obtain rfl : i = T.lines.length := by omega
        simp (maxSteps := 1000000) (disch := omega) only [h4, h6, hrl, hlt, qaaz, qabz, qacz, qagz, qajz, qalz, evOp, qaoz, qarz, qatz, qavz,
 ↓reduceIte, Nat.reduceEqDiff, Option.map_some, qazz, qbbz, qbfz, qbhz, qbjz, qbpz, decide_false,
 Int.ofNat_lt, Bool.false_eq_true, true_and]
        rw [hI]
        exact ⟨T.lines.length, v, by omega, hi, hk, hm, hn, hbl, h4, h5, h6⟩
    · clear hk h4 h5
      rintro e S hh
      rw [hI] at hh
      obtain ⟨i, v, hii, hi, hk, hm, hn, hbl, h4, h5, -⟩ := hh
      obtain rfl : i = T.lines.length := by omega
      rw [List.take_length] at hm hn hbl
      have hvl := len_by hm.by
      by_cases hbig : (T.lines.flatMap outD).length ≤ 1048576
      · have e1 : ¬ (1048576 : Int) < ((T.lines.flatMap outD).length : Int) := by omega
        simp (maxSteps := 1000000) (disch := omega) only [h5, hvl, e1, qaaz, qabz, qacz, qaez, qaiz, qajz, qalz, evOp, qaoz, qapz, qarz, qatz, qavz,
 ↓reduceIte, Nat.reduceEqDiff, Option.map_some, qazz, qbhz, qbrz, decide_false,
 Bool.false_eq_true]
        exact fin _ _ v 0 _ hk hm hn (by unfold wrT; rw [if_pos hr, if_pos hbig]) rfl rfl
      · have e1 : (1048576 : Int) < ((T.lines.flatMap outD).length : Int) := by omega
        simp (maxSteps := 1000000) (disch := omega) only [h5, hvl, e1, qaaz, qabz, qacz, qaiz, qajz, qalz, evOp, qaoz, qapz, qarz, qatz, qavz,
 ↓reduceIte, Option.map_some, qazz, qbaz, qbhz, qbrz, decide_true]
        exact fin _ _ .nils 2 [] hk Mine.nil (fun _ => rfl) (by unfold wrT; rw [if_pos hr, if_neg hbig]) rfl rfl
end Go.Ab
/-
  What must come of fixed calls on trees, reckoned.
-/
namespace Go.Ab
set_option maxRecDepth 100000 in
theorem alive11_g0 : evV prog 4000 (.fn 318 []) [] ⟨[], [], [], 0⟩ = some (.bool true, ⟨[], [], [], 0⟩) := by kernel_rfl
set_option maxRecDepth 100000 in
theorem alive11_g2 : evV prog 4000 (.fn 318 []) [] ⟨[], [true, true], [], 0⟩ = some (.bool true, ⟨[], [true, true], [], 0⟩) := by kernel_rfl
end Go.Ab
/-
  Trees that come as arguments; the law TreeWrites.
-/
namespace Go.Ab
set_option maxRecDepth 20000
variable {st s : St} {e : Env}

def treeT (P : Program) (t el ep : TypeId) : Bool := match fieldsT P t with
  | some fs => match fs.toList with
    | [f0, f1, f2] => isStrT P f0.type && (sliceElem P f1.type == some el) && (sliceElem P f2.type == some t) && lineT P el ep && (P.cellsOf el == 3) && (P.cellsOf t == 3)
    | _ => false
  | none => false
theorem HasTy.tree {P : Program} {t el ep : TypeId} (hs0 : treeT P t el ep = true) : ∀ (N : Nat) (q : PV), SizeOf.sizeOf q ≤ N → HasTy P t q → ∃ T : TD, IsT T q ∧ T.rw := by
  unfold treeT fieldsT at hs0
  obtain ⟨fs, ht⟩ : ∃ fs, P.underlying t = some (.struct fs) := by
    cases ht : P.underlying t with
    | none => simp [ht] at hs0
    | some d => cases d <;> first | exact ⟨_, rfl⟩ | (simp [ht] at hs0; done)
  simp only [ht] at hs0
  obtain ⟨fl⟩ := fs
  match fl, hs0, ht with
  | [f0, f1, f2], hs0, ht =>
    simp only [Bool.and_eq_true, beq_iff_eq] at hs0
    obtain ⟨⟨⟨⟨⟨s0, s1⟩, s2⟩, s3⟩, s4⟩, s5⟩ := hs0
    have hu : ∀ {f e : TypeId}, sliceElem P f = some e → P.underlying f = some (.slice e) := fun {f e} h => by
      unfold sliceElem at h
      split at h
      · rename_i e' he; rw [he]; cases h; rfl
      · cases h
    have hu1 := hu s1
    have hu2 := hu s2
    intro N
    induction N with
    | zero => intro q hq h; cases q <;> simp at hq
    | succ N ih =>
      intro q hq h
      cases h with
      | agg xs ht' hl hx =>
        rw [ht] at ht'; cases ht'
        match xs, hl, hx, hq with
        | [x0, x1, x2], _, hx, hq =>
          obtain ⟨a, rfl, ha⟩ := HasTy.strR (hx 0 f0 x0 rfl rfl) (isStrT_eq s0)
          obtain ⟨Ls, l1, l2, l3⟩ := HasTy.lines (hx 1 f1 x1 rfl rfl) hu1 s4 s3
          have h2 := hx 2 f2 x2 rfl rfl
          have hR : reachBytes ≤ 4000000000000000000 := by decide
          have hLg : ∀ L ∈ Ls, L.good := fun L hL => ⟨(l2 L hL).vs, (l2 L hL).tk⟩
          have hLr : ∀ d ∈ Ls.map ofLn, d.1.length ≤ 4000000000000000000 ∧ d.2.2.length ≤ 4000000000000000000 ∧ d.2.1.length ≤ 9223372036854775807 ∧ ∀ p ∈ d.2.1, p.1.length ≤ 4000000000000000000 ∧ p.2.length ≤ 4000000000000000000 := fun d hd => by
            obtain ⟨L, hL, rfl⟩ := List.mem_map.1 hd
            exact ⟨(l2 L hL).l1, (l2 L hL).l2, (l2 L hL).l3, (l2 L hL).l4⟩
          have hflat : flat [.str a, x1, x2] = [.str a, x1, x2] := by
            have e1 : x1.cells = [x1] := by rcases vs_cases l1 with ⟨rfl, _⟩ | ⟨t, rfl⟩ <;> rfl
            have e2 : x2.cells = [x2] := by
              cases h2 <;> first | rfl | (rename_i hh; rw [hu2] at hh; cases hh) | (rename_i hh _; rw [hu2] at hh; cases hh) | (rename_i hh _ _; rw [hu2] at hh; cases hh)
            simp only [flat, List.flatMap_cons, List.flatMap_nil, e1, e2]; rfl
          rw [hflat] at hq ⊢
          have comps : ∃ (cs : List TD) (ys : List PV), x2.vs 3 = some ys ∧ Cmps cs ys ∧ cs.length ≤ 9223372036854775807 ∧ ∀ c ∈ cs, c.rw := by
            cases h2 with
            | nils ht' => exact ⟨[], [], rfl, ⟨rfl, fun i hi => by simp at hi⟩, by simp, fun c hc => by simp at hc⟩
            | bys _ ht' he' => rw [hu2] at ht'; cases ht'; rw [ht] at he'; cases he'
            | sl ys ht' he' hl' hx' =>
              rw [hu2] at ht'; cases ht'
              have hsz : ∀ y ∈ ys, SizeOf.sizeOf y ≤ N := fun y hy => by
                have := List.sizeOf_lt_of_mem hy
                simp at hq; omega
              have key : ∀ ys : List PV, (∀ y ∈ ys, SizeOf.sizeOf y ≤ N) → (∀ y ∈ ys, HasTy P t y) → ∃ cs : List TD, Cmps cs ys ∧ ∀ c ∈ cs, c.rw := by
                intro ys
                induction ys with
                | nil => intro _ _; exact ⟨[], ⟨rfl, fun i hi => by simp at hi⟩, fun c hc => by simp at hc⟩
                | cons y r ih2 =>
                  intro h1 h2
                  obtain ⟨T, t1, t2⟩ := ih y (h1 y (by simp)) (h2 y (by simp))
                  obtain ⟨cs, c1, c2⟩ := ih2 (fun z hz => h1 z (by simp [hz])) (fun z hz => h2 z (by simp [hz]))
                  refine ⟨T :: cs, ⟨by simp [c1.1], fun i hi => ?_⟩, fun c hc => ?_⟩
                  · cases i with
                    | zero => exact t1
                    | succ i => simpa [List.getD] using c1.2 i (by simpa using hi)
                  · rcases List.mem_cons.1 hc with rfl | hc
                    · exact t2
                    · exact c2 c hc
              obtain ⟨cs, c1, c2⟩ := key ys hsz hx'
              refine ⟨cs, ys, by simp [PV.vs, s5], c1, ?_, c2⟩
              have h3 : maxLen ≤ 9223372036854775807 := by decide
              have := c1.1; omega
            | bool _ ht' => rw [hu2] at ht'; cases ht'
            | int _ ht' => rw [hu2] at ht'; cases ht'
            | u8 _ ht' => rw [hu2] at ht'; cases ht'
            | str _ ht' => rw [hu2] at ht'; cases ht'
            | agg _ ht' => rw [hu2] at ht'; cases ht'
          obtain ⟨cs, ys, y1, y2, y3, y4⟩ := comps
          exact ⟨.mk a (Ls.map ofLn) cs, .mk l1 rfl hLg y1 y2.1 y2.2, .mk (Nat.le_trans ha hR) (by simpa using l3) hLr y3 y4⟩
      | bool _ ht' => rw [ht] at ht'; cases ht'
      | int _ ht' => rw [ht] at ht'; cases ht'
      | u8 _ ht' => rw [ht] at ht'; cases ht'
      | str _ ht' => rw [ht] at ht'; cases ht'
      | nils ht' => rw [ht] at ht'; cases ht'
      | bys _ ht' => rw [ht] at ht'; cases ht'
      | sl _ ht' => rw [ht] at ht'; cases ht'

theorem eq_bb {a b : Bool} : binPV .eql .bool (.bool a) (.bool b) = some (.bool (a == b)) := rfl

set_option maxHeartbeats 4000000 in
theorem law_TreeWrites {x : PV} {T : TD} (hx : IsT T x) (hr : T.rw) : ∃ s', call prog (.fn 323 []) [x] ⟨[], [], [], 0⟩ = some (.bool true, s') := by
  refine law_of_W prog_323 rfl ?_
  unfold F_posthornlaw11_TreeWrites; dsimp only
  have hal0 := call_of alive11_g0
  have hal2 := call_of alive11_g2
  obtain ⟨u, hu1, hu2, hu3⟩ := strip_I hx
  obtain ⟨lv, cv, hu, -, -⟩ := hu2.agg
  rw [hu] at hu1 hu2
  have hG := fun S : St => Great11_spec 12 T hr (by omega) _ S hu2
  have hG' : ∀ S : St, call prog (.fn 316 []) [.agg [.str T.n, lv, cv], .int .i64 12] S = some (.bool (greatT 12 T), S) := hG
  by_cases hs : smallT 12 T
  · rw [greatT_f hs] at hG'
    obtain ⟨hsm, hd⟩ := small_sm 12 T hs
    have hf := fun S : St => few_spec (st := S) hsm (by omega) hu2
    cases hfew : fewT T with
    | false =>
      rw [hfew] at hf
      simp (maxSteps := 1000000) (disch := omega) only [hu1, cells3, lcc3, hG', hf, List.length_nil, hal0, qaaz, qabz, qacz, qaiz, qajz, qakz, qalz, qamz, qanz, evOp, qaoz, qapz, qaqz, qarz, qatz, qavz,
 ↓reduceIte, Nat.reduceEqDiff, List.map_cons, List.map_nil, qawz, Option.map_some, qazz, qbaz, qbhz, qcfz, beq_false, Bool.false_eq_true, and_true, reduceCtorEq, or_true, Bool.not_false]
    | true =>
      rw [hfew] at hf
      have hW := fun S : St => tWriteA_spec (st := S) hsm hu2
      have hRW := fun S : St => rtWrite_spec (st := S) hs (by omega) hu2
      have hR := fun S : St => tRight_spec (st := S) hsm hu2
      have hRR := fun S : St => rTRightW_spec (st := S) hs (by omega) hu2
      obtain ⟨c, b, hcb⟩ : ∃ c b, wrT T = (c, b) := ⟨_, _, rfl⟩
      simp only [hcb] at hW hRW
      by_cases hb : b = []
      · simp only [outW, hb, if_true] at hW hRW
        simp (maxSteps := 1000000) (disch := omega) only [hu1, cells3, lcc3, hG', hf, List.length_nil, hW, hRW, hal0, hR, hRR, eq_bb, beq_self_eq_true, b2s_by qchz, eq_self, qaaz, qabz, qacz, qaez, qaiz, qajz, qakz, qalz, qamz, qanz, evOp, qaoz, qapz, qaqz, qarz, qatz, qavz,
 ↓reduceIte, Nat.reduceEqDiff, List.map_cons, List.map_nil, qawz, Option.map_some, qazz, qbhz, qbtz, qcbz, qcfz, decide_true, Bool.false_eq_true, qcjz, List.getElem?_cons_zero, List.getElem?_cons_succ, and_true, reduceCtorEq, or_true, Bool.not_true]
      · simp only [outW, hb, if_false, St.tok1] at hW hRW
        have hW0 := hW ⟨[], [], [], 0⟩
        have hR1 := hRW ⟨[], [true], [], 0⟩
        simp only [List.length_nil, List.length_cons, List.cons_append, List.nil_append] at hW0 hR1
        simp (maxSteps := 1000000) (disch := omega) only [hu1, cells3, lcc3, hG', hf, List.length_nil, hW0, hR1, hal2, hR, hRR, eq_bb, beq_self_eq_true, b2s_by qcgz, eq_self, qaaz, qabz, qacz, qaez, qaiz, qajz, qakz, qalz, qamz, qanz, evOp, qaoz, qapz, qaqz, qarz, qatz, qavz,
 ↓reduceIte, Nat.reduceEqDiff, List.map_cons, List.map_nil, qawz, Option.map_some, qazz, qbhz, qbtz, qcbz, qcfz, decide_true, Bool.false_eq_true, qcjz, List.getElem?_cons_zero, List.getElem?_cons_succ, and_true, reduceCtorEq, or_true, Bool.not_true]
  · rw [greatT_t hs] at hG'
    simp (maxSteps := 1000000) (disch := omega) only [hu1, cells3, lcc3, hG', List.length_nil, hal0, qaaz, qabz, qacz, qaiz, qajz, qakz, qalz, qamz, qanz, evOp, qaoz, qapz, qaqz, qarz, qatz, qavz,
 ↓reduceIte, Nat.reduceEqDiff, List.map_cons, List.map_nil, qawz, Option.map_some, qazz, qbaz, qbhz, beq_false, Bool.false_eq_true, and_true, reduceCtorEq, or_true, Bool.not_true]
end Go.Ab
/-
  The library's searches as primitives, out of the shelf's contracts.
-/
namespace Go.Ab
open Go.Shelf Go.Proofs
variable {P : Program} {g : GMap} {ρ : Go.Shelf.Ren}

def numsOf (a : List UInt8) : List Int := a.map fun b => (b.toNat : Int)
theorem bytesOf_nums (a : List UInt8) : Lib.bytesOf (numsOf a) = a := by
  simp [Lib.bytesOf, numsOf, Function.comp_def]
theorem nums_range (a : List UInt8) : ∀ x ∈ numsOf a, 0 ≤ x ∧ x < 256 := by
  intro x hx
  simp only [numsOf, List.mem_map] at hx
  obtain ⟨b, _, rfl⟩ := hx
  have := b.toNat_lt
  omega
theorem nums_getD (a : List UInt8) {i : Nat} (h : i < a.length) : (numsOf a).getD i 0 = ((a[i]).toNat : Int) := by
  simp [numsOf, List.getD, h]

theorem cells_of {κ : K} {w : World} (hC : ∀ b i u, κ.C b i = some u → w.cell? ⟨b, i, none⟩ = some u) {blk off : Nat} {a : List UInt8} (hb : ∀ (i : Nat) (b : UInt8), a[i]? = some b → κ.C blk (off + i) = some (.int .u8 b.toNat)) :
    ∀ i, i < a.length → w.cell? ((⟨blk, off, none⟩ : Addr).add i) = some (.int .u8 ((numsOf a).getD i 0)) := by
  intro i hi
  rw [add_eq, nums_getD a hi]
  exact hC _ _ _ (hb i _ (by simp [hi]))

theorem primIndex (L : Lays.n185 P ρ) (hm : ∀ κ, g.inv κ → ∃ m, κ.C (ρ.g 1) 0 = some (.int .i64 m)) {pf : Func} (hpf : P.funcs[ρ.f 185]? = some pf) (hb : pf.body.isSome = true) (hn : pf.name ≠ "runtime.NumGoroutine") : PrimOK P g (ρ.f 185) pBytesIndex := by
  refine prim_of_calls hpf hb hn (fun κ w args ps v hi hC hsz hargs hp => ?_)
  obtain ⟨m, hm⟩ := hm κ hi
  have hmc := hC _ _ _ hm
  match ps, hp with
  | [x, y], hp =>
    simp only [pBytesIndex] at hp
    cases hx : x.by with
    | none => simp [hx] at hp
    | some a =>
      cases hy : y.by with
      | none => simp [hx, hy] at hp
      | some b =>
        simp only [hx, hy] at hp
        split at hp
        · rename_i hlen
          cases hp
          obtain ⟨u1, u2, rfl⟩ : ∃ u1 u2, args = #[u1, u2] := by
            obtain ⟨l⟩ := args
            match l, hsz with
            | [u1, u2], _ => exact ⟨u1, u2, rfl⟩
          have r1 := hargs 0 u1 x rfl rfl
          have r2 := hargs 1 u2 y rfl rfl
          have post : ∀ (n : Int), n = Lib.index a b → ∀ (e : Ending) (w' : World), (e = .returned (.int .i64 n) ∧ ∃ q, w' = w.drewN q) → ∃ z, e = .returned z ∧ (∀ κ', R g κ' z (.int .i64 (Lib.index a b))) ∧ w'.heap = w.heap ∧ w'.os = w.os ∧ w'.tape = w.tape ∧ w'.output = w.output := by
            rintro n rfl e w' ⟨rfl, q, rfl⟩
            exact ⟨_, rfl, fun κ' => .int .i64 _ (by decide), rfl, rfl, rfl, rfl⟩
          have post0 : ∀ (n : Int), n = Lib.index a b → ∀ (e : Ending) (w' : World), (e = .returned (.int .i64 n) ∧ w' = w) → ∃ z, e = .returned z ∧ (∀ κ', R g κ' z (.int .i64 (Lib.index a b))) ∧ w'.heap = w.heap ∧ w'.os = w.os ∧ w'.tape = w.tape ∧ w'.output = w.output := by
            rintro n rfl e w' ⟨rfl, rfl⟩
            exact ⟨_, rfl, fun κ' => .int .i64 _ (by decide), rfl, rfl, rfl, rfl⟩
          rcases by_cases' hx with ⟨rfl, rfl⟩ | ⟨t, rfl⟩
          · cases r1
            rcases by_cases' hy with ⟨rfl, rfl⟩ | ⟨t2, rfl⟩
            · cases r2
              exact (Any.bytes_Index_none L none none 0 0 0 w).mono (post0 0 (by simp [Lib.index]))
            · cases r2 with
              | bys blk off n c _ _ h1 h2 h3 h4 _ =>
                subst h1
                refine (Any.bytes_Index_nil L (some ⟨blk, off, none⟩) b.length c w (by omega) (fun h1 => ?_)).mono (post0 _ ?_)
                · have := cells_of hC h3 0 (by omega)
                  rw [add_eq] at this
                  exact ⟨blk, off, _, rfl, this⟩
                · cases b <;> simp [Lib.index]
          · cases r1 with
            | bys blk off n c _ _ h1 h2 h3 h4 _ =>
              subst h1
              rcases by_cases' hy with ⟨rfl, rfl⟩ | ⟨t2, rfl⟩
              · cases r2
                exact (Any.bytes_Index_none L (some ⟨blk, off, none⟩) none a.length c 0 w).mono (post0 0 (Lib.index_empty a).symm)
              · cases r2 with
                | bys blk2 off2 n2 c2 _ _ k1 k2 k3 k4 _ =>
                  subst k1
                  refine (Any.bytes_Index_at L ⟨blk, off, none⟩ ⟨blk2, off2, none⟩ a.length c b.length c2 (numsOf a) (numsOf b) m w (by simp [numsOf]) (by simp [numsOf]) (nums_range a) (nums_range b) (cells_of hC h3) (cells_of hC k3) h2 hlen.1 (by omega) hmc).mono (post _ ?_)
                  rw [bytesOf_nums, bytesOf_nums]
        · cases hp
  | [], hp => simp [pBytesIndex] at hp
  | [_], hp => simp [pBytesIndex] at hp
  | _ :: _ :: _ :: _, hp => simp [pBytesIndex] at hp
end Go.Ab
/-
  A Builder's text: the walk of the library's function, its end said whole (after the shelf's own proof).
-/
namespace Go.Proofs
open Go.Shelf Go.RowKit
variable {P : Program} {ρ : Ren}

structure CCLay (P : Program) (ρ : Ren) : Prop where
  mixed : P.follows .mixedOrders = true
  f240 : P.funcs[ρ.f 240]? = some (Body.n240 ρ)
  f276 : P.funcs[ρ.f 276]? = some (Body.n276 ρ)
  t4 : P.underlying (ρ.t 4) = some (TypeDesc.bool)
  a4 : ∀ w, (isAgg (ρ.t 4)).run P w = .ok false w
  z4 : ∀ w, (Go.sizeOf (ρ.t 4)).run P w = .ok 1 w
  v4 : ∀ w, (zeroValue (ρ.t 4)).run P w = .ok (Value.bool false) w
  t70 : P.underlying (ρ.t 70) = some (TypeDesc.pointer (ρ.t 72))
  a70 : ∀ w, (isAgg (ρ.t 70)).run P w = .ok false w
  z70 : ∀ w, (Go.sizeOf (ρ.t 70)).run P w = .ok 1 w
  v70 : ∀ w, (zeroValue (ρ.t 70)).run P w = .ok (Value.pointer none) w
  t72 : P.underlying (ρ.t 72) = some (TypeDesc.struct #[{ name := "addr", type := ρ.t 70, offset := 0, embedded := false, tag := "", pkgPath := "strings", byteOffset := 0 }, { name := "buf", type := ρ.t 37, offset := 1, embedded := false, tag := "", pkgPath := "strings", byteOffset := 8 }])
  a72 : ∀ w, (isAgg (ρ.t 72)).run P w = .ok true w
  z72 : ∀ w, (Go.sizeOf (ρ.t 72)).run P w = .ok 2 w
  v72 : ∀ w, (zeroValue (ρ.t 72)).run P w = .ok (Value.agg #[Value.pointer none, Value.slice none 0 0]) w
  t164 : P.underlying (ρ.t 164) = some (TypeDesc.unsafePointer)
  a164 : ∀ w, (isAgg (ρ.t 164)).run P w = .ok false w
  z164 : ∀ w, (Go.sizeOf (ρ.t 164)).run P w = .ok 1 w
  v164 : ∀ w, (zeroValue (ρ.t 164)).run P w = .ok (Value.pointer none) w

end Go.Proofs
/-
  The library's functions on texts as primitives, out of the shelf's contracts.
-/
namespace Go.Ab
open Go.Shelf Go.Proofs
variable {P : Program} {g : GMap} {ρ : Go.Shelf.Ren}

theorem primStrIndex (L : Lays.n219 P ρ) (hm : ∀ κ, g.inv κ → ∃ m, κ.C (ρ.g 1) 0 = some (.int .i64 m)) {pf : Func} (hpf : P.funcs[ρ.f 219]? = some pf) (hb : pf.body.isSome = true) (hn : pf.name ≠ "runtime.NumGoroutine") : PrimOK P g (ρ.f 219) pStrIndex := by
  refine prim_of_calls hpf hb hn (fun κ w args ps v hi hC hsz hargs hp => ?_)
  obtain ⟨m, hm⟩ := hm κ hi
  have hmc := hC _ _ _ hm
  unfold pStrIndex at hp
  split at hp
  · rename_i a b
    split at hp
    · rename_i hlen
      cases hp
      obtain ⟨u1, u2, rfl⟩ : ∃ u1 u2, args = #[u1, u2] := by
        obtain ⟨l⟩ := args
        match l, hsz with
        | [u1, u2], _ => exact ⟨u1, u2, rfl⟩
      have r1 := hargs 0 u1 _ rfl rfl
      have r2 := hargs 1 u2 _ rfl rfl
      cases r1 with | str sa _ ha => cases r2 with | str sb _ hb =>
      refine (Any.stringslite_Index L sa sb m w (by rw [← ha] at hlen; simpa using hlen) hmc).mono ?_
      rintro e w' ⟨rfl, rfl⟩
      exact ⟨_, rfl, fun κ' => by rw [ha, hb]; exact .int .i64 _ (by decide), rfl, rfl, rfl, rfl⟩
    · cases hp
  · cases hp

theorem primStrIndexByte (L : Lays.n137 P ρ) {pf : Func} (hpf : P.funcs[ρ.f 137]? = some pf) (hb : pf.body.isSome = true) (hn : pf.name ≠ "runtime.NumGoroutine") : PrimOK P g (ρ.f 137) pStrIndexByte := by
  refine prim_of_calls hpf hb hn (fun κ w args ps v hi hC hsz hargs hp => ?_)
  unfold pStrIndexByte at hp
  split at hp
  · rename_i a c
    cases hp
    obtain ⟨u1, u2, rfl⟩ : ∃ u1 u2, args = #[u1, u2] := by
      obtain ⟨l⟩ := args
      match l, hsz with
      | [u1, u2], _ => exact ⟨u1, u2, rfl⟩
    have r1 := hargs 0 u1 _ rfl rfl
    have r2 := hargs 1 u2 _ rfl rfl
    cases r1 with | str sa _ ha => cases r2 with | b8 _ n hn =>
    refine (Any.strings_IndexByte L sa n w).mono ?_
    rintro e w' ⟨rfl, rfl⟩
    refine ⟨_, rfl, fun κ' => ?_, rfl, rfl, rfl, rfl⟩
    have : n.toNat.toUInt8 = c := by rw [hn]; simp
    rw [ha, this]; exact .int .i64 _ (by decide)
  · cases hp

theorem SR.kill {base : Nat} {κ : K} {w w' : World} {st : St} (h : SR P g base κ w st) {i blk e ce : Nat} {rs : Array Value} {el : TypeId} {fz fz' : Nat × Nat} (hi : st.toks[i]? = some true) (hτ : κ.τ[i]? = some (blk, e, ce))
    (hw : w.heap[blk]? = some (.cells rs el fz)) (hw' : w'.heap = (setBlk w blk rs el fz').heap) : SR P g base κ w' { st with toks := st.toks.set i false } := by
  have hk := h.tk i blk e ce hi hτ
  suffices hs : SR P g base κ (setBlk w blk rs el fz') { st with toks := st.toks.set i false } from hs.heap hw'
  have hcell : ∀ b i, (setBlk w blk rs el fz').cell? ⟨b, i, none⟩ = w.cell? ⟨b, i, none⟩ := fun b i => by
    by_cases hb : b = blk
    · subst hb
      have hlt := (Array.getElem?_eq_some_iff.1 hw).1
      have h2 : (setBlk w b rs el fz').heap[b]? = some (.cells rs el fz') := by simp [setBlk, hlt]
      simp only [World.cell?]
      rw [h2, hw]
    · exact cell_setBlk_other hb
  have hobj : ∀ (k : Nat) (o : Obj), w.heap[k]? = some o → isCells o = false → (setBlk w blk rs el fz').heap[k]? = some o := fun k o ho hc => by
    rw [setBlk_other]
    · exact ho
    · rintro rfl; rw [hw] at ho; cases ho; simp [isCells] at hc
  have hset : ∀ j : Nat, (st.toks.set i false)[j]? = some true → st.toks[j]? = some true ∧ j ≠ i := fun j hj => by
    by_cases hji : j = i
    · subst hji
      rw [List.getElem?_set] at hj
      simp at hj
    · rw [List.getElem?_set_ne (fun h => hji h.symm)] at hj
      exact ⟨hj, hji⟩
  refine { cC := fun b i v hc => by rw [hcell]; exact h.cC b i v hc, sh := fun b t hb => (h.sh b t hb).imp fun n hn => (by rw [shape_setBlk hw rfl]; exact hn), bl := h.bl, bn := h.bn, bx := fun b k cs h1 h2 => ?_, tl := by simp [h.tl], tk := fun j k e ce h1 h2 => ?_,
           td := fun a b ba ea ca bb eb cb h1 h2 h3 h4 h5 => h.td a b ba ea ca bb eb cb (hset a h1).1 (hset b h2).1 h3 h4 h5, ll := h.ll, ln := h.ln, lb := h.lb, lp := fun k l D r h1 h2 => (h.lp k l D r h1 h2).mono (K.le.refl _) hobj, hb := by simpa [setBlk] using h.hb, gv := h.gv }
  · have hx := h.bx b k cs h1 h2
    have hne : k ≠ blk := by rintro rfl; exact hk.nb (List.mem_of_getElem? h2)
    obtain ⟨rs', hc, h3, h4⟩ := hx.ex
    exact ⟨hx.ge, hx.nc, ⟨rs', hc.congr (setBlk_other hne), h3, h4⟩, hx.lf, hx.lw, fun hm => by rw [← hx.sb hm]; exact shape_congr (setBlk_other hne)⟩
  · obtain ⟨q1, q2⟩ := hset j h1
    have hx := h.tk j k e ce q1 h2
    have hne : k ≠ blk := h.td j i k e ce blk _ _ q1 hi h2 hτ q2
    obtain ⟨rs', hc, h3⟩ := hx.ex
    exact ⟨hx.ge, hx.nb, hx.nc, ⟨rs', hc.congr (setBlk_other hne), h3⟩⟩

end Go.Ab
/-
  A row that lists variables: the wrap, the world's shape and what the listed variables hold kept.
-/
namespace Go.Ab
open Go
variable {H : Type} {enc : TypeId × Value → H}

theorem returns_laid_shaped {a : Assume} {C : Checked} {os : Os} {f : FuncId} {fn : Func} {s : ChangeSpec} {conds : List PathCond} {apart fresh handsOn again : Bool} (X : World → Prop) (hX : ∀ w w' : World, w.heap = w'.heap → X w → X w')
    (own : ownKnob C.prog.godebug = none) (started : os.Started) (noInit : C.prog.inits.idxOf? f = none) (hfn : C.prog.funcs[f]? = some fn)
    (witness : ∃ (w : World) (tape : Tape) (i : Input), w.os = os ∧ (w.forCall tape i).Shaped C.prog ∧ i.vars = [] ∧ Input.okWide C.prog (w.forCall tape i) .any w.heap.size f i ∧
      ((s.pre enc C.prog fn conds apart (w.forCall tape i).memory i.args ∧ X (w.forCall tape i).memory) ∧ sizedMet enc C.prog fn (OpenSpec.ofChange s) apart (w.forCall tape i).memory i.args) ∧ a.holds C.prog (lone (Frame.enter C.prog f i.args .normal) [] (w.forCall tape i)))
    (contract : ∀ (W : World) (base : Nat) (args : Array Value) (ds gs : List (DataW H)) (before : List MemPlace),
      (∀ (j : Nat) t v, fn.params[j]? = some t → args[j]? = some v → Value.okWide C.prog W .any base t v) →
      DataW.Whole enc C.prog fn.params.toList s.vars apart W args.toList ds gs before →
      X W →
      (DataW.weightsEach C.prog (fn.params.toList ++ s.plain.varTypes C.prog) (ds ++ gs)).all (· ≤ reachBytes) = true →
      W.ShapedOpen C.prog →
      a.holds C.prog (lone (Frame.enter C.prog f args .normal) [] W) →
      Calls C.prog f args W fun e W' => ∃ v, e = .returned v ∧ s.post enc C.prog fn apart fresh handsOn again W args v W') :
    ReturnsInHanded a C os f .any (fun w args => (s.pre enc C.prog fn conds apart w args ∧ X w) ∧ sizedMet enc C.prog fn (OpenSpec.ofChange s) apart w args) (s.post enc C.prog fn apart fresh handsOn again) := by
  refine returnsInHanded_of_calls own started noInit witness ?_
  intro w tape i _ hshape _ hok hpre hholds
  obtain ⟨_, _, _, fn2, hfn2, _, _, _, _, hval⟩ := hok
  obtain rfl : fn2 = fn := Option.some.inj (hfn2.symm.trans hfn)
  obtain ⟨⟨⟨ds, gs, before, hwhole, _⟩, hlaid⟩, hsized⟩ := hpre
  have hlaid2 : X (w.forCall tape i) := hX _ _ (by rfl) hlaid
  have hwhole2 := DataW.Whole.of_heap (w' := w.forCall tape i) (by rfl) hwhole
  have hrun := contract _ w.heap.size i.args ds gs before hval hwhole2 hlaid2 (hsized.weights hwhole) hshape hholds
  refine hrun.mono ?_
  rintro e W2 ⟨v, rfl, hpost⟩
  exact ChangeSpec.post_blind hpost
end Go.Ab
