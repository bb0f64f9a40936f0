/-
  Trees: small functions, equal trees, how many there are.
-/
import Derived.Test.YtanlheneakdngaaDoorA4
import Derived.KernelRfl
import Derived.Test.YtanlheneakdngaaDoorA3
import Derived.Shelf.Bytes.SlIndexWhole
import Derived.Shelf.Bytes.IndexByte
import Derived.Shelf.Strings.Builder1
import Derived.Shelf.Strings.Search2
import Derived.Shelf.Small.Strs
import Derived.HandedShaped
import Derived.LaidLaws
import Derived.Lay
set_option linter.unusedVariables false
set_option linter.unusedSimpArgs false
namespace Go.Ab
set_option maxRecDepth 20000
variable {st s : St} {e : Env}

theorem strip_vs {v : PV} {e : Nat} {xs : List PV} (h : v.vs e = some xs) : ∃ u, stripLeaf v = some u ∧ u.vs e = some xs ∧ tokOf u = none := by
  rcases vs_cases h with ⟨rfl, rfl⟩ | ⟨t, rfl⟩
  · exact ⟨.nils, rfl, h, rfl⟩
  · exact ⟨.sl e .no xs, rfl, by simp [PV.vs], rfl⟩
theorem strip_T {n : Bs} {ls : List LnD} {cs : List TD} {v : PV} (h : IsT (.mk n ls cs) v) : ∃ (lv cv : PV) (Ls : List Ln) (ys : List PV), strip v = some (.agg [.str n, lv, cv]) ∧ IsT (.mk n ls cs) (.agg [.str n, lv, cv]) ∧ lv.vs 3 = some (Ls.map lV) ∧ Ls.map ofLn = ls ∧ (∀ L ∈ Ls, L.good) ∧ cv.vs 3 = some ys ∧ ys.length = cs.length ∧ ∀ i, i < cs.length → IsT (cs.getD i T0) (ys.getD i .undef) := by
  obtain ⟨lv, cv, Ls, ys, rfl, h1, h2, h3, h5, h6, h7⟩ := h.inv
  obtain ⟨lu, a1, a2, -⟩ := strip_vs h1
  obtain ⟨cu, c1, c2, -⟩ := strip_vs h5
  exact ⟨lu, cu, Ls, ys, by
    show (stripAll [.str n, lv, cv]).map PV.agg = _
    simp only [stripAll, show stripLeaf (.str n) = some (.str n) from rfl, a1, c1]; rfl, .mk a2 h2 h3 c2 h6 h7, a2, h2, h3, c2, h6, h7⟩
theorem cells3 {a b c : PV} : (PV.agg [a, b, c]).cells = [a, b, c] := rfl
theorem lcc {a : PV} {r : List PV} : loadcPV false 1 (.cp (a :: r)) = some a := rfl
theorem lcc3 {a b c : PV} : loadcPV true 3 (.cp [a, b, c]) = some (.agg [a, b, c]) := rfl
theorem ldcp3 {a b c : PV} : loadPV st true 3 (.cp [a, b, c]) = some (.agg [a, b, c]) := rfl

theorem rt_name {s : Bs} : rtB ⟨s, .nils, [], []⟩ = nmB s := by
  cases h : nmB s with
  | true => exact rtB_true ⟨h, (by decide +kernel : txB [] = true), by simp, by simp, fun i hi => by simp at hi, fun i hi => by simp at hi⟩
  | false => exact rtB_false fun hp => by rw [hp.1] at h; cases h
theorem tIsName_spec {x : Bs} (hl : x.length ≤ 1000000) : call prog (.fn 345 []) [.str x] st = some (.bool (nmB x), st) := by
  refine call_of_W prog_345 ?_
  unfold F_tree_isName; dsimp only
  have hb : buildCells [.str [], .nils, .str []] [(0, 1, .str x)] = some [.str x, .nils, .str []] := rfl
  have hrt := fun S : St => sRightR_spec (st := S) (L := ⟨x, .nils, [], []⟩) ⟨rfl, fun _ => rfl, rfl, hl, by simp, by simp, fun p hp => by simp at hp⟩
  simp only [lV, rt_name] at hrt
  simp (maxSteps := 1000000) (disch := omega) only [hb, hrt, qaaz, qabz, qaiz, qajz, qalz, evOp, qaoz, qapz, qaqz, qarz, qatz, qavz,
 ↓reduceIte, List.append_nil, List.map_cons, List.map_nil, qawz, Option.map_some, qazz, qblz, reduceCtorEq]
  exact retB rfl Kept.start rfl

theorem tUpper_spec {s : List UInt8} (h : s.length ≤ 1000000) : call prog (.fn 346 []) [.str s] st = some (.str (upOf s), st) := by
  refine call_of_W prog_346 ?_
  unfold F_tree_upper; dsimp only
  simp (maxSteps := 1000000) (disch := omega) only [bst_eq, len_ms, qaaz, qabz, qadz, qajz, qalz, evOp, qaoz, qapz, qarz, qatz, qavz,
 ↓reduceIte, List.append_nil, qawz, Option.map_some, qazz, reduceCtorEq]
  obtain ⟨I, hI⟩ : ∃ I : Nat → Env → St → Prop, I = fun n e s' => ∃ (i : Nat) (l : List UInt8), n = s.length - i ∧ i ≤ s.length ∧ l = upOf (s.take i) ++ s.drop i ∧ s' = bst st l ∧ e 3 = .ms st.boxes.length 0 s.length ∧ e 8 = .ms st.boxes.length 0 s.length ∧ e 9 = .int .i64 (s.length : Int) ∧ e 10 = .int .i64 (i : Int) := ⟨_, rfl⟩
  refine W_loop I ?_ (n := s.length) (by
    rw [hI]
    exact ⟨0, s, rfl, by omega, by simp [upOf], rfl, rfl, rfl, rfl, rfl⟩)
  intro n e s' hh
  rw [hI] at hh
  obtain ⟨i, l, rfl, hi, hl, rfl, h3, h8, h9, h10⟩ := hh
  have hll : l.length = s.length := by rw [hl]; simp [upOf]; omega
  by_cases hlt : i < s.length
  · obtain ⟨c, hc⟩ : ∃ c, c = s.getD i 0 := ⟨_, rfl⟩
    have hlc : l.getD i 0 = c := by
      rw [hl, hc]
      simp only [List.getD]
      rw [List.getElem?_append_right (by simp [upOf]; omega)]
      simp [upOf, Nat.min_eq_left hi]
    have hnext : ∀ (E : Env) (l' : List UInt8), l' = l.set i (upC c) → E 3 = .ms st.boxes.length 0 s.length → E 8 = .ms st.boxes.length 0 s.length → E 9 = .int .i64 (s.length : Int) → E 10 = .int .i64 ((i + 1 : Nat) : Int) → I (s.length - (i + 1)) E (bst st l') := by
      intro E l' k0 k1 k2 k3 k4
      rw [hI]
      refine ⟨i + 1, l', rfl, by omega, ?_, rfl, k1, k2, k3, k4⟩
      rw [k0, hl, take_getD hlt, ← hc, drop_getD hlt]
      have hn : (upOf (s.take i)).length = i := by simp [upOf]; omega
      rw [List.set_append_right _ _ (by omega), hn]
      simp [upOf]
    by_cases h97 : 97 ≤ c
    · by_cases h122 : c ≤ 122
      · simp (maxSteps := 1000000) (disch := omega) only [h3, h8, h9, h10, hlt, iaddr_ms, load_bst (st := st) (l := l) (i := i) (by omega), hlc, h97, h122, sub_8u, store_bst (st := st) (l := l) (i := i) (by omega), add_n, qaaz, qabz, qacz, qadz, qaez, qajz, qakz, qalz, qamz, qanz, evOp, qaoz, qapz, qarz, qatz, qauz, qavz,
 ↓reduceIte, Nat.reduceEqDiff, Option.map_some, qazz, qbdz, qbhz, qbpz, qbyz, qcaz, beq_true, decide_true, Int.toNat_natCast, Int.ofNat_lt, Int.reduceToNat]
        exact loopQ_intro (m := s.length - (i + 1)) (by omega) (hnext _ (l.set i (c - 32)) (by simp [upC, h97, h122]) h3 h8 h9 rfl)
      · simp (maxSteps := 1000000) (disch := omega) only [h8, h9, h10, hlt, iaddr_ms, load_bst (st := st) (l := l) (i := i) (by omega), hlc, h97, h122, add_n, qaaz, qabz, qacz, qadz, qaez, qajz, qakz, qalz, qamz, qanz, evOp, qaoz, qapz, qarz, qatz, qavz,
 ↓reduceIte, Nat.reduceEqDiff, Option.map_some, qazz, qbdz, qbhz, qbpz, qbyz, qcaz, beq_true, decide_true, decide_false,
 Int.toNat_natCast, Int.ofNat_lt, Bool.false_eq_true, Int.reduceToNat]
        exact loopQ_intro (m := s.length - (i + 1)) (by omega) (hnext _ l (by simp only [upC, h122, and_false, if_false]; rw [← hlc, List.getD, List.getElem?_eq_getElem (by omega)]; simp) h3 h8 h9 rfl)
    · simp (maxSteps := 1000000) (disch := omega) only [h8, h9, h10, hlt, iaddr_ms, load_bst (st := st) (l := l) (i := i) (by omega), hlc, h97, add_n, qaaz, qabz, qacz, qadz, qaez, qajz, qakz, qalz, qamz, qanz, evOp, qaoz, qapz, qarz, qatz, qavz,
 ↓reduceIte, Nat.reduceEqDiff, Option.map_some, qazz, qbdz, qbhz, qbpz, qcaz, beq_true, decide_true, decide_false,
 Int.toNat_natCast, Int.ofNat_lt, Bool.false_eq_true, Int.reduceToNat]
      exact loopQ_intro (m := s.length - (i + 1)) (by omega) (hnext _ l (by simp only [upC, h97, false_and, if_false]; rw [← hlc, List.getD, List.getElem?_eq_getElem (by omega)]; simp) h3 h8 h9 rfl)
  · obtain rfl : i = s.length := by omega
    simp (maxSteps := 1000000) (disch := omega) only [h3, h9, h10, hlt, b2s_bst (st := st) (l := l) hll.symm, qaaz, qabz, qacz, qagz, qaiz, qajz, qalz, evOp, qaoz, qarz, qatz, qavz,
 ↓reduceIte, Nat.reduceEqDiff, Option.map_some, qazz, qbbz, qbfz, qbhz, qbjz, qblz, qbpz, decide_false,
 Int.ofNat_lt, Bool.false_eq_true]
    exact ⟨.str (upOf s), by rw [hl]; simp [resOf, rvAll, rv1, qavz, notTup, packRes], leave_bst rfl (fun _ _ => rfl)⟩

noncomputable def sameT (A B : TD) : Bool := @decide (A = B) (Classical.propDecidable _)
noncomputable def sameTs (A B : List TD) : Bool := @decide (A = B) (Classical.propDecidable _)
theorem sameT_t {A B : TD} (h : A = B) : sameT A B = true := by unfold sameT; simp [h]
theorem sameT_f {A B : TD} (h : A ≠ B) : sameT A B = false := by unfold sameT; simp [h]
theorem sameTs_t {A B : List TD} (h : A = B) : sameTs A B = true := by unfold sameTs; simp [h]
theorem sameTs_f {A B : List TD} (h : A ≠ B) : sameTs A B = false := by unfold sameTs; simp [h]
def IsTs (cs : List TD) (v : PV) : Prop := ∃ ys, v.vs 3 = some ys ∧ ys.length = cs.length ∧ ∀ i, i < cs.length → IsT (cs.getD i T0) (ys.getD i .undef)

set_option maxHeartbeats 2000000 in
theorem SameAll_of {As Cs : List TD} (hs : ∀ A ∈ As, ∀ (B : TD) (x y : PV) (st : St), IsT A x → IsT B y → call prog (.fn 326 []) [x, y] st = some (.bool (sameT A B), st)) {x y : PV} (hx : IsTs As x) (hy : IsTs Cs y) (hl : As.length ≤ 100000) :
    call prog (.fn 335 []) [x, y] st = some (.bool (sameTs As Cs), st) := by
  refine call_of_W prog_335 ?_
  unfold F_posthornref11_SameAll; dsimp only
  generalize hQ1 : endQ st _ _ = Q0
  obtain ⟨xs, x1, x2, x3⟩ := hx
  obtain ⟨ys, y1, y2, y3⟩ := hy
  have hxl := len_vs x1
  have hyl := len_vs y1
  rw [x2] at hxl
  rw [y2] at hyl
  have no : ∀ (E : Env) (S : St), Kept st S → As ≠ Cs → E 4 = .bool false → Q0 .ret E S := fun E S k h h4 => by
    rw [← hQ1, qblz]
    exact retB h4 k (sameTs_f h).symm
  have yes : ∀ (E : Env) (S : St), Kept st S → As = Cs → E 4 = .bool true → Q0 .ret E S := fun E S k h h4 => by
    rw [← hQ1, qblz]
    exact retB h4 k (sameTs_t h).symm
  by_cases hlen : As.length = Cs.length
  · have e1 : ((As.length : Int) = (Cs.length : Int)) := by omega
    simp (maxSteps := 1000000) (disch := omega) only [hxl, hyl, hlen, qaaz, qabz, qacz, qadz, qaez, qajz, qalz, evOp, qaoz, qapz, qarz, qatz, qavz,
 ↓reduceIte, Nat.reduceEqDiff, List.append_nil, qawz, qaxz, Option.map_some, qazz, qbhz, qbuz, decide_false,
 Bool.false_eq_true, reduceCtorEq, ne_eq, not_true_eq_false]
    obtain ⟨I, hI⟩ : ∃ I : Nat → Env → St → Prop, I = fun k E S => ∃ i : Nat, k = As.length - i ∧ i ≤ As.length ∧ Kept st S ∧ (∀ j, j < i → As.getD j T0 = Cs.getD j T0) ∧ E 0 = x ∧ E 1 = y ∧ E 5 = .int .i64 (i : Int) := ⟨_, rfl⟩
    refine W_loop I ?_ (n := As.length) (by
      rw [hI]; exact ⟨0, rfl, by omega, Kept.start, fun j hj => by omega, rfl, rfl, rfl⟩)
    intro k E S hh
    rw [hI] at hh
    obtain ⟨i, rfl, hi, hk, hall, h0, h1, h5⟩ := hh
    by_cases hlt : i < As.length
    · have hltC : i < Cs.length := by omega
      obtain ⟨la, ca, q1, q2, q3, -, -⟩ := iaddr_T x1 (by omega) (x3 i hlt)
      obtain ⟨lb, cb, r1, r2, r3, -, -⟩ := iaddr_T y1 (by omega) (y3 i hltC)
      have hcall := fun S : St => hs _ (getD_mem hlt) _ _ _ S q3 r3
      by_cases heq : As.getD i T0 = Cs.getD i T0
      · rw [sameT_t heq] at hcall
        simp (maxSteps := 1000000) (disch := omega) only [h0, h1, h5, hxl, hlt, q2, r2, ldcp3, hcall, add_n, loopQ_normal, qaaz, qabz, qacz, qadz, qaez, qajz, qalz, evOp, qaoz, qapz, qaqz, qarz, qatz, qavz,
 ↓reduceIte, Nat.reduceEqDiff, List.map_cons, List.map_nil, Option.map_some, qazz, qbdz, qbhz, qbpz, qcfz, decide_true, Int.ofNat_lt, Bool.false_eq_true, Int.reduceToNat, reduceCtorEq, Bool.not_true]
        refine ⟨As.length - (i + 1), by omega, ?_⟩
        rw [hI]
        refine ⟨i + 1, rfl, by omega, hk, fun j hj => ?_, h0, h1, rfl⟩
        by_cases hji : j = i
        · subst hji; exact heq
        · exact hall j (by omega)
      · rw [sameT_f heq] at hcall
        simp (maxSteps := 1000000) (disch := omega) only [h0, h1, h5, hxl, hlt, q2, r2, ldcp3, hcall, qaaz, qabz, qacz, qadz, qaez, qaiz, qajz, qalz, evOp, qaoz, qapz, qaqz, qarz, qatz, qavz,
 ↓reduceIte, Nat.reduceEqDiff, List.map_cons, List.map_nil, Option.map_some, qazz, qbaz, qbez, qbhz, qbiz, qbpz, qcfz, decide_true, Int.ofNat_lt, reduceCtorEq, Bool.not_false]
        exact no _ _ hk (fun q => heq (by rw [q])) rfl
    · obtain rfl : i = As.length := by omega
      simp (maxSteps := 1000000) (disch := omega) only [h0, h5, hxl, hlt, qaaz, qabz, qacz, qagz, qaiz, qajz, qalz, evOp, qaoz, qapz, qarz, qatz, qavz,
 ↓reduceIte, Nat.reduceEqDiff, Option.map_some, qazz, qbbz, qbfz, qbhz, qbjz, qbpz, decide_false,
 Int.ofNat_lt, Bool.false_eq_true, reduceCtorEq]
      exact yes _ _ hk (list_ext0 hlen hall) rfl
  · have e1 : ¬ ((As.length : Int) = (Cs.length : Int)) := by omega
    simp (maxSteps := 1000000) (disch := omega) only [hxl, hyl, hlen, qaaz, qabz, qacz, qaiz, qajz, qalz, evOp, qaoz, qapz, qarz, qatz, qavz,
 ↓reduceIte, Nat.reduceEqDiff, List.append_nil, qawz, qaxz, Option.map_some, qazz, qbaz, qbhz, qbuz, decide_true, Int.natCast_inj, reduceCtorEq, ne_eq, not_false_eq_true]
    exact no _ _ Kept.start (fun h => hlen (by rw [h])) rfl

theorem TSame_spec : ∀ (A : TD), A.sm → ∀ (B : TD) (x y : PV) (st : St), IsT A x → IsT B y → call prog (.fn 326 []) [x, y] st = some (.bool (sameT A B), st) := by
  refine TD.ind ?_
  intro n ls cs ih hsm B x y st hx hy
  obtain ⟨m, ms, ds⟩ := B
  cases hsm with
  | mk s1 s2 s3 s4 s5 =>
  refine call_of_W prog_326 ?_
  unfold F_posthornref11_Same; dsimp only
  generalize hQ1 : endQ st _ _ = Q0
  obtain ⟨lv, cv, Ls, ys, a1, a2, a3, a4, a5, a6, a7, a8⟩ := strip_T hx
  obtain ⟨lw, cw, Ms, zs, b1, b2, b3, b4, b5, b6, b7, b8⟩ := strip_T hy
  have fin : ∀ (E : Env) (S : St) (b : Bool), Kept st S → b = sameT (.mk n ls cs) (.mk m ms ds) → E 4 = .bool b → Q0 .ret E S := fun E S b k h h4 => by
    rw [← hQ1, qblz]
    exact retB h4 k h
  have hLl : Ls.length = ls.length := by rw [← a4]; simp
  have h92 := fun S : St => SameL_spec (st := S) a3 b3 (fun L hL => ⟨(a5 L hL).1, by
    have := s3 (ofLn L) (by rw [← a4]; exact List.mem_map.2 ⟨L, hL, rfl⟩)
    have := this.2.2.1
    simp only [ofLn] at this; omega⟩) (fun L hL => (b5 L hL).1) (by omega)
  have h335 := fun S : St => SameAll_of (st := S) (As := cs) (Cs := ds) (fun A hA B x y st => ih A hA (s5 A hA) B x y st) ⟨ys, a6, a7, a8⟩ ⟨zs, b6, b7, b8⟩ s4
  have hsl : sameLB Ls Ms = decide (ls = ms) := by unfold sameLB; rw [a4, b4]
  rw [hsl] at h92
  by_cases h1 : n = m
  · by_cases h2 : ls = ms
    · by_cases h3 : cs = ds
      · rw [sameTs_t h3] at h335
        simp (maxSteps := 1000000) (disch := omega) only [a1, b1, cells3, fa3_0, fa3_1, fa3_2, lcc, eq_true h1, h92, eq_true h2, h335, qaaz, qabz, qaiz, qajz, qakz, qalz, qamz, qanz, evOp, qaoz, qapz, qaqz, qarz, qatz, qavz,
 ↓reduceIte, Nat.reduceEqDiff, List.append_nil, List.map_cons, List.map_nil, qawz, qaxz, Option.map_some, qazz, qcbz, beq_true, decide_true]
        exact fin _ _ true Kept.start (sameT_t (by rw [h1, h2, h3])).symm rfl
      · rw [sameTs_f h3] at h335
        simp (maxSteps := 1000000) (disch := omega) only [a1, b1, cells3, fa3_0, fa3_1, fa3_2, lcc, eq_true h1, h92, eq_true h2, h335, qaaz, qabz, qaiz, qajz, qakz, qalz, qamz, qanz, evOp, qaoz, qapz, qaqz, qarz, qatz, qavz,
 ↓reduceIte, Nat.reduceEqDiff, List.append_nil, List.map_cons, List.map_nil, qawz, qaxz, Option.map_some, qazz, qcbz, beq_true, decide_true]
        exact fin _ _ false Kept.start (sameT_f (fun q => h3 (by cases q; rfl))).symm rfl
    · simp (maxSteps := 1000000) (disch := omega) only [a1, b1, cells3, fa3_0, fa3_1, lcc, eq_true h1, h92, h2, qaaz, qabz, qaiz, qajz, qakz, qalz, qamz, qanz, evOp, qaoz, qapz, qaqz, qarz, qatz, qavz,
 ↓reduceIte, Nat.reduceEqDiff, List.append_nil, List.map_cons, List.map_nil, qawz, qaxz, Option.map_some, qazz, qcbz, beq_true, decide_true, decide_false,
 Bool.false_eq_true]
      exact fin _ _ false Kept.start (sameT_f (fun q => h2 (by cases q; rfl))).symm rfl
  · simp (maxSteps := 1000000) (disch := omega) only [a1, b1, cells3, fa3_0, lcc, h1, qaaz, qabz, qaiz, qajz, qakz, qalz, qamz, qanz, evOp, qaoz, qapz, qarz, qatz, qavz,
 ↓reduceIte, Nat.reduceEqDiff, List.append_nil, qawz, qaxz, Option.map_some, qazz, qcbz, beq_true, decide_false,
 Bool.false_eq_true]
    exact fin _ _ false Kept.start (sameT_f (fun q => h1 (by cases q; rfl))).symm rfl

theorem part_le {cs : List TD} {i : Nat} (h : i < cs.length) : cntL (cs.take i) + (cs.getD i T0).cnt ≤ cntL cs ∧ lnsL (cs.take i) + (cs.getD i T0).lns ≤ lnsL cs ∧ max (deepL (cs.take i)) (cs.getD i T0).deep ≤ deepL cs := by
  have e : cs = cs.take i ++ (cs.getD i T0 :: cs.drop (i + 1)) := by
    rw [show cs.getD i T0 :: cs.drop (i + 1) = cs.drop i by rw [List.drop_eq_getElem_cons h]; simp [List.getD, h], List.take_append_drop]
  have h1 := congrArg cntL e
  have h2 := congrArg lnsL e
  have h3 := congrArg deepL e
  rw [cntL_app] at h1
  rw [lnsL_app] at h2
  rw [deepL_app] at h3
  simp only [cntL, lnsL, deepL] at h1 h2 h3
  exact ⟨by omega, by omega, by omega⟩
theorem take_succ_T {cs : List TD} {i : Nat} (h : i < cs.length) : cntL (cs.take (i + 1)) = cntL (cs.take i) + (cs.getD i T0).cnt ∧ lnsL (cs.take (i + 1)) = lnsL (cs.take i) + (cs.getD i T0).lns ∧ deepL (cs.take (i + 1)) = max (deepL (cs.take i)) (cs.getD i T0).deep := by
  rw [take_snoc (d := T0) h, cntL_app, lnsL_app, deepL_app]
  simp [cntL, lnsL, deepL]
theorem ret3I {a b c : Nat} {p q r : Int} {p' q' r' : Int} (ha : e a = .int .i64 p) (hb : e b = .int .i64 q) (hc : e c = .int .i64 r) (hk : Kept st s) (h1 : p = p') (h2 : q = q') (h3 : r = r') :
    ∃ rv, resOf e s [.tmp a, .tmp b, .tmp c] = some rv ∧ leave st s rv = (.tup [.int .i64 p', .int .i64 q', .int .i64 r'], st) := by
  subst h1 h2 h3
  exact ret3 ha hb hc rfl rfl rfl hk ⟨fun _ => rfl, fun _ _ => rfl⟩

end Go.Ab
/-
  Trees that may be.
-/
namespace Go.Ab
set_option maxRecDepth 20000
variable {st s : St} {e : Env}

theorem lineB_of {L : Ln} (h : L.good) : lineB (ofLn L) = (rtB L && !decide (L.n = begS) && !decide (L.n = endS)) := by
  unfold lineB
  rw [show rtB (toLn (ofLn L)) = rtB L from rtB_pv]; rfl
theorem lineB_ok {L : Ln} (hr : rtB L = true) (h1 : L.n ≠ begS) (h2 : L.n ≠ endS) (h : L.good) : lineB (ofLn L) = true := by rw [lineB_of h, hr]; simp [h1, h2]
theorem all_take {α : Type} {p : α → Bool} {d : α} {l : List α} (h : ∀ i, i < l.length → p (l.getD i d) = true) : l.all p = true := by
  rw [List.all_eq_true]
  intro x hx
  obtain ⟨i, hi, rfl⟩ := List.mem_iff_getElem.1 hx
  have := h i hi
  simpa [List.getD, hi] using this
theorem all_not {α : Type} {p : α → Bool} {d : α} {l : List α} {i : Nat} (hi : i < l.length) (h : p (l.getD i d) = false) : l.all p = false := by
  rw [Bool.eq_false_iff]
  intro q
  rw [List.all_eq_true] at q
  have := q _ (getD_mem (d := d) hi)
  rw [h] at this; cases this
theorem getD_map {Ls : List Ln} {i : Nat} (h : i < Ls.length) : (Ls.map ofLn).getD i ([], [], []) = ofLn (Ls.getD i L0) := by simp [List.getD, h]

def stB (st : St) (b : Nat) (c l : Nat) : St := ⟨st.boxes.set b [.int .i64 (c : Int), .int .i64 (l : Int)], st.toks, st.loops, st.low⟩
theorem Kept.setB {S : St} {b c l c' l' : Nat} (h : Kept (stB st b c l) S) : Kept (stB st b c' l') ⟨S.boxes.set b [.int .i64 (c' : Int), .int .i64 (l' : Int)], S.toks, S.loops, S.low⟩ := by
  obtain ⟨h1, h2, h3, h4⟩ := h
  simp only [stB, List.length_set] at h1 h3 h4
  refine ⟨?_, h2, by simpa [stB] using h3, h4⟩
  simp only [stB, List.length_set, List.take_set, h1, List.set_set]
theorem Kept.atB {S : St} {b c l : Nat} (h : Kept (stB st b c l) S) (hb : b < st.boxes.length) : At S b [.int .i64 (c : Int), .int .i64 (l : Int)] := by
  have h1 := h.bx
  simp only [stB, List.length_set] at h1
  have h2 := congrArg (fun l => l[b]?) h1
  simp only [List.getElem?_take, hb, if_true, List.getElem?_set_self hb] at h2
  exact h2
theorem At.sti0 {S : St} {b : Nat} {x y : PV} {c : Int} (h : At S b [x, y]) : storePV S 1 (.ptr b 0) (.int .i64 c) = some ⟨S.boxes.set b [.int .i64 c, y], S.toks, S.loops, S.low⟩ := by
  unfold At at h
  simp [storePV, h, PV.cells, PV.inB, setCells, leafOk, hasTok, tokOf]
theorem At.sti1 {S : St} {b : Nat} {x y : PV} {c : Int} (h : At S b [x, y]) : storePV S 1 (.ptr b 1) (.int .i64 c) = some ⟨S.boxes.set b [x, .int .i64 c], S.toks, S.loops, S.low⟩ := by
  unfold At at h
  simp [storePV, h, PV.cells, PV.inB, setCells, leafOk, hasTok, tokOf]
theorem At.stB_eq {b c l : Nat} (h : At st b [.int .i64 (c : Int), .int .i64 (l : Int)]) : stB st b c l = st := by
  unfold At at h
  obtain ⟨hlt, hg⟩ := List.getElem?_eq_some_iff.1 h
  have : st.boxes.set b [.int .i64 (c : Int), .int .i64 (l : Int)] = st.boxes := by rw [← hg]; simp
  unfold stB; rw [this]
noncomputable def okM (T : TD) (k c l : Nat) : Bool := T.fit && decide (k + T.deep ≤ 9) && decide (c + T.cnt ≤ 64) && decide (l + T.lns ≤ 8192)
theorem okM_false {T : TD} {k c l : Nat} (h : T.fit = false ∨ 9 < k + T.deep ∨ 64 < c + T.cnt ∨ 8192 < l + T.lns) : okM T k c l = false := by
  rw [Bool.eq_false_iff]
  intro q
  simp only [okM, Bool.and_eq_true, decide_eq_true_eq] at q
  obtain ⟨⟨⟨q1, q2⟩, q3⟩, q4⟩ := q
  rcases h with h | h | h | h
  · rw [h] at q1; cases q1
  · omega
  · omega
  · omega
theorem okM_cases {T : TD} {k c l : Nat} (h : okM T k c l = false) : T.fit = false ∨ 9 < k + T.deep ∨ 64 < c + T.cnt ∨ 8192 < l + T.lns := by
  by_cases h1 : T.fit = true
  · by_cases h2 : k + T.deep ≤ 9
    · by_cases h3 : c + T.cnt ≤ 64
      · by_cases h4 : l + T.lns ≤ 8192
        · simp [okM, h1, h2, h3, h4] at h
        · omega
      · omega
    · omega
  · left; simpa using h1

set_option maxHeartbeats 8000000 in
theorem meter_spec : ∀ (T : TD), T.sm → ∀ (x : PV) (st : St) (b c l k : Nat), IsT T x → At st b [.int .i64 (c : Int), .int .i64 (l : Int)] → c ≤ 1000000 → l ≤ 1000000 → k ≤ 1000 →
    ∃ c' l', call prog (.fn 341 []) [.ptr b 0, x, .int .i64 (k : Int)] st = some (.bool (okM T k c l), stB st b c' l') ∧ (okM T k c l = true → c' = c + T.cnt ∧ l' = l + T.lns) := by
  refine TD.ind ?_
  intro n ls cs ih hsm x st b c l k hx hAt hcb hlb hkb
  cases hsm with
  | mk s1 s2 s3 s4 s5 =>
  have hbl := hAt.lt
  have hcore : ∃ r, call prog (.fn 341 []) [.ptr b 0, x, .int .i64 (k : Int)] st = some r ∧ ∃ c' l', r = (.bool (okM (.mk n ls cs) k c l), stB st b c' l') ∧ (okM (.mk n ls cs) k c l = true → c' = c + (TD.mk n ls cs).cnt ∧ l' = l + (TD.mk n ls cs).lns) := by
    refine call_ex prog_341 ?_
    unfold F_P_tree_meter_right; dsimp only
    generalize hQ1 : endX st _ _ = Q0
    obtain ⟨lv, cv, Ls, ys, a1, a2, a3, a4, a5, a6, a7, a8⟩ := strip_T hx
    have hll := len_vs a3
    have hcl := len_vs a6
    rw [a7] at hcl
    have hLl : Ls.length = ls.length := by rw [← a4]; simp
    rw [List.length_map, hLl] at hll
    obtain ⟨T, hT⟩ : ∃ T, T = TD.mk n ls cs := ⟨_, rfl⟩
    have hTf : T.fit = (nmB n && ls.all lineB && cs.all TD.fit) := by rw [hT, TD.fit, fitL_all]
    have hTc : T.cnt = 1 + cntL cs := by rw [hT, TD.cnt]
    have hTl : T.lns = ls.length + lnsL cs := by rw [hT, TD.lns]
    have hTd : T.deep = 1 + deepL cs := by rw [hT, TD.deep]
    rw [← hT] at hQ1
    have fin : ∀ (E : Env) (S : St) (c' l' : Nat) (ok : Bool), Kept (stB st b c' l') S → ok = okM T k c l → (ok = true → c' = c + T.cnt ∧ l' = l + T.lns) → E 6 = .bool ok → Q0 .ret E S := by
      intro E S c' l' ok hk ho hc h6
      rw [← hQ1]
      refine ⟨.inr rfl, .bool ok, by simp [resOf, rvAll, rv1, h6, notTup, packRes], c', l', ?_, by rw [← ho]; exact hc⟩
      obtain ⟨k1, k2, k3, k4⟩ := hk
      simp only [stB, List.length_set] at k1 k2 k3 k4
      simp [leave, PV.inB, k3, keepRes, keepVal, keepLeaf, k1, k2, k4, stB, ho]
    have no : ∀ (E : Env) (S : St) (c' l' : Nat), Kept (stB st b c' l') S → (T.fit = false ∨ 9 < k + T.deep ∨ 64 < c + T.cnt ∨ 8192 < l + T.lns) → E 6 = .bool false → Q0 .ret E S := fun E S c' l' hk h h6 =>
      fin E S c' l' false hk (okM_false h).symm (fun q => by cases q) h6
    have hS0 : Kept (stB st b c l) { st with low := st.boxes.length } := by rw [hAt.stB_eq]; exact Kept.start
    refine W_cut (fun E S => Kept (stB st b c l) S ∧ E 0 = .ptr b 0 ∧ E 2 = .int .i64 (k : Int) ∧ E 4 = .cp [.str n, lv, cv]) ?_ ?_
    · simp (maxSteps := 1000000) (disch := omega) only [a1, cells3, qabz, qajz, qalz, evOp, qaoz, qapz, qarz, qatz, qavz,
 ↓reduceIte, Nat.reduceEqDiff, qawz, qaxz, Option.map_some, true_and, and_true, reduceCtorEq]
      exact hS0
    rintro e S ⟨hk, h0, h2, h4⟩
    refine W_cut (fun E S => Kept (stB st b (c + 1) l) S ∧ E 0 = .ptr b 0 ∧ E 2 = .int .i64 (k : Int) ∧ E 4 = .cp [.str n, lv, cv]) ?_ ?_
    · have hA := hk.atB hbl
      have hld := hA.load (k := 0) (v := .int .i64 (c : Int)) (r := [.int .i64 (l : Int)]) rfl
      have hst := hA.sti0 (c := ((c + 1 : Nat) : Int))
      simp (maxSteps := 1000000) (disch := omega) only [h0, h2, h4, faP, Nat.zero_add, hld, add_n, Int.reduceToNat, hst, qabz, qajz, qalz, evOp, qaoz, qapz, qarz, qatz, qauz, qavz,
 ↓reduceIte, Nat.reduceEqDiff, Option.map_some, qckz, Int.reduceToNat, true_and, and_true, reduceCtorEq]
      exact hk.setB
    clear hk h0 h2 h4 hS0
    rintro e S ⟨hk, h0, h2, h4⟩
    refine W_cut (fun E S => Kept (stB st b (c + 1) (l + ls.length)) S ∧ E 0 = .ptr b 0 ∧ E 2 = .int .i64 (k : Int) ∧ E 4 = .cp [.str n, lv, cv]) ?_ ?_
    · have hA := hk.atB hbl
      have hld := hA.load (k := 1) (v := .int .i64 (l : Int)) (r := []) rfl
      have hst := hA.sti1 (c := ((l + ls.length : Nat) : Int))
      simp (maxSteps := 1000000) (disch := omega) only [h0, h2, h4, faP, Nat.zero_add, hld, fa3_1, lcc, hll, add_n, hst, qabz, qajz, qalz, evOp, qaoz, qarz, qatz, qauz, qavz,
 ↓reduceIte, Nat.reduceEqDiff, Option.map_some, Int.toNat_natCast, qckz, true_and, and_true, reduceCtorEq]
      exact hk.setB
    clear hk h0 h2 h4
    rintro e S ⟨hk, h0, h2, h4⟩
    have hnm := fun S : St => tIsName_spec (st := S) (x := n) (by omega)
    have hA := hk.atB hbl
    have hld0 := hA.load (k := 0) (v := .int .i64 ((c + 1 : Nat) : Int)) (r := [.int .i64 ((l + ls.length : Nat) : Int)]) rfl
    have hld1 := hA.load (k := 1) (v := .int .i64 ((l + ls.length : Nat) : Int)) (r := []) rfl
    cases hn : nmB n with
    | false =>
      rw [hn] at hnm
      simp (maxSteps := 1000000) (disch := omega) only [h4, fa3_0, lcc, hnm, qaaz, qabz, qacz, qaiz, qajz, qakz, qalz, qamz, qanz, evOp, qaoz, qapz, qaqz, qarz, qatz, qavz,
 ↓reduceIte, Nat.reduceEqDiff, List.map_cons, List.map_nil, Option.map_some, qazz, qbaz, qbhz, qcfz, beq_false, Bool.false_eq_true, Bool.not_true, Bool.not_false]
      exact no _ _ _ _ hk (.inl (by rw [hTf, hn]; rfl)) rfl
    | true =>
    rw [hn] at hnm
    by_cases hk8 : 8 < k
    · have e1 : (8 : Int) < (k : Int) := by omega
      simp (maxSteps := 1000000) (disch := omega) only [h2, h4, fa3_0, lcc, hnm, e1, qaaz, qabz, qacz, qaiz, qajz, qakz, qalz, qamz, qanz, evOp, qaoz, qapz, qaqz, qarz, qatz, qavz,
 ↓reduceIte, Nat.reduceEqDiff, List.map_cons, List.map_nil, Option.map_some, qazz, qbaz, qbhz, qbrz, qcfz, beq_false, decide_true, Bool.false_eq_true, Bool.not_true, Bool.not_false]
      exact no _ _ _ _ hk (.inr (.inl (by omega))) rfl
    have e1 : ¬ (8 : Int) < (k : Int) := by omega
    by_cases hc64 : 64 < c + 1
    · have e2 : (64 : Int) < ((c + 1 : Nat) : Int) := by omega
      simp (maxSteps := 1000000) (disch := omega) only [h0, h2, h4, fa3_0, lcc, hnm, e1, faP, Nat.zero_add, hld0, e2, qaaz, qabz, qacz, qaiz, qajz, qakz, qalz, qamz, qanz, evOp, qaoz, qapz, qaqz, qarz, qatz, qavz,
 ↓reduceIte, Nat.reduceEqDiff, List.map_cons, List.map_nil, Option.map_some, qazz, qbaz, qbhz, qbrz, qcfz, beq_false, decide_true, decide_false,
 Bool.false_eq_true, qckz, reduceCtorEq, Bool.not_true, Bool.not_false]
      exact no _ _ _ _ hk (.inr (.inr (.inl (by omega)))) rfl
    have e2 : ¬ (64 : Int) < ((c + 1 : Nat) : Int) := by omega
    by_cases hl8 : 8192 < l + ls.length
    · have e3 : (8192 : Int) < ((l + ls.length : Nat) : Int) := by omega
      simp (maxSteps := 1000000) (disch := omega) only [h0, h2, h4, fa3_0, lcc, hnm, e1, faP, Nat.zero_add, hld0, hld1, e2, e3, qaaz, qabz, qacz, qaiz, qajz, qakz, qalz, qamz, qanz, evOp, qaoz, qapz, qaqz, qarz, qatz, qavz,
 ↓reduceIte, Nat.reduceEqDiff, List.map_cons, List.map_nil, Option.map_some, qazz, qbaz, qbhz, qbrz, qcfz, beq_false, decide_true, decide_false,
 Bool.false_eq_true, qckz, reduceCtorEq, Bool.not_true, Bool.not_false]
      exact no _ _ _ _ hk (.inr (.inr (.inr (by omega)))) rfl
    have e3 : ¬ (8192 : Int) < ((l + ls.length : Nat) : Int) := by omega
    simp (maxSteps := 1000000) (disch := omega) only [h0, h2, h4, fa3_0, fa3_1, lcc, hnm, e1, faP, Nat.zero_add, hld0, hld1, e2, e3, hll, qaaz, qabz, qacz, qadz, qaez, qajz, qakz, qalz, qamz, qanz, evOp, qaoz, qapz, qaqz, qarz, qatz, qavz,
 ↓reduceIte, Nat.reduceEqDiff, List.map_cons, List.map_nil, Option.map_some, qazz, qbhz, qbrz, qcfz, beq_false, decide_false,
 Bool.false_eq_true, qckz, reduceCtorEq, Bool.not_true, Bool.not_false]
    clear hld0 hld1 hA
    obtain ⟨I, hI⟩ : ∃ I : Nat → Env → St → Prop, I = fun z E S => ∃ i : Nat, z = ls.length - i ∧ i ≤ ls.length ∧ Kept (stB st b (c + 1) (l + ls.length)) S ∧ (∀ j, j < i → lineB (ls.getD j ([], [], [])) = true) ∧ E 0 = .ptr b 0 ∧ E 2 = .int .i64 (k : Int) ∧ E 4 = .cp [.str n, lv, cv] ∧ E 51 = lv ∧ E 52 = .int .i64 (ls.length : Int) ∧ E 53 = .int .i64 (i : Int) := ⟨_, rfl⟩
    refine W_loop I ?_ (n := ls.length) (by
      rw [hI]; exact ⟨0, rfl, by omega, hk, fun j hj => by omega, h0, h2, h4, rfl, rfl, rfl⟩)
    clear hk h0 h2 h4
    intro z E S hh
    rw [hI] at hh
    obtain ⟨i, rfl, hi, hk, hall, h0, h2, h4, h51, h52, h53⟩ := hh
    by_cases hlt : i < ls.length
    · obtain ⟨L, hL⟩ : ∃ L, L = Ls.getD i L0 := ⟨_, rfl⟩
      have hltL : i < Ls.length := by omega
      have hLm : L ∈ Ls := by rw [hL]; exact getD_mem hltL
      have hg := a5 L hLm
      have hia := iaddr_L (k := .i64) (c := (i : Int)) a3 (by omega) (by rw [Int.toNat_natCast]; exact hltL)
      rw [Int.toNat_natCast, ← hL] at hia
      have hgd : ls.getD i ([], [], []) = ofLn L := by rw [← a4, getD_map hltL, ← hL]
      have hok : L.ok := hg.ok (by rw [← hgd]; exact s3 _ (getD_mem hlt))
      have hrt := fun S : St => sRight_spec (st := S) hok
      simp only [lV] at hrt
      have bad : lineB (ofLn L) = false → T.fit = false := fun h => by
        rw [hTf, all_not (d := ([], [], [])) hlt (by rw [hgd]; exact h)]; simp
      obtain ⟨b8, hb8⟩ : ∃ b8, b8 = S.boxes.length := ⟨_, rfl⟩
      have hle8 : (stB st b (c + 1) (l + ls.length)).boxes.length ≤ b8 := by have := hk.bl; omega
      have hA8 := At.last (s := S) (z := [.str [], .nils, .str []]) (T := S.toks) (Lp := S.loops) (lo := S.low)
      rw [← hb8] at hA8
      obtain ⟨S1, q1, w1⟩ := hA8.st3 (v0 := .str L.n) (v1 := L.pv) (v2 := .str L.v) rfl hok.lf rfl rfl (hok.ib _) rfl
      have m1 := w1.kp _ hk.alloc' hle8
      have hln := w1.at_.load (k := 0) (v := .str L.n) (r := [L.pv, .str L.v]) rfl
      cases hr : rtB L with
      | false =>
        rw [hr] at hrt
        simp (maxSteps := 1000000) (disch := omega) only [h51, h52, h53, hlt, hia, ldcp3, allocPV, ← hb8, q1, w1.at_.ld3, hrt, qaaz, qabz, qacz, qadz, qaez, qaiz, qajz, qakz, qalz, qamz, qanz, evOp, qaoz, qapz, qaqz, qarz, qatz, qauz, qavz,
 ↓reduceIte, Nat.reduceEqDiff, List.map_cons, List.map_nil, Option.map_some, qazz, qbaz, qbez, qbhz, qbiz, qbpz, qcfz, beq_false, decide_true, Int.ofNat_lt, Bool.false_eq_true, Bool.not_true, Bool.not_false]
        exact no _ _ _ _ m1 (.inl (bad (by rw [lineB_of hg, hr]; rfl))) rfl
      | true =>
      rw [hr] at hrt
      by_cases hb : L.n = begS
      · have hb' : L.n = [66, 69, 71, 73, 78] := hb
        simp (maxSteps := 1000000) (disch := omega) only [h51, h52, h53, hlt, hia, ldcp3, allocPV, ← hb8, q1, w1.at_.ld3, hrt, faP, Nat.zero_add, hln, eq_true hb', qaaz, qabz, qacz, qadz, qaez, qaiz, qajz, qakz, qalz, qamz, qanz, evOp, qaoz, qapz, qaqz, qarz, qatz, qauz, qavz,
 ↓reduceIte, Nat.reduceEqDiff, List.map_cons, List.map_nil, Option.map_some, qazz, qbaz, qbez, qbhz, qbiz, qbpz, qcbz, qcfz, beq_false, decide_true, Int.ofNat_lt, Bool.false_eq_true, Bool.not_true, Bool.not_false]
        exact no _ _ _ _ m1 (.inl (bad (by rw [lineB_of hg, hr]; simp [hb]))) rfl
      · by_cases he : L.n = endS
        · have hb' : ¬ L.n = [66, 69, 71, 73, 78] := hb
          have he' : L.n = [69, 78, 68] := he
          simp (maxSteps := 1000000) (disch := omega) only [h51, h52, h53, hlt, hia, ldcp3, allocPV, ← hb8, q1, w1.at_.ld3, hrt, faP, Nat.zero_add, hln, hb', eq_true he', qaaz, qabz, qacz, qadz, qaez, qaiz, qajz, qakz, qalz, qamz, qanz, evOp, qaoz, qapz, qaqz, qarz, qatz, qauz, qavz,
 ↓reduceIte, Nat.reduceEqDiff, List.map_cons, List.map_nil, Option.map_some, qazz, qbaz, qbez, qbhz, qbiz, qbpz, qcbz, qcfz, beq_false, decide_true, decide_false,
 Int.ofNat_lt, Bool.false_eq_true, Bool.not_true, Bool.not_false]
          exact no _ _ _ _ m1 (.inl (bad (by rw [lineB_of hg, hr]; simp [he]))) rfl
        · have hb' : ¬ L.n = [66, 69, 71, 73, 78] := hb
          have he' : ¬ L.n = [69, 78, 68] := he
          simp (maxSteps := 1000000) (disch := omega) only [h51, h52, h53, hlt, hia, ldcp3, allocPV, ← hb8, q1, w1.at_.ld3, hrt, faP, Nat.zero_add, hln, hb', he', add_n, loopQ_normal, qaaz, qabz, qacz, qadz, qaez, qajz, qakz, qalz, qamz, qanz, evOp, qaoz, qapz, qaqz, qarz, qatz, qauz, qavz,
 ↓reduceIte, Nat.reduceEqDiff, List.map_cons, List.map_nil, Option.map_some, qazz, qbdz, qbhz, qbpz, qcbz, qcfz, beq_false, decide_true, decide_false,
 Int.ofNat_lt, Bool.false_eq_true, Int.reduceToNat, Bool.not_true, Bool.not_false]
          refine ⟨ls.length - (i + 1), by omega, ?_⟩
          rw [hI]
          refine ⟨i + 1, rfl, by omega, m1, fun j hj => ?_, h0, h2, h4, h51, h52, rfl⟩
          by_cases hji : j = i
          · subst hji; rw [hgd]; exact lineB_ok hr hb he hg
          · exact hall j (by omega)
    · obtain rfl : i = ls.length := by omega
      have hls := all_take (p := lineB) hall
      simp (maxSteps := 1000000) (disch := omega) only [h4, h52, h53, fa3_2, lcc, hcl, hlt, qaaz, qabz, qacz, qadz, qagz, qajz, qalz, evOp, qaoz, qapz, qarz, qatz, qavz,
 ↓reduceIte, Nat.reduceEqDiff, Option.map_some, qazz, qbbz, qbfz, qbhz, qbjz, qbpz, decide_false,
 Int.ofNat_lt, Bool.false_eq_true]
      clear hI I
      obtain ⟨I, hI⟩ : ∃ I : Nat → Env → St → Prop, I = fun z E S => ∃ i : Nat, z = cs.length - i ∧ i ≤ cs.length ∧ Kept (stB st b (c + 1 + cntL (cs.take i)) (l + ls.length + lnsL (cs.take i))) S ∧ (∀ j, j < i → TD.fit (cs.getD j T0) = true) ∧ k + deepL (cs.take i) ≤ 8 ∧ c + 1 + cntL (cs.take i) ≤ 64 ∧ l + ls.length + lnsL (cs.take i) ≤ 8192 ∧ E 0 = .ptr b 0 ∧ E 2 = .int .i64 (k : Int) ∧ E 72 = cv ∧ E 73 = .int .i64 (cs.length : Int) ∧ E 74 = .int .i64 (i : Int) := ⟨_, rfl⟩
      refine W_loop I ?_ (n := cs.length) (by
        rw [hI]; exact ⟨0, rfl, by omega, by simpa [cntL, lnsL] using hk, fun j hj => by omega, by simp [deepL]; omega, by simp [cntL]; omega, by simp [lnsL]; omega, h0, h2, rfl, rfl, rfl⟩)
      clear hk h0 h2 h4 h51 h52 h53
      intro z E S hh
      rw [hI] at hh
      obtain ⟨i, rfl, hi, hk, hallc, hd8, hc8, hl8', h0, h2, h72, h73, h74⟩ := hh
      by_cases hltc : i < cs.length
      · obtain ⟨la, ca, q1, q2, q3, q4, q5⟩ := iaddr_T a6 (by omega) (a8 i hltc)
        obtain ⟨p1, p2, p3⟩ := part_le hltc
        obtain ⟨t1, t2, t3⟩ := take_succ_T hltc
        obtain ⟨d, hd⟩ : ∃ d, d = cs.getD i T0 := ⟨_, rfl⟩
        rw [← hd] at q2 q3 p1 p2 p3 t1 t2 t3
        have hdm : d ∈ cs := by rw [hd]; exact getD_mem hltc
        obtain ⟨ci, hci⟩ : ∃ ci, ci = c + 1 + cntL (cs.take i) := ⟨_, rfl⟩
        obtain ⟨li, hli⟩ : ∃ li, li = l + ls.length + lnsL (cs.take i) := ⟨_, rfl⟩
        rw [← hci, ← hli] at hk
        obtain ⟨b10, hb10⟩ : ∃ b10, b10 = S.boxes.length := ⟨_, rfl⟩
        have hle10 : (stB st b ci li).boxes.length ≤ b10 := by have := hk.bl; omega
        have hA10 := At.last (s := S) (z := [.str [], .nils, .nils]) (T := S.toks) (Lp := S.loops) (lo := S.low)
        rw [← hb10] at hA10
        obtain ⟨S1, u1, w1⟩ := hA10.st3 (v0 := .str d.n) (v1 := la) (v2 := ca) rfl q4.1 q5.1 rfl (q4.2 _) (q5.2 _)
        have m1 := w1.kp _ hk.alloc' hle10
        have hAb := m1.atB hbl
        obtain ⟨c', l', r1, r2⟩ := ih d hdm (s5 d hdm) _ S1 b ci li (k + 1) q3 hAb (by omega) (by omega) (by omega)
        have m2 : Kept (stB st b c' l') (stB S1 b c' l') := m1.setB
        cases hok : okM d (k + 1) ci li with
        | false =>
          rw [hok] at r1
          simp (maxSteps := 1000000) (disch := omega) only [h0, h2, h72, h73, h74, hltc, q2, ldcp3, allocPV, ← hb10, u1, w1.at_.ld3, add_n, Int.reduceToNat, r1, qaaz, qabz, qacz, qadz, qaez, qaiz, qajz, qalz, evOp, qaoz, qapz, qaqz, qarz, qatz, qauz, qavz,
 ↓reduceIte, Nat.reduceEqDiff, List.map_cons, List.map_nil, Option.map_some, qazz, qbaz, qbez, qbhz, qbiz, qbpz, qcfz, decide_true, Int.ofNat_lt, Int.reduceToNat, reduceCtorEq, Bool.not_false]
          refine no _ _ _ _ m2 ?_ rfl
          rcases okM_cases hok with h | h | h | h
          · left; rw [hTf, all_not (d := T0) hltc (by rw [← hd]; exact h)]; simp
          · right; left; omega
          · right; right; left; omega
          · right; right; right; omega
        | true =>
          rw [hok] at r1
          obtain ⟨rfl, rfl⟩ := r2 hok
          simp only [okM, Bool.and_eq_true, decide_eq_true_eq] at hok
          obtain ⟨⟨⟨o1, o2⟩, o3⟩, o4⟩ := hok
          simp (maxSteps := 1000000) (disch := omega) only [h0, h2, h72, h73, h74, hltc, q2, ldcp3, allocPV, ← hb10, u1, w1.at_.ld3, add_n, Int.reduceToNat, r1, loopQ_normal, qaaz, qabz, qacz, qadz, qaez, qajz, qalz, evOp, qaoz, qapz, qaqz, qarz, qatz, qauz, qavz,
 ↓reduceIte, Nat.reduceEqDiff, List.map_cons, List.map_nil, Option.map_some, qazz, qbdz, qbhz, qbpz, qcfz, decide_true, Int.ofNat_lt, Bool.false_eq_true, Int.reduceToNat, reduceCtorEq, Bool.not_true]
          refine ⟨cs.length - (i + 1), by omega, ?_⟩
          rw [hI]
          refine ⟨i + 1, rfl, by omega, ?_, fun j hj => ?_, by omega, by omega, by omega, h0, h2, h72, h73, rfl⟩
          · rw [t1, t2, show c + 1 + (cntL (cs.take i) + d.cnt) = ci + d.cnt by omega, show l + ls.length + (lnsL (cs.take i) + d.lns) = li + d.lns by omega]
            exact m2
          · by_cases hji : j = i
            · subst hji; rw [← hd]; exact o1
            · exact hallc j (by omega)
      · obtain rfl : i = cs.length := by omega
        rw [List.take_length] at hk hd8 hc8 hl8'
        simp (maxSteps := 1000000) (disch := omega) only [h73, h74, hltc, qaaz, qabz, qacz, qagz, qaiz, qajz, qalz, evOp, qaoz, qapz, qarz, qatz, qavz,
 ↓reduceIte, Option.map_some, qazz, qbbz, qbfz, qbhz, qbjz, qbpz, decide_false,
 Int.ofNat_lt, Bool.false_eq_true]
        refine fin _ _ _ _ true hk ?_ (fun _ => ⟨by omega, by omega⟩) rfl
        have : T.fit = true := by rw [hTf, hn, hls, all_take hallc]; rfl
        simp [okM, this]
        omega
  obtain ⟨r, h1, c', l', h2, h3⟩ := hcore
  exact ⟨c', l', by rw [h1, h2], h3⟩

theorem tRight_spec {T : TD} {x : PV} (hsm : T.sm) (hx : IsT T x) : call prog (.fn 321 []) [x] st = some (.bool (rightD T), st) := by
  refine call_of_W prog_321 ?_
  unfold F_tree_Right; dsimp only
  generalize hQ1 : endQ st _ _ = Q0
  obtain ⟨n, ls, cs⟩ := T
  obtain ⟨lv, cv, Ls, ys, a1, a2, a3, a4, a5, a6, a7, a8⟩ := strip_T hx
  obtain ⟨b, hb⟩ : ∃ b, b = st.boxes.length := ⟨_, rfl⟩
  obtain ⟨S, hS⟩ : ∃ S : St, S = ⟨st.boxes ++ [[.int .i64 0, .int .i64 0]], st.toks, st.loops, st.boxes.length⟩ := ⟨_, rfl⟩
  have hA : At S b [.int .i64 ((0 : Nat) : Int), .int .i64 ((0 : Nat) : Int)] := by rw [hS, hb]; exact At.last (s := ⟨st.boxes, st.toks, st.loops, st.boxes.length⟩)
  obtain ⟨c', l', r1, -⟩ := meter_spec _ hsm _ S b 0 0 1 a2 hA (by omega) (by omega) (by omega)
  have hR : okM (.mk n ls cs) 1 0 0 = rightD (.mk n ls cs) := by
    unfold okM rightD
    rw [Bool.eq_iff_iff]
    simp only [Bool.and_eq_true, decide_eq_true_eq]
    constructor
    · rintro ⟨⟨⟨h1, h2⟩, h3⟩, h4⟩; exact ⟨⟨⟨by omega, by omega⟩, by omega⟩, h1⟩
    · rintro ⟨⟨⟨h1, h2⟩, h3⟩, h4⟩; exact ⟨⟨⟨h4, by omega⟩, by omega⟩, by omega⟩
  rw [hR] at r1
  have hbx : PV.inB.inBAll st.boxes.length [.int .i64 0, .int .i64 0] = true := rfl
  have r1' : call prog (.fn 341 []) [.ptr st.boxes.length 0, .agg [.str n, lv, cv], .int .i64 1] ⟨st.boxes ++ [[.int .i64 0, .int .i64 0]], st.toks, st.loops, st.boxes.length⟩ = some (.bool (rightD (.mk n ls cs)), stB S b c' l') := by
    rw [← hS, ← hb]; exact r1
  simp (maxSteps := 1000000) (disch := omega) only [a1, cells3, build0i, PV.inB, hbx, show (PV.agg [PV.int .i64 0, PV.int .i64 0]).cells = [PV.int .i64 0, PV.int .i64 0] from rfl, show List.all [PV.int .i64 0, PV.int .i64 0] leafOk = true from rfl, and_self, allocPV, lcc3, r1', qaaz, qabz, qaiz, qajz, qalz, evOp, qaoz, qapz, qaqz, qarz, qatz, qavz,
 ↓reduceIte, Nat.reduceEqDiff, List.append_nil, List.map_cons, List.map_nil, qawz, Option.map_some, qazz]
  rw [← hQ1, qblz]
  refine retB rfl ?_ rfl
  rw [hS]
  exact ⟨by simp [stB, hb], rfl, by simp [stB], by simp [stB]⟩
end Go.Ab
/-
  Lines are read as a component, walked.
-/
namespace Go.Ab
set_option maxRecDepth 20000
variable {st s : St} {e : Env}

theorem slc1_vs {x : PV} {xs : List PV} {k : IntKind} {c : Nat} (h : x.vs 3 = some xs) (hc : c ≤ xs.length) : ∃ y, slcPV 3 x (some (.int k (c : Int))) none none = some y ∧ y.vs 3 = some (xs.drop c) := by
  rcases vs_cases h with ⟨rfl, rfl⟩ | ⟨t, rfl⟩
  · simp at hc; subst hc
    exact ⟨.nils, by simp [slcPV, bnd, intOf], by simp [PV.vs]⟩
  · refine ⟨.sl 3 (sufTok t none none xs.length xs.length) (xs.drop c), by simp [slcPV, bnd, intOf, hc], by simp [PV.vs]⟩
theorem Own.still {esz : Nat} {u w : PV} {xs : List PV} (h : Own st s esz u xs) (hd : ∀ i j, tokOf w = some i → tokOf u = some j → i ≠ j) : Own st (Ab.appS s w) esz u xs := by
  rcases h with h | ⟨j, rfl, h2, h3⟩
  · exact .inl h
  · refine .inr ⟨j, rfl, h2, ?_⟩
    have hlt := (List.getElem?_eq_some_iff.1 h3).1
    unfold Ab.appS; split
    · rename_i i _
      show (s.toks.set i false ++ [true])[j]? = some true
      rw [List.getElem?_append_left (by simpa using hlt), List.getElem?_set_ne (hd i j rfl rfl)]; exact h3
    · rename_i i _
      show (s.toks.set i false ++ [true])[j]? = some true
      rw [List.getElem?_append_left (by simpa using hlt), List.getElem?_set_ne (hd i j rfl rfl)]; exact h3
    · show (s.toks ++ [true])[j]? = some true
      rw [List.getElem?_append_left hlt]; exact h3
theorem Own.more {esz : Nat} {u : PV} {xs : List PV} {T : List Bool} (h : Own st s esz u xs) {B : List (List PV)} {Lp : List LoopS} {lo : Nat} : Own st ⟨B, s.toks ++ T, Lp, lo⟩ esz u xs := by
  rcases h with h | ⟨j, rfl, h2, h3⟩
  · exact .inl h
  · refine .inr ⟨j, rfl, h2, ?_⟩
    have hlt := (List.getElem?_eq_some_iff.1 h3).1
    show (s.toks ++ T)[j]? = some true
    rw [List.getElem?_append_left hlt]; exact h3
theorem own_lt {esz : Nat} {u : PV} {xs : List PV} (h : Own st s esz u xs) : ∀ j, tokOf u = some j → j < s.toks.length := by
  rcases h with ⟨rfl, _⟩ | ⟨j, rfl, h2, h3⟩
  · intro j hj; cases hj
  · intro i hi
    cases hi
    exact (List.getElem?_eq_some_iff.1 h3).1
theorem Kept.app2 {v u w : PV} {xs ys : List PV} (hk : Kept st s) (h : Own st s 3 v xs) (ho : Own st s 3 w ys) (hd : ∀ i j, tokOf v = some i → tokOf w = some j → i ≠ j) (hl : xs.length + 1 ≤ room) :
    ∃ v' s', Ab.appV 3 s.tok1 v (.sl 3 (.own s.toks.length) [u]) = some (v', s') ∧ Kept st s' ∧ Own st s' 3 v' (xs ++ [u]) ∧ Own st s' 3 w ys ∧ (∀ i j, tokOf v' = some i → tokOf w = some j → i ≠ j) ∧ s'.boxes = s.boxes := by
  have hk1 := hk.tok1
  have hg : GrewAt s.tok1.boxes st.toks s.tok1.loops s.tok1.low s.tok1 := ⟨rfl, rfl, rfl, hk1.tk⟩
  have h1 := h.tok1
  obtain ⟨g2, o2⟩ := Own.app (ys := xs ++ [u]) hg h1
  refine ⟨_, _, appV_own h1 hl, ⟨?_, ?_, ?_, g2.tk⟩, o2, ho.tok1.still hd, fun i j hi hj => ?_, g2.bx⟩
  · rw [g2.bx]; exact hk1.bx
  · rw [g2.lp]; exact hk1.lp
  · rw [g2.lw]; exact hk1.lw
  · cases hi
    have := own_lt ho.tok1 j hj
    omega

theorem keepLeaf_vs {N : Nat} {tk : List Bool} {acc : List Nat} {v : PV} {e : Nat} {xs : List PV} (h : v.vs e = some xs) : ((keepLeaf N tk acc v).1).vs e = some xs := by
  rcases vs_cases h with ⟨rfl, rfl⟩ | ⟨t, rfl⟩
  · exact h
  · simp [keepLeaf, PV.vs]
theorem keepVal_vs {N : Nat} {tk : List Bool} {acc : List Nat} {v : PV} {e : Nat} {xs : List PV} (h : v.vs e = some xs) : keepVal N tk acc v = keepLeaf N tk acc v := by
  rcases vs_cases h with ⟨rfl, rfl⟩ | ⟨t, rfl⟩ <;> rfl
theorem leave_T {S : St} {n : Bs} {p q w : PV} {xs ys zs : List PV} {b : Bool} (hk : Kept st S) (hp : p.vs 3 = some xs) (hq : q.vs 3 = some ys) (hw : w.vs 3 = some zs) :
    ∃ p' q' w' T, leave st S (.tup [.agg [.str n, p, q], w, .bool b]) = (.tup [.agg [.str n, p', q'], w', .bool b], ⟨st.boxes, st.toks ++ T, st.loops, st.low⟩) ∧ p'.vs 3 = some xs ∧ q'.vs 3 = some ys ∧ w'.vs 3 = some zs := by
  have e1 := hk.bx; have e2 := hk.lp; have e3 := hk.tk
  refine ⟨(keepLeaf st.toks.length S.toks [] p).1, (keepLeaf st.toks.length S.toks (keepLeaf st.toks.length S.toks [] p).2 q).1, (keepLeaf st.toks.length S.toks (keepLeaf st.toks.length S.toks (keepLeaf st.toks.length S.toks [] p).2 q).2 w).1, List.replicate (keepLeaf st.toks.length S.toks (keepLeaf st.toks.length S.toks (keepLeaf st.toks.length S.toks [] p).2 q).2 w).2.length true, ?_, keepLeaf_vs hp, keepLeaf_vs hq, keepLeaf_vs hw⟩
  simp only [leave, PV.inB, PV.inB.inBAll, (vs_leaf hp).2, (vs_leaf hq).2, (vs_leaf hw).2, Bool.and_self, if_true, hk.lw, keepRes, keepVals, keepVal_vs hw, (show ∀ a cs, keepVal st.toks.length S.toks a (.agg cs) = (.agg (keepCells st.toks.length S.toks a cs).1, (keepCells st.toks.length S.toks a cs).2) from fun _ _ => rfl), (show ∀ a, keepVal st.toks.length S.toks a (.bool b) = (.bool b, a) from fun _ => rfl), keepCells, (show ∀ a, keepLeaf st.toks.length S.toks a (.str n) = (.str n, a) from fun _ => rfl), e1, e2, e3]
theorem leave_T2 {S : St} {n : Bs} {p q : PV} {xs ys : List PV} {c : Int} (hk : Kept st S) (hp : p.vs 3 = some xs) (hq : q.vs 3 = some ys) :
    ∃ p' q' T, leave st S (.tup [.agg [.str n, p, q], .int .i64 c]) = (.tup [.agg [.str n, p', q'], .int .i64 c], ⟨st.boxes, st.toks ++ T, st.loops, st.low⟩) ∧ p'.vs 3 = some xs ∧ q'.vs 3 = some ys := by
  have e1 := hk.bx; have e2 := hk.lp; have e3 := hk.tk
  refine ⟨(keepLeaf st.toks.length S.toks [] p).1, (keepLeaf st.toks.length S.toks (keepLeaf st.toks.length S.toks [] p).2 q).1, List.replicate (keepLeaf st.toks.length S.toks (keepLeaf st.toks.length S.toks [] p).2 q).2.length true, ?_, keepLeaf_vs hp, keepLeaf_vs hq⟩
  simp only [leave, PV.inB, PV.inB.inBAll, (vs_leaf hp).2, (vs_leaf hq).2, Bool.and_self, if_true, hk.lw, keepRes, keepVals, (show ∀ a cs, keepVal st.toks.length S.toks a (.agg cs) = (.agg (keepCells st.toks.length S.toks a cs).1, (keepCells st.toks.length S.toks a cs).2) from fun _ _ => rfl), (show ∀ a, keepVal st.toks.length S.toks a (.int .i64 c) = (.int .i64 c, a) from fun _ => rfl), keepCells, (show ∀ a, keepLeaf st.toks.length S.toks a (.str n) = (.str n, a) from fun _ => rfl), e1, e2, e3]

theorem lit_dV {d : LnD} {z : PV} : litFill 3 (List.replicate 1 z) [(0, .agg [.str d.1, (toLn d).pv, .str d.2.2])] = some [dV d] := by
  refine lit1 ?_ rfl
  obtain ⟨n, ps, v⟩ := d
  cases ps with
  | nil => simp [strip, stripAll, stripLeaf, dV, lV, toLn]
  | cons p r => simp [strip, stripAll, stripLeaf, dV, lV, toLn]
def Cmps (cs : List TD) (ys : List PV) : Prop := ys.length = cs.length ∧ ∀ i, i < cs.length → IsT (cs.getD i T0) (ys.getD i .undef)
theorem Cmps.app {cs : List TD} {ys : List PV} {D : TD} {u : PV} (h : Cmps cs ys) (hD : IsT D u) : Cmps (cs ++ [D]) (ys ++ [u]) := by
  refine ⟨by simp [h.1], fun i hi => ?_⟩
  simp only [List.length_append, List.length_singleton] at hi
  by_cases hlt : i < cs.length
  · have := h.2 i hlt
    have h1 := h.1
    simp only [List.getD, List.getElem?_append_left hlt, List.getElem?_append_left (show i < ys.length by omega)] at this ⊢
    exact this
  · have h1 := h.1
    obtain rfl : i = cs.length := by omega
    simp only [List.getD, List.getElem?_append_right (Nat.le_refl _), Nat.sub_self, List.getElem?_cons_zero, Option.getD_some]
    rw [List.getElem?_append_right (by omega), show cs.length - ys.length = 0 by omega]
    exact hD
theorem isT_of {n : Bs} {ls : List LnD} {cs : List TD} {p q : PV} {ys : List PV} (hp : p.vs 3 = some (ls.map dV)) (hq : q.vs 3 = some ys) (h : Cmps cs ys) : IsT (.mk n ls cs) (.agg [.str n, p, q]) :=
  .mk (Ls := ls.map toLn) (by rw [← dV_map]; exact hp) (ofLn_map ls) (fun L hL => by obtain ⟨d, -, rfl⟩ := List.mem_map.1 hL; exact toLn_good) hq h.1 h.2
theorem strip_I {D : TD} {v : PV} (h : IsT D v) : ∃ u, strip v = some u ∧ IsT D u ∧ u.cells.length = 3 := by
  obtain ⟨n, ls, cs⟩ := D
  obtain ⟨lv, cv, Ls, ys, a1, a2, -⟩ := strip_T h
  exact ⟨_, a1, a2, rfl⟩
theorem own_vs3 {v : PV} {xs : List PV} (h : Own st s 3 v xs) : v.vs 3 = some xs := by
  rcases h with ⟨rfl, rfl⟩ | ⟨i, rfl, _⟩ <;> simp [PV.vs]

def readOK (r : Option (TD × List LnD)) (v : PV) : Prop := match r with
  | none => ∃ (n : Bs) (p q w : PV) (xs ys zs : List PV), v = .tup [.agg [.str n, p, q], w, .bool false] ∧ p.vs 3 = some xs ∧ q.vs 3 = some ys ∧ w.vs 3 = some zs
  | some (D, rest) => ∃ (p q w : PV) (ys : List PV), v = .tup [.agg [.str D.n, p, q], w, .bool true] ∧ p.vs 3 = some (D.ls.map dV) ∧ q.vs 3 = some ys ∧ Cmps D.cs ys ∧ w.vs 3 = some (rest.map dV)

set_option maxHeartbeats 8000000 in
theorem read_spec : ∀ (N : Nat) (ds : List LnD) (k : Nat) (v : PV) (st : St), ds.length < N → ds.length ≤ 1000000 → k ≤ 9 → v.vs 3 = some (ds.map dV) → (∀ d ∈ ds, okD d) →
    ∃ r T, call prog (.fn 343 []) [v, .int .i64 (k : Int)] st = some (r, ⟨st.boxes, st.toks ++ T, st.loops, st.low⟩) ∧ readOK (readT ds k) r := by
  intro N
  induction N with
  | zero =>
    intro ds k v st hN hb hk9 hv hD
    omega
  | succ N ih =>
  intro ds k v st hN hb hk9 hv hD
  have hcore : ∃ r, call prog (.fn 343 []) [v, .int .i64 (k : Int)] st = some r ∧ ∃ T, r.2 = ⟨st.boxes, st.toks ++ T, st.loops, st.low⟩ ∧ readOK (readT ds k) r.1 := by
    refine call_ex prog_343 ?_
    unfold F_tree_read; dsimp only
    generalize hQ1 : endX st _ _ = Q0
    obtain ⟨b4, hb4⟩ : ∃ b4, b4 = st.boxes.length := ⟨_, rfl⟩
    obtain ⟨Z, hZ⟩ : ∃ Z : List PV, Z = [.str [], .nils, .nils] := ⟨_, rfl⟩
    have hbu : buildCells [.str [], .nils, .nils] [] = some [.str [], .nils, .nils] := rfl
    have hbu1 : ∀ n : Bs, buildCells [.str [], .nils, .nils] [(0, 1, .str n)] = some [.str n, .nils, .nils] := fun n => rfl
    refine W_cut (fun E S => Kept st S ∧ At S b4 Z ∧ E 0 = v ∧ E 1 = .int .i64 (k : Int) ∧ E 4 = .ptr b4 0) ?_ ?_
    · simp (maxSteps := 1000000) (disch := omega) only [allocPV, qabz, qajz, qalz, evOp, qapz, qarz, qatz, qavz,
 ↓reduceIte, Nat.reduceEqDiff, qawz, qaxz, true_and, reduceCtorEq]
      exact ⟨Kept.start.alloc', by rw [hb4, hZ]; exact At.last (s := ⟨st.boxes, st.toks, st.loops, st.boxes.length⟩), by rw [hb4]⟩
    rintro e S ⟨hk, hA4, h0, h1, h4⟩
    refine W_scope1 rfl ?_
    generalize hR : scopeQ prog _ _ _ = R
    have finF : ∀ (E : Env) (S : St) (n : Bs) (p q w : PV) (xs ys zs : List PV), Kept st S → At S b4 [.str n, p, q] → p.vs 3 = some xs → q.vs 3 = some ys → w.vs 3 = some zs → readT ds k = none → E 4 = .ptr b4 0 → E 5 = w → E 6 = .bool false → R .ret E S := by
      intro E S n p q w xs ys zs hk hA hp hq hw hr e4 e5 e6
      rw [← hR]
      show Q0 .ret E S
      rw [← hQ1]
      obtain ⟨p', q', w', T, l1, l2, l3, l4⟩ := leave_T (b := false) (n := n) hk hp hq hw
      refine ⟨.inr rfl, .tup [.agg [.str n, p, q], w, .bool false], ?_, T, by rw [l1], by rw [l1, hr]; exact ⟨n, p', q', w', xs, ys, zs, rfl, l2, l3, l4⟩⟩
      rcases vs_cases hw with ⟨rfl, _⟩ | ⟨t, rfl⟩ <;> simp [resOf, rvAll, rv1, e4, e5, e6, hA.ld3, notTup, packRes]
    have finT : ∀ (E : Env) (S : St) (D : TD) (rest : List LnD) (p q w : PV) (ys : List PV), Kept st S → At S b4 [.str D.n, p, q] → p.vs 3 = some (D.ls.map dV) → q.vs 3 = some ys → Cmps D.cs ys → w.vs 3 = some (rest.map dV) → readT ds k = some (D, rest) → E 4 = .ptr b4 0 → E 5 = w → E 6 = .bool true → R .ret E S := by
      intro E S D rest p q w ys hk hA hp hq hc hw hr e4 e5 e6
      rw [← hR]
      show Q0 .ret E S
      rw [← hQ1]
      obtain ⟨p', q', w', T, l1, l2, l3, l4⟩ := leave_T (b := true) (n := D.n) hk hp hq hw
      refine ⟨.inr rfl, .tup [.agg [.str D.n, p, q], w, .bool true], ?_, T, by rw [l1], by rw [l1, hr]; exact ⟨p', q', w', ys, rfl, l2, l3, hc, l4⟩⟩
      rcases vs_cases hw with ⟨rfl, _⟩ | ⟨t, rfl⟩ <;> simp [resOf, rvAll, rv1, e4, e5, e6, hA.ld3, notTup, packRes]
    clear hR
    have hvl := len_vs hv
    rw [List.length_map] at hvl
    -- what is wrong at once
    have wrong : ∀ (S : St), Kept st S → At S b4 Z → readT ds k = none → ∃ S', storePV S 3 (.ptr b4 0) (.agg [.str [], .nils, .nils]) = some S' ∧ ∀ E : Env, E 4 = .ptr b4 0 → E 5 = .nils → E 6 = .bool false → R .ret E S' := by
      intro S hk hA hr
      rw [hZ] at hA
      obtain ⟨S', a1, w1⟩ := hA.st3 (v0 := .str []) (v1 := .nils) (v2 := .nils) rfl rfl rfl rfl rfl rfl
      exact ⟨S', a1, fun E e4 e5 e6 => finF E S' [] .nils .nils .nils [] [] [] (w1.kp st hk (by omega)) w1.at_ rfl rfl rfl hr e4 e5 e6⟩
    by_cases hk8 : 8 < k
    · have e1 : (8 : Int) < (k : Int) := by omega
      obtain ⟨S', q1, q2⟩ := wrong S hk hA4 (readT_deep hk8)
      simp (maxSteps := 1000000) (disch := omega) only [h1, h4, e1, hbu, q1, qaaz, qabz, qacz, qaiz, qajz, qakz, qalz, qamz, qanz, evOp, qaoz, qapz, qarz, qatz, qauz, qavz,
 ↓reduceIte, Nat.reduceEqDiff, List.map_nil, Option.map_some, qazz, qbaz, qbhz, qbrz, beq_false, decide_true, Bool.false_eq_true, Bool.not_true]
      exact q2 _ h4 rfl rfl
    have e1 : ¬ (8 : Int) < (k : Int) := by omega
    match ds, hN, hb, hv, hD, hvl, finF, finT, wrong with
    | [], hN, hb, hv, hD, hvl, finF, finT, wrong =>
      obtain ⟨S', q1, q2⟩ := wrong S hk hA4 readT_nil
      have hvl0 : lenPV false v = some (.int .i64 0) := hvl
      simp (maxSteps := 1000000) (disch := omega) only [h0, h1, h4, e1, hvl0, hbu, q1, qaaz, qabz, qacz, qaiz, qajz, qakz, qalz, qamz, qanz, evOp, qaoz, qapz, qarz, qatz, qauz, qavz,
 ↓reduceIte, Nat.reduceEqDiff, List.map_nil, Option.map_some, qazz, qbaz, qbhz, qbrz, qbtz, beq_false, decide_true, decide_false,
 Bool.false_eq_true, reduceCtorEq, Bool.not_true, Bool.not_false]
      exact q2 _ h4 rfl rfl
    | d :: r, hN, hb, hv, hD, hvl, finF, finT, wrong =>
    obtain ⟨n, ps, val⟩ := d
    have hv2 : v.vs 3 = some ((((n, ps, val) :: r).map toLn).map lV) := by rw [← dV_map]; exact hv
    have hia := iaddr_L (k := .i64) (c := 0) hv2 (by omega) (by simp)
    have hL0 : (((n, ps, val) :: r).map toLn).getD (0 : Int).toNat L0 = toLn (n, ps, val) := rfl
    rw [hL0] at hia
    obtain ⟨pv, hpv⟩ : ∃ pv, pv = (toLn (n, ps, val)).pv := ⟨_, rfl⟩
    have hia' : iaddrPV 3 v (.int .i64 0) = some (.cp [.str n, pv, .str val]) := by rw [hpv]; exact hia
    have hpl : lenPV false pv = some (.int .i64 (ps.length : Int)) := by rw [hpv]; have := len_vs (toLn_vs (d := (n, ps, val))); simpa [toLn] using this
    have hne : ¬ (((n, ps, val) :: r).length : Int) = 0 := by simp only [List.length_cons]; omega
    have hokd := hD (n, ps, val) (by simp)
    by_cases hbeg : n = begS
    · have hb' : n = [66, 69, 71, 73, 78] := hbeg
      by_cases hps : ps = []
      · have e2 : ¬ (0 : Int) < (ps.length : Int) := by simp [hps]
        have hrt : readT ((n, ps, val) :: r) k = bodyT (upOf val) [] [] r k := by rw [readT_cons hk8, if_pos ⟨hbeg, hps⟩]
        obtain ⟨G, hG⟩ : ∃ G, G = bodyT (upOf val) [] [] r k := ⟨_, rfl⟩
        rw [← hG] at hrt
        rw [hrt] at finF finT
        obtain ⟨nm, hnm⟩ : ∃ nm, nm = upOf val := ⟨_, rfl⟩
        rw [← hnm] at hG
        obtain ⟨b7, hb7⟩ : ∃ b7, b7 = S.boxes.length := ⟨_, rfl⟩
        have hne47 : b4 ≠ b7 := by have := hA4.lt; omega
        have hle7 : st.boxes.length ≤ b7 := by have := hk.bl; omega
        refine W_cut (fun E S' => S' = S ∧ E 0 = v ∧ E 1 = .int .i64 (k : Int) ∧ E 4 = .ptr b4 0) ?_ ?_
        · simp (maxSteps := 1000000) (disch := omega) only [h0, h1, h4, e1, hvl, hne, hia', fa3_0, fa3_1, ldcp, eq_true hb', hpl, e2, qaaz, qabz, qacz, qaez, qajz, qakz, qalz, qamz, qanz, evOp, qaoz, qapz, qarz, qatz, qavz,
 ↓reduceIte, Nat.reduceEqDiff, Option.map_some, qazz, qbhz, qbrz, qbtz, qccz, beq_false, decide_false,
 Bool.false_eq_true, and_true, reduceCtorEq, Bool.not_false, ne_eq, not_true_eq_false]
        clear h0 h1 h4
        rintro e S' ⟨hSS, h0, h1, h4⟩
        rw [hSS]; clear hSS S'
        refine W_cut (fun E S => Kept st S ∧ At S b4 Z ∧ At S b7 [.str nm, .nils, .nils] ∧ E 0 = v ∧ E 1 = .int .i64 (k : Int) ∧ E 4 = .ptr b4 0 ∧ E 7 = .ptr b7 0) ?_ ?_
        · have hup := fun S : St => tUpper_spec (st := S) (s := val) (by have := hokd.2.1; simp only at this; omega)
          rw [← hnm] at hup
          have hA := At.last (s := S) (z := [.str [], .nils, .nils]) (T := S.toks) (Lp := S.loops) (lo := S.low)
          rw [← hb7] at hA
          obtain ⟨S1, a1, w1⟩ := hA.st3 (v0 := .str nm) (v1 := .nils) (v2 := .nils) rfl rfl rfl rfl rfl rfl
          simp (maxSteps := 1000000) (disch := omega) only [h0, h1, h4, hia', fa3_2, hup, hbu1, allocPV, ← hb7, a1, qabz, qajz, qalz, evOp, qaoz, qapz, qaqz, qarz, qatz, qauz, qavz,
 ↓reduceIte, Nat.reduceEqDiff, List.map_cons, List.map_nil, Option.map_some, qboz,
 qciz, true_and, and_true, reduceCtorEq]
          exact ⟨w1.kp st hk.alloc' hle7, w1.ot _ _ hne47 hA4.alloc, w1.at_⟩
        clear hk hA4 h0 h1 h4 hb7
        rintro e S ⟨hk, hA4, hA7, h0, h1, h4, h7⟩
        obtain ⟨v1, hs1, hv1⟩ := slc1_vs (k := .i64) (c := 1) hv (by simp)
        have hs1' : slcPV 3 v (some (.int .i64 1)) none none = some v1 := hs1
        have hv1' : v1.vs 3 = some (r.map dV) := by rw [hv1]; rfl
        refine W_cut (fun E S => Kept st S ∧ At S b4 Z ∧ At S b7 [.str nm, .nils, .nils] ∧ E 0 = v1 ∧ E 1 = .int .i64 (k : Int) ∧ E 4 = .ptr b4 0 ∧ E 7 = .ptr b7 0) ?_ ?_
        · simp (maxSteps := 1000000) (disch := omega) only [h0, h1, h4, h7, hs1', qabz, qajz, qalz, evOp, qaoz, qapz, qarz, qatz, qavz,
 ↓reduceIte, Nat.reduceEqDiff, Option.map_some, Option.map_none, true_and, and_true, reduceCtorEq]
          exact ⟨hk, hA4, hA7⟩
        clear hk hA4 hA7 h0 h1 h4 h7
        rintro e S ⟨hk, hA4, hA7, h0, h1, h4, h7⟩
        refine W_cut (fun E S => Kept st S ∧ At S b4 Z ∧ At S b7 [.str nm, .nils, .nils] ∧ E 0 = v1 ∧ E 1 = .int .i64 (k : Int) ∧ E 4 = .ptr b4 0 ∧ E 7 = .ptr b7 0 ∧ E 8 = .bool false) ?_ ?_
        · simp (maxSteps := 1000000) (disch := omega) only [h0, h1, h4, h7, qabz, qajz, qalz, evOp, qapz, qarz, qatz, qavz,
 ↓reduceIte, Nat.reduceEqDiff, true_and, and_true, reduceCtorEq]
          exact ⟨hk, hA4, hA7⟩
        clear hk hA4 hA7 h0 h1 h4 h7
        rintro e S ⟨hk, hA4, hA7, h0, h1, h4, h7, h8⟩
        refine W_cut (fun E S => Kept st S ∧ At S b4 Z ∧ At S b7 [.str nm, .nils, .nils] ∧ E 0 = v1 ∧ E 1 = .int .i64 (k : Int) ∧ E 4 = .ptr b4 0 ∧ E 7 = .ptr b7 0 ∧ E 8 = .bool false) ?_ ?_
        · simp (maxSteps := 1000000) (disch := omega) only [h0, h1, h4, h7, h8, qafz, true_and, and_true]
          exact ⟨hk, hA4, hA7⟩
        clear hk hA4 hA7 h0 h1 h4 h7 h8
        rintro e S ⟨hk, hA4, hA7, h0, h1, h4, h7, h8⟩
        obtain ⟨M, hM⟩ : ∃ M : Env → St → Prop, M = fun E S => ∃ p q w b, Kept st S ∧ At S b4 Z ∧ At S b7 [.str nm, p, q] ∧ E 0 = w ∧ E 4 = .ptr b4 0 ∧ E 7 = .ptr b7 0 ∧ E 8 = .bool b ∧
            ((b = false ∧ G = none ∧ ∃ xs ys zs, p.vs 3 = some xs ∧ q.vs 3 = some ys ∧ w.vs 3 = some zs) ∨ (b = true ∧ ∃ ls cs rest ys, G = some (.mk nm ls cs, rest) ∧ p.vs 3 = some (ls.map dV) ∧ q.vs 3 = some ys ∧ Cmps cs ys ∧ w.vs 3 = some (rest.map dV))) := ⟨_, rfl⟩
        refine W_cut M ?_ ?_
        · rw [qadz]
          obtain ⟨I, hI⟩ : ∃ I : Nat → Env → St → Prop, I = fun m E S => ∃ (rest ls : List LnD) (cs : List TD) (p q w : PV) (ys : List PV), m = rest.length ∧ rest.length ≤ r.length ∧ (∀ d ∈ rest, okD d) ∧ G = bodyT nm ls cs rest k ∧ Kept st S ∧ At S b4 Z ∧ At S b7 [.str nm, p, q] ∧
              Own st S 3 p (ls.map dV) ∧ Own st S 3 q ys ∧ (∀ i j, tokOf p = some i → tokOf q = some j → i ≠ j) ∧ Cmps cs ys ∧ ls.length + rest.length ≤ 1000000 ∧ cs.length + rest.length ≤ 1000000 ∧ w.vs 3 = some (rest.map dV) ∧ E 0 = w ∧ E 1 = .int .i64 (k : Int) ∧ E 4 = .ptr b4 0 ∧ E 7 = .ptr b7 0 ∧ E 8 = .bool false := ⟨_, rfl⟩
          refine W_loop I ?_ (n := r.length) (by
            rw [hI]
            exact ⟨r, [], [], .nils, .nils, v1, [], rfl, Nat.le_refl _, fun d hd => hD d (by simp [hd]), hG, hk, hA4, hA7, .inl ⟨rfl, rfl⟩, .inl ⟨rfl, rfl⟩, fun i j hi => (by cases hi), ⟨rfl, fun i hi => (by simp at hi)⟩, by simp at hb ⊢; omega, by simp at hb ⊢; omega, hv1', h0, h1, h4, h7, h8⟩)
          clear hk hA4 hA7 h0 h1 h4 h7 h8
          intro m E S hh
          rw [hI] at hh
          obtain ⟨rest, ls, cs, p, q, w, ys, rfl, hrl, hokr, hg, hk, hA4, hA7, hop, hoq, hdj, hcm, hb1, hb2, hw, h0, h1, h4, h7, h8⟩ := hh
          have hwl := len_vs hw
          rw [List.length_map] at hwl
          have hvp := own_vs3 hop
          have hvq := own_vs3 hoq
          have fail : ∀ (E : Env) (S : St) (w : PV) (zs : List PV), Kept st S → At S b4 Z → At S b7 [.str nm, p, q] → G = none → w.vs 3 = some zs → E 0 = w → E 4 = .ptr b4 0 → E 7 = .ptr b7 0 → E 8 = .bool false → M E S := fun E S w zs k1 k2 k3 k4 k5 e0 e4 e7 e8 => by
            rw [hM]
            exact ⟨p, q, w, false, k1, k2, k3, e0, e4, e7, e8, .inl ⟨rfl, k4, _, _, _, hvp, hvq, k5⟩⟩
          match rest, hrl, hokr, hg, hb1, hb2, hw, hwl with
          | [], hrl, hokr, hg, hb1, hb2, hw, hwl =>
            have hwl0 : lenPV false w = some (.int .i64 0) := hwl
            simp (maxSteps := 1000000) (disch := omega) only [h0, hwl0, qaaz, qabz, qacz, qagz, qajz, qalz, evOp, qaoz, qapz, qarz, qatz, qavz,
 ↓reduceIte, Option.map_some, qazz, qbbz, qbfz, qbhz, qbjz, qbrz, decide_false,
 Bool.false_eq_true, true_and, Int.reduceLT]
            exact fail _ _ w _ hk hA4 hA7 (by rw [hg, bodyT_nil]) hw h0 h4 h7 h8
          | (n', ps', v') :: r', hrl, hokr, hg, hb1, hb2, hw, hwl =>
            have hpos : (0 : Int) < (((n', ps', v') :: r').length : Int) := by simp only [List.length_cons]; omega
            have hw2 : w.vs 3 = some ((((n', ps', v') :: r').map toLn).map lV) := by rw [← dV_map]; exact hw
            have hiw := iaddr_L (k := .i64) (c := 0) hw2 (by omega) (by simp)
            have hLw : (((n', ps', v') :: r').map toLn).getD (0 : Int).toNat L0 = toLn (n', ps', v') := rfl
            rw [hLw] at hiw
            obtain ⟨pv', hpv'⟩ : ∃ pv, pv = (toLn (n', ps', v')).pv := ⟨_, rfl⟩
            have hiw' : iaddrPV 3 w (.int .i64 0) = some (.cp [.str n', pv', .str v']) := by rw [hpv']; exact hiw
            have hgv := vs_leaf (toLn_vs (d := (n', ps', v')))
            rw [← hpv'] at hgv
            have hpl' : lenPV false pv' = some (.int .i64 (ps'.length : Int)) := by rw [hpv']; have := len_vs (toLn_vs (d := (n', ps', v'))); simpa [toLn] using this
            have hokd' := hokr (n', ps', v') (by simp)
            rw [bodyT_cons] at hg
            obtain ⟨b9, hb9⟩ : ∃ b9, b9 = S.boxes.length := ⟨_, rfl⟩
            have hne49 : b4 ≠ b9 := by have := hA4.lt; omega
            have hne79 : b7 ≠ b9 := by have := hA7.lt; omega
            have hle9 : st.boxes.length ≤ b9 := by have := hk.bl; omega
            have hA9 := At.last (s := S) (z := [.str [], .nils, .str []]) (T := S.toks) (Lp := S.loops) (lo := S.low)
            rw [← hb9] at hA9
            obtain ⟨S1, a1, w1⟩ := hA9.st3 (v0 := .str n') (v1 := pv') (v2 := .str v') rfl hgv.1 rfl rfl (hgv.2 _) rfl
            have m1 := w1.kp st hk.alloc' hle9
            have m4 := w1.ot _ _ hne49 hA4.alloc
            have m7 := w1.ot _ _ hne79 hA7.alloc
            have mop := hop.tks (s' := S1) w1.tk
            have moq := hoq.tks (s' := S1) w1.tk
            have ln := w1.at_.load (k := 0) (v := .str n') (r := [pv', .str v']) rfl
            have lp := w1.at_.load (k := 1) (v := pv') (r := [.str v']) rfl
            have lv := w1.at_.load (k := 2) (v := .str v') (r := []) rfl
            have l7n := m7.load (k := 0) (v := .str nm) (r := [p, q]) rfl
            have l7p := m7.load (k := 1) (v := p) (r := [q]) rfl
            obtain ⟨y1, hy1, hy2⟩ := slc1_vs (k := .i64) (c := 1) hw (by simp)
            have hy1' : slcPV 3 w (some (.int .i64 1)) none none = some y1 := hy1
            have hy2' : y1.vs 3 = some (r'.map dV) := by rw [hy2]; rfl
            by_cases hbg : n' = begS
            · have hbg' : n' = [66, 69, 71, 73, 78] := hbg
              rw [if_pos hbg] at hg
              obtain ⟨rr, T', c1, c2⟩ := ih ((n', ps', v') :: r') (k + 1) w S1 (by simp at hN hrl ⊢; omega) (by simp at hb hrl ⊢; omega) (by omega) hw hokr
              have c1' : call prog (.fn 343 []) [w, .int .i64 ((k + 1 : Nat) : Int)] S1 = some (rr, ⟨S1.boxes, S1.toks ++ T', S1.loops, S1.low⟩) := c1
              obtain ⟨b10, hb10⟩ : ∃ b10, b10 = S1.boxes.length := ⟨_, rfl⟩
              have hne410 : b4 ≠ b10 := by have := m4.lt; omega
              have hne710 : b7 ≠ b10 := by have := m7.lt; omega
              have hle10 : st.boxes.length ≤ b10 := by have := m1.bl; omega
              have hA10 := At.last (s := ⟨S1.boxes, S1.toks ++ T', S1.loops, S1.low⟩) (z := [.str [], .nils, .nils]) (T := S1.toks ++ T') (Lp := S1.loops) (lo := S1.low)
              simp only at hA10
              rw [← hb10] at hA10
              have m1t := (m1.toks (T := T')).alloc' (z := [.str [], .nils, .nils])
              cases hrr : readT ((n', ps', v') :: r') (k + 1) with
              | none =>
                rw [hrr] at c2 hg
                obtain ⟨nn, pp, qq, ww, xs', ys', zs', rfl, d1, d2, d3⟩ := c2
                obtain ⟨S2, a2, w2⟩ := hA10.st3 (v0 := .str nn) (v1 := pp) (v2 := qq) rfl (vs_leaf d1).1 (vs_leaf d2).1 rfl ((vs_leaf d1).2 _) ((vs_leaf d2).2 _)
                simp (maxSteps := 1000000) (disch := omega) only [h0, h1, hwl, hpos, hiw', ldcp3, allocPV, ← hb9, a1, faP, Nat.zero_add, ln, eq_true hbg', add_n, Int.reduceToNat, c1', ← hb10, a2, qaaz, qabz, qacz, qadz, qaez, qagz, qajz, qalz, evOp, qaoz, qapz, qaqz, qarz, qatz, qauz, qavz,
 ↓reduceIte, Nat.reduceEqDiff, List.map_cons, List.map_nil, Option.map_some, qazz, qbbz, qbfz, qbhz, qbjz, qbrz, qcbz, qcfz, decide_true, qcjz, List.getElem?_cons_zero, List.getElem?_cons_succ, Int.reduceToNat, true_and, reduceCtorEq, Bool.not_false]
                exact fail _ _ w _ (w2.kp st m1t hle10) (w2.ot _ _ hne410 (m4.bx (s' := ⟨S1.boxes, S1.toks ++ T', S1.loops, S1.low⟩) rfl).alloc) (w2.ot _ _ hne710 (m7.bx (s' := ⟨S1.boxes, S1.toks ++ T', S1.loops, S1.low⟩) rfl).alloc) hg hw h0 h4 h7 h8
              | some z =>
                obtain ⟨D, rest2⟩ := z
                rw [hrr] at c2 hg
                obtain ⟨pp, qq, ww, ys', rfl, d1, d2, d3, d4⟩ := c2
                obtain ⟨S2, a2, w2⟩ := hA10.st3 (v0 := .str D.n) (v1 := pp) (v2 := qq) rfl (vs_leaf d1).1 (vs_leaf d2).1 rfl ((vs_leaf d1).2 _) ((vs_leaf d2).2 _)
                have hDT : IsT D (.agg [.str D.n, pp, qq]) := by
                  obtain ⟨dn, dl, dc⟩ := D
                  exact isT_of d1 d2 d3
                obtain ⟨u, u1, u2, u3⟩ := strip_I hDT
                have z1 := w2.kp st m1t hle10
                have z4 := w2.ot _ _ hne410 (m4.bx (s' := ⟨S1.boxes, S1.toks ++ T', S1.loops, S1.low⟩) rfl).alloc
                have z7 := w2.ot _ _ hne710 (m7.bx (s' := ⟨S1.boxes, S1.toks ++ T', S1.loops, S1.low⟩) rfl).alloc
                have zop : Own st S2 3 p (ls.map dV) := (mop.more (T := T') (B := S1.boxes) (Lp := S1.loops) (lo := S1.low)).tks w2.tk
                have zoq : Own st S2 3 q ys := (moq.more (T := T') (B := S1.boxes) (Lp := S1.loops) (lo := S1.low)).tks w2.tk
                have l7q := z7.load (k := 2) (v := q) (r := []) rfl
                have hrl2 := readT_len hrr
                have hyl : ys.length = cs.length := hcm.1
                obtain ⟨q', s', x1, x2, x3, x4, x5, x6⟩ := z1.app2 (u := u) zoq zop (fun i j hi hj => (hdj j i hj hi).symm) (by simp [room] at hb2 ⊢; omega)
                obtain ⟨S3, a3, w3⟩ := (z7.bx x6).st1 (off := 2) (v := q') (own_leaf x3).1 ((own_leaf x3).2 _) (by simp)
                have hlitD : ∀ z, litFill 3 (List.replicate 1 z) [(0, .agg [.str D.n, pp, qq])] = some [u] := fun z => lit1 u1 u3
                simp (maxSteps := 1000000) (disch := omega) only [h0, h1, h7, hwl, hpos, hiw', ldcp3, allocPV, ← hb9, a1, faP, Nat.zero_add, ln, eq_true hbg', add_n, Int.reduceToNat, c1', ← hb10, a2, l7q, w2.at_.ld3, hlitD, freshT_eq, x1, a3, loopQ_normal, qaaz, qabz, qacz, qadz, qaez, qajz, qalz, evOp, qaoz, qapz, qaqz, qarz, qatz, qauz, qavz,
 ↓reduceIte, Nat.reduceEqDiff, List.map_cons, List.map_nil, Option.map_some, qazz, qbdz, qbhz, qbrz, qcbz, qcfz, decide_true, Bool.false_eq_true, qcjz, List.getElem?_cons_zero, List.getElem?_cons_succ, Int.reduceToNat, reduceCtorEq, Bool.not_true]
                refine ⟨rest2.length, hrl2, ?_⟩
                rw [hI]
                simp only [List.length_cons] at hrl2 hrl hb1 hb2
                refine ⟨rest2, ls, cs ++ [D], p, q', ww, ys ++ [u], rfl, by omega, ?_, hg, w3.kp st x2 hle7, w3.ot _ _ hne47 (z4.bx x6), w3.at_, x4.tks w3.tk, x3.tks w3.tk, fun i j hi hj => (x5 j i hj hi).symm, hcm.app u2, by omega, by simp; omega, d4, rfl, h1, h4, h7, h8⟩
                intro d hd
                exact hokr d (readT_sub hrr d hd)
            · have hbg' : ¬ n' = [66, 69, 71, 73, 78] := hbg
              rw [if_neg hbg] at hg
              by_cases hen : n' = endS
              · have hen' : n' = [69, 78, 68] := hen
                rw [if_pos hen] at hg
                have hup := fun S : St => tUpper_spec (st := S) (s := v') (by have := hokd'.2.1; simp only at this; omega)
                by_cases hps' : ps' = []
                · have e3 : ((ps'.length : Int) = 0) := by simp [hps']
                  by_cases hup' : upOf v' = nm
                  · rw [if_pos ⟨hps', hup'⟩] at hg
                    simp (maxSteps := 1000000) (disch := omega) only [h0, h7, hwl, hpos, hiw', ldcp3, allocPV, ← hb9, a1, faP, Nat.zero_add, ln, hbg', eq_true hen', lp, hpl', eq_true e3, lv, hup, l7n, eq_true hup', hy1', qaaz, qabz, qacz, qadz, qaez, qagz, qajz, qakz, qalz, qamz, qanz, evOp, qaoz, qapz, qaqz, qarz, qatz, qauz, qavz,
 ↓reduceIte, Nat.reduceEqDiff, List.map_cons, List.map_nil, Option.map_some, Option.map_none, qazz, qbfz, qbhz, qbjz, qboz,
 qbrz, qbtz, qcbz, beq_true, decide_true, decide_false,
 Bool.false_eq_true, true_and, reduceCtorEq]
                    rw [hM]
                    exact ⟨p, q, y1, true, m1, m4, m7, rfl, h4, h7, rfl, .inr ⟨rfl, ls, cs, r', ys, hg, hvp, hvq, hcm, hy2'⟩⟩
                  · rw [if_neg (fun z => hup' z.2)] at hg
                    simp (maxSteps := 1000000) (disch := omega) only [h0, h7, hwl, hpos, hiw', ldcp3, allocPV, ← hb9, a1, faP, Nat.zero_add, ln, hbg', eq_true hen', lp, hpl', eq_true e3, lv, hup, l7n, hup', hy1', qaaz, qabz, qacz, qadz, qaez, qagz, qajz, qakz, qalz, qamz, qanz, evOp, qaoz, qapz, qaqz, qarz, qatz, qauz, qavz,
 ↓reduceIte, Nat.reduceEqDiff, List.map_cons, List.map_nil, Option.map_some, Option.map_none, qazz, qbfz, qbhz, qbjz, qboz,
 qbrz, qbtz, qcbz, beq_true, decide_true, decide_false,
 Bool.false_eq_true, true_and, reduceCtorEq]
                    exact fail _ _ y1 _ m1 m4 m7 hg hy2' rfl h4 h7 rfl
                · have hpp' := List.length_pos_iff.2 hps'
                  have e3 : ¬ ((ps'.length : Int) = 0) := by omega
                  rw [if_neg (fun z => hps' z.1)] at hg
                  simp (maxSteps := 1000000) (disch := omega) only [h0, hwl, hpos, hiw', ldcp3, allocPV, ← hb9, a1, faP, Nat.zero_add, ln, hbg', eq_true hen', lp, hpl', e3, hy1', qaaz, qabz, qacz, qadz, qaez, qagz, qajz, qakz, qalz, qamz, qanz, evOp, qaoz, qapz, qarz, qatz, qauz, qavz,
 ↓reduceIte, Nat.reduceEqDiff, Option.map_some, Option.map_none, qazz, qbfz, qbhz, qbjz, qbrz, qbtz, qcbz, beq_true, decide_true, decide_false,
 Bool.false_eq_true, true_and, reduceCtorEq]
                  exact fail _ _ y1 _ m1 m4 m7 hg hy2' rfl h4 h7 rfl
              · have hen' : ¬ n' = [69, 78, 68] := hen
                rw [if_neg hen] at hg
                obtain ⟨p', s', x1, x2, x3, x4, x5, x6⟩ := m1.app2 (u := dV (n', ps', v')) mop moq hdj (by simp [room] at hb1 ⊢; omega)
                obtain ⟨S3, a3, w3⟩ := (m7.bx x6).st1 (off := 1) (v := p') (own_leaf x3).1 ((own_leaf x3).2 _) (by simp)
                have hlitL : ∀ z, litFill 3 (List.replicate 1 z) [(0, .agg [.str n', pv', .str v'])] = some [dV (n', ps', v')] := fun z => by rw [hpv']; exact lit_dV (d := (n', ps', v'))
                simp (maxSteps := 1000000) (disch := omega) only [h0, h7, hwl, hpos, hiw', ldcp3, allocPV, ← hb9, a1, faP, Nat.zero_add, ln, hbg', hen', l7p, w1.at_.ld3, hlitL, freshT_eq, x1, hy1', a3, loopQ_normal, qaaz, qabz, qacz, qadz, qaez, qajz, qalz, evOp, qaoz, qapz, qarz, qatz, qauz, qavz,
 ↓reduceIte, Nat.reduceEqDiff, List.map_cons, List.map_nil, Option.map_some, Option.map_none, qazz, qbdz, qbhz, qbrz, qcbz, decide_true, decide_false,
 Bool.false_eq_true, reduceCtorEq]
                refine ⟨r'.length, by simp, ?_⟩
                rw [hI]
                simp only [List.length_cons] at hrl hb1 hb2
                exact ⟨r', ls ++ [(n', ps', v')], cs, p', q, y1, ys, rfl, by omega, fun d hd => hokr d (by simp [hd]), hg, w3.kp st x2 hle7, w3.ot _ _ hne47 (m4.bx x6), w3.at_, by rw [List.map_append]; exact x3.tks w3.tk, x4.tks w3.tk, x5, hcm, by simp; omega, by omega, hy2', rfl, h1, h4, h7, h8⟩
        · clear hk hA4 hA7 h0 h1 h4 h7 h8
          rintro e S hm
          rw [hM] at hm
          obtain ⟨p, q, w, b, hk, hA4, hA7, h0, h4, h7, h8, hcase⟩ := hm
          rw [hZ] at hA4
          rcases hcase with ⟨rfl, hg, xs, ys, zs, d1, d2, d3⟩ | ⟨rfl, ls, cs, rest, ys, hg, d1, d2, d3, d4⟩
          · obtain ⟨S2, a2, w2⟩ := hA4.st3 (v0 := .str nm) (v1 := p) (v2 := q) rfl (vs_leaf d1).1 (vs_leaf d2).1 rfl ((vs_leaf d1).2 _) ((vs_leaf d2).2 _)
            simp (maxSteps := 1000000) (disch := omega) only [h0, h4, h7, h8, hA7.ld3, a2, qaaz, qabz, qaiz, qajz, qalz, evOp, qaoz, qarz, qatz, qauz, qavz,
 ↓reduceIte, Nat.reduceEqDiff, Option.map_some, qazz, reduceCtorEq]
            exact finF _ _ nm p q w xs ys zs (w2.kp st hk (by omega)) w2.at_ d1 d2 d3 hg h4 rfl rfl
          · obtain ⟨S2, a2, w2⟩ := hA4.st3 (v0 := .str nm) (v1 := p) (v2 := q) rfl (vs_leaf d1).1 (vs_leaf d2).1 rfl ((vs_leaf d1).2 _) ((vs_leaf d2).2 _)
            simp (maxSteps := 1000000) (disch := omega) only [h0, h4, h7, h8, hA7.ld3, a2, qaaz, qabz, qaiz, qajz, qalz, evOp, qaoz, qarz, qatz, qauz, qavz,
 ↓reduceIte, Nat.reduceEqDiff, Option.map_some, qazz, reduceCtorEq]
            exact finT _ _ (.mk nm ls cs) rest p q w ys (w2.kp st hk (by omega)) w2.at_ d1 d2 d3 d4 hg h4 rfl rfl
      · have hpp := List.length_pos_iff.2 hps
        have e2 : (0 : Int) < (ps.length : Int) := by omega
        obtain ⟨S', q1, q2⟩ := wrong S hk hA4 (by rw [readT_cons hk8, if_neg (fun q => hps q.2)])
        simp (maxSteps := 1000000) (disch := omega) only [h0, h1, h4, e1, hvl, hne, hia', fa3_0, fa3_1, ldcp, eq_true hb', hpl, e2, hbu, q1, qaaz, qabz, qacz, qaiz, qajz, qakz, qalz, qamz, qanz, evOp, qaoz, qapz, qarz, qatz, qauz, qavz,
 ↓reduceIte, Nat.reduceEqDiff, List.map_nil, Option.map_some, qazz, qbaz, qbhz, qbrz, qbtz, qccz, beq_false, decide_true, decide_false,
 Bool.false_eq_true, reduceCtorEq, Bool.not_false, ne_eq, not_true_eq_false]
        exact q2 _ h4 rfl rfl
    · have hb' : ¬ n = [66, 69, 71, 73, 78] := hbeg
      obtain ⟨S', q1, q2⟩ := wrong S hk hA4 (by rw [readT_cons hk8, if_neg (fun q => hbeg q.1)])
      simp (maxSteps := 1000000) (disch := omega) only [h0, h1, h4, e1, hvl, hne, hia', fa3_0, ldcp, hb', hbu, q1, qaaz, qabz, qacz, qaiz, qajz, qakz, qalz, qamz, qanz, evOp, qaoz, qapz, qarz, qatz, qauz, qavz,
 ↓reduceIte, Nat.reduceEqDiff, List.map_nil, Option.map_some, qazz, qbaz, qbhz, qbrz, qbtz, qccz, beq_false, decide_true, decide_false,
 Bool.false_eq_true, reduceCtorEq, Bool.not_true, Bool.not_false, ne_eq, not_false_eq_true]
      exact q2 _ h4 rfl rfl
  obtain ⟨⟨r, S'⟩, h1, T, h2, h3⟩ := hcore
  simp only at h2 h3
  exact ⟨r, T, by rw [h1, h2], h3⟩
end Go.Ab
/-
  A component's lines; a component is written.
-/
namespace Go.Ab
set_option maxRecDepth 20000
variable {st s : St} {e : Env}

theorem Kept.appG {v y : PV} {xs ys : List PV} (hk : Kept st s) (h : Own st s 3 v xs) (hy : y.vs 3 = some ys) (hl : xs.length + ys.length ≤ room) :
    ∃ v' s', Ab.appV 3 s v y = some (v', s') ∧ Kept st s' ∧ Own st s' 3 v' (xs ++ ys) ∧ s'.boxes = s.boxes ∧ s'.low = s.low := by
  have hsrc : srcV 3 y = some ys := by
    rcases vs_cases hy with ⟨rfl, rfl⟩ | ⟨t, rfl⟩ <;> simp [srcV]
  by_cases hn : ys = []
  · subst hn
    refine ⟨v, s, ?_, hk, by simpa using h, rfl, rfl⟩
    rcases h with ⟨rfl, rfl⟩ | ⟨i, rfl, _⟩ <;> simp [Ab.appV, hsrc]
  · have hg : GrewAt s.boxes st.toks s.loops s.low s := ⟨rfl, rfl, rfl, hk.tk⟩
    obtain ⟨g2, o2⟩ := Own.app (ys := xs ++ ys) hg h
    refine ⟨.sl 3 (.own s.toks.length) (xs ++ ys), Ab.appS s v, ?_, ⟨?_, ?_, ?_, g2.tk⟩, o2, g2.bx, ?_⟩
    · rcases h with ⟨rfl, rfl⟩ | ⟨i, rfl, h2, h3⟩
      · simp only [List.length_nil, Nat.zero_add] at hl
        simp [Ab.appV, hsrc, hn, hl, freshT, Ab.appS, St.tok1]
      · simp [Ab.appV, hsrc, hn, hl, freshT, Ab.appS, h3, appTok]
    · rw [g2.bx]; exact hk.bx
    · rw [g2.lp]; exact hk.lp
    · rw [g2.lw]; exact hk.lw
    · exact g2.lw

def stK (st : St) (v : PV) : St := match tokOf v with
  | some i => ⟨st.boxes, st.toks.set i false, st.loops, st.low⟩
  | none => st
theorem stK_f {v : PV} : (stK st v).boxes = st.boxes ∧ (stK st v).loops = st.loops ∧ (stK st v).low = st.low ∧ (stK st v).toks.length = st.toks.length := by
  unfold stK; split <;> simp
theorem leave_stK {S : St} {w v : PV} : leave st S v = leave (stK st w) S v := by
  obtain ⟨h1, h2, h3, h4⟩ := stK_f (st := st) (v := w)
  unfold leave
  rw [h1, h3, h4]
def Rw (s : St) (v : PV) (xs : List PV) : Prop := (v = .nils ∧ xs = []) ∨ ∃ i, v = .sl 3 (.own i) xs ∧ s.toks[i]? = some true
theorem Rw.vs {v : PV} {xs : List PV} (h : Rw s v xs) : v.vs 3 = some xs := by
  rcases h with ⟨rfl, rfl⟩ | ⟨i, rfl, _⟩ <;> simp [PV.vs]
theorem own_Rw {v : PV} {xs : List PV} (h : Own st s 3 v xs) : Rw s v xs := by
  rcases h with h | ⟨i, h1, _, h3⟩
  · exact .inl h
  · exact .inr ⟨i, h1, h3⟩
theorem Kept.stK {S : St} {v : PV} {xs : List PV} (hk : Kept st S) (h : Own st S 3 v xs) : Kept st (Ab.stK S v) := by
  obtain ⟨h1, h2, h3, h4⟩ := stK_f (st := S) (v := v)
  refine ⟨by rw [h1]; exact hk.bx, by rw [h2]; exact hk.lp, by rw [h3]; exact hk.lw, ?_⟩
  rcases h with ⟨rfl, _⟩ | ⟨i, rfl, hi, _⟩
  · exact hk.tk
  · show (S.toks.set i false).take st.toks.length = st.toks
    rw [List.take_set_of_le hi]; exact hk.tk
theorem first_app {v u : PV} {xs : List PV} (h : Rw st v xs) (hl : xs.length + 1 ≤ room) :
    Ab.appV 3 ⟨st.boxes, st.toks ++ [true], st.loops, st.boxes.length⟩ v (.sl 3 (.own st.toks.length) [u]) = some (.sl 3 (.own (st.toks.length + 1)) (xs ++ [u]), ⟨st.boxes, (stK st v).toks ++ [true, true], st.loops, st.boxes.length⟩) := by
  rcases h with ⟨rfl, rfl⟩ | ⟨i, rfl, h3⟩
  · simp [Ab.appV, srcV, freshT, room, stK, tokOf]
  · have hlt := (List.getElem?_eq_some_iff.1 h3).1
    have hg : (st.toks ++ [true])[i]? = some true := by rw [List.getElem?_append_left hlt]; exact h3
    have hs : (st.toks ++ [true]).set i false = st.toks.set i false ++ [true] := by rw [List.set_append_left _ _ hlt]
    simp [Ab.appV, srcV, freshT, appTok, hl, hg, hs, stK, tokOf]

def okMs (Ms : List Ln) : Prop := ∀ M ∈ Ms, M.good
def bL (a n : Bs) : Ln := ⟨a, .nils, [], n⟩
theorem bL_good {a n : Bs} : (bL a n).good := ⟨by simp [bL, PV.vs], rfl⟩
theorem lit_bL {a n : Bs} {z : PV} : litFill 3 (List.replicate 1 z) [(0, .agg [.str a, .nils, .str n])] = some [lV (bL a n)] := lit1 rfl rfl

set_option maxHeartbeats 4000000 in
theorem tlines_spec : ∀ (T : TD), T.sm → ∀ (x : PV) (st : St) (v : PV) (Ms : List Ln), IsT T x → Rw st v (Ms.map lV) → okMs Ms → Ms.length + T.lines.length ≤ 1000000000 →
    ∃ Ms', call prog (.fn 339 []) [v, x] st = some (.sl 3 (.own st.toks.length) (Ms'.map lV), (stK st v).tok1) ∧ Ms'.map ofLn = Ms.map ofLn ++ T.lines ∧ okMs Ms' := by
  refine TD.ind ?_
  intro n ls cs ih hsm x st v Ms hx hv hMs hlen
  cases hsm with
  | mk s1 s2 s3 s4 s5 =>
  have hcore : ∃ r, call prog (.fn 339 []) [v, x] st = some r ∧ ∃ Ms', r = (.sl 3 (.own st.toks.length) (Ms'.map lV), (stK st v).tok1) ∧ Ms'.map ofLn = Ms.map ofLn ++ TD.lines (.mk n ls cs) ∧ okMs Ms' := by
    refine call_ex prog_339 ?_
    unfold F_tree_lines; dsimp only
    generalize hQ1 : endX st _ _ = Q0
    obtain ⟨lv, cv, Ls, ys, a1, a2, a3, a4, a5, a6, a7, a8⟩ := strip_T hx
    have hcl := len_vs a6
    rw [a7] at hcl
    have hLl : Ls.length = ls.length := by rw [← a4]; simp
    simp only [TD.lines, List.length_append, List.length_cons, List.length_nil] at hlen
    obtain ⟨st1, hst1⟩ : ∃ st1, st1 = stK st v := ⟨_, rfl⟩
    obtain ⟨f1, f2, f3, f4⟩ := stK_f (st := st) (v := v)
    rw [← hst1] at f1 f2 f3 f4
    have fin : ∀ (E : Env) (S : St) (w : PV) (Ns : List Ln), Kept st1 S → Own st1 S 3 w (Ns.map lV) → Ns ≠ [] → Ns.map ofLn = Ms.map ofLn ++ TD.lines (.mk n ls cs) → okMs Ns → E 4 = w → Q0 .ret E S := by
      intro E S w Ns hk ho hne hm hokN e4
      rw [← hQ1]
      have hlv : leave st S w = (newSl st1 3 (Ns.map lV), newS st1 (Ns.map lV).isEmpty) := by
        rw [leave_stK (w := v), ← hst1]
        exact hk.leaveOwn1 ho (fun h => absurd (by simpa using h) hne)
      refine ⟨.inr rfl, w, ?_, Ns, ?_, hm, hokN⟩
      · rcases ho with ⟨rfl, _⟩ | ⟨i, rfl, _⟩ <;> simp [resOf, rvAll, rv1, e4, notTup, packRes]
      · rw [hlv]
        have hne2 : ¬ Ns.map lV = [] := by simpa using hne
        have hem : (Ns.map lV).isEmpty = false := by cases Ns with
          | nil => exact absurd rfl hne
          | cons _ _ => rfl
        unfold newSl newS
        rw [if_neg hne2, hem, f4, hst1]; rfl
    have hb1 : buildCells [.str [], .nils, .str []] [(0, 1, .str [66, 69, 71, 73, 78]), (2, 1, .str n)] = some [.str begS, .nils, .str n] := rfl
    have hb2 : buildCells [.str [], .nils, .str []] [(0, 1, .str [69, 78, 68]), (2, 1, .str n)] = some [.str endS, .nils, .str n] := rfl
    refine W_cut (fun E S => S = ⟨st.boxes, st.toks, st.loops, st.boxes.length⟩ ∧ E 0 = v ∧ E 3 = .cp [.str n, lv, cv]) ?_ ?_
    · simp (maxSteps := 1000000) (disch := omega) only [a1, cells3, qabz, qajz, qalz, evOp, qaoz, qapz, qarz, qatz, qavz,
 ↓reduceIte, Nat.reduceEqDiff, qawz, qaxz, Option.map_some, true_and, and_true, reduceCtorEq]
    rintro e S ⟨hS, h0, h3⟩
    rw [hS]; clear hS S
    obtain ⟨Ns, hNs⟩ : ∃ Ns, Ns = Ms ++ [bL begS n] ++ Ls := ⟨_, rfl⟩
    have hNsl : Ns.length = Ms.length + 1 + ls.length := by rw [hNs]; simp; omega
    have hNso : Ns.map ofLn = Ms.map ofLn ++ (begS, [], n) :: ls := by rw [hNs]; simp [a4, bL, ofLn]
    have hNsg : okMs Ns := by
      intro M hM
      rw [hNs] at hM
      rcases List.mem_append.1 hM with hM | hM
      · rcases List.mem_append.1 hM with hM | hM
        · exact hMs M hM
        · simp only [List.mem_singleton] at hM; subst hM; exact bL_good
      · exact a5 M hM
    refine W_cut (fun E S => ∃ w, Kept st1 S ∧ Own st1 S 3 w (Ns.map lV) ∧ E 0 = w ∧ E 3 = .cp [.str n, lv, cv]) ?_ ?_
    · have hfa := first_app (u := lV (bL begS n)) hv (by simp [room]; omega)
      have hk1 : Kept st1 ⟨st.boxes, (stK st v).toks ++ [true, true], st.loops, st.boxes.length⟩ := ⟨by simp [f1], by rw [f2], by rw [f1]; exact Nat.le_refl _, by simp [hst1]⟩
      have ho1 : Own st1 ⟨st.boxes, (stK st v).toks ++ [true, true], st.loops, st.boxes.length⟩ 3 (.sl 3 (.own (st.toks.length + 1)) (Ms.map lV ++ [lV (bL begS n)])) (Ms.map lV ++ [lV (bL begS n)]) := by
        refine .inr ⟨_, rfl, by rw [f4]; omega, ?_⟩
        rw [hst1] at f4
        show ((stK st v).toks ++ [true, true])[st.toks.length + 1]? = some true
        rw [List.getElem?_append_right (by omega)]
        simp [f4]
      obtain ⟨w, S', q1, q2, q3, q4, -⟩ := hk1.appG ho1 a3 (by simp [room]; omega)
      have hfT : ∀ S : St, freshT S = (.own S.toks.length, S.tok1) := fun S => rfl
      simp (maxSteps := 1000000) (disch := omega) only [h0, h3, fa3_0, fa3_1, lcc, hb1, lit_bL, freshT_eq, St.tok1, hfa, q1, qabz, qajz, qalz, evOp, qaoz, qapz, qarz, qatz, qavz,
 ↓reduceIte, Nat.reduceEqDiff, List.map_cons, List.map_nil, Option.map_some, Bool.false_eq_true, true_and, and_true, reduceCtorEq]
      exact ⟨w, q2, by rw [hNs]; simpa using q3, rfl⟩
    clear h0 h3
    rintro e S ⟨w, hk, ho, h0, h3⟩
    obtain ⟨I, hI⟩ : ∃ I : Nat → Env → St → Prop, I = fun m E S => ∃ (i : Nat) (w : PV) (Rs : List Ln), m = cs.length - i ∧ i ≤ cs.length ∧ Kept st1 S ∧ Own st1 S 3 w (Rs.map lV) ∧ Rs ≠ [] ∧ Rs.map ofLn = Ms.map ofLn ++ ((begS, [], n) :: (ls ++ linesL (cs.take i))) ∧ okMs Rs ∧ E 0 = w ∧ E 3 = .cp [.str n, lv, cv] ∧ E 17 = cv ∧ E 18 = .int .i64 (cs.length : Int) ∧ E 19 = .int .i64 (i : Int) := ⟨_, rfl⟩
    refine W_cut (I 0) ?_ ?_
    · simp (maxSteps := 1000000) (disch := omega) only [h3, fa3_2, lcc, hcl, qaaz, qabz, qajz, qalz, evOp, qaoz, qapz, qarz, qatz, qavz,
 ↓reduceIte, Option.map_some, qazz]
      rw [qadz]
      refine W_loop I ?_ (n := cs.length) (by
        rw [hI]
        exact ⟨0, w, Ns, rfl, by omega, hk, ho, by intro q; rw [q] at hNsl; simp at hNsl; omega, by rw [hNso]; simp [linesL], hNsg, h0, h3, rfl, rfl, rfl⟩)
      clear hk ho h0 h3
      intro m E S hh
      have hII := hh
      rw [hI] at hh
      obtain ⟨i, w, Rs, rfl, hi, hk, ho, hne, hro, hrg, h0, h3, h17, h18, h19⟩ := hh
      by_cases hlt : i < cs.length
      · obtain ⟨la, ca, q1, q2, q3, q4, q5⟩ := iaddr_T a6 (by omega) (a8 i hlt)
        obtain ⟨d, hd⟩ : ∃ d, d = cs.getD i T0 := ⟨_, rfl⟩
        rw [← hd] at q2 q3
        have hdm : d ∈ cs := by rw [hd]; exact getD_mem hlt
        have hsucc : linesL (cs.take (i + 1)) = linesL (cs.take i) ++ d.lines := by rw [take_snoc (d := T0) hlt, linesL_app, ← hd]; simp [linesL]
        have hle : (linesL (cs.take i)).length + d.lines.length ≤ (linesL cs).length := by
          have e : cs = cs.take (i + 1) ++ cs.drop (i + 1) := (List.take_append_drop _ _).symm
          have h1 := congrArg (fun z => (linesL z).length) e
          simp only [linesL_app, List.length_append, hsucc] at h1
          omega
        have hRl : Rs.length = Ms.length + 1 + ls.length + (linesL (cs.take i)).length := by
          have := congrArg List.length hro
          simp at this; omega
        obtain ⟨b6, hb6⟩ : ∃ b6, b6 = S.boxes.length := ⟨_, rfl⟩
        have hle6 : st1.boxes.length ≤ b6 := by have := hk.bl; omega
        have hA6 := At.last (s := S) (z := [.str [], .nils, .nils]) (T := S.toks) (Lp := S.loops) (lo := S.low)
        rw [← hb6] at hA6
        obtain ⟨S1, u1, w1⟩ := hA6.st3 (v0 := .str d.n) (v1 := la) (v2 := ca) rfl q4.1 q5.1 rfl (q4.2 _) (q5.2 _)
        have m1 := w1.kp _ hk.alloc' hle6
        have mo := ho.tks (s' := S1) w1.tk
        obtain ⟨Rs', c1, c2, c3⟩ := ih d hdm (s5 d hdm) _ S1 w Rs q3 (own_Rw mo) hrg (by omega)
        have mk := m1.stK mo
        obtain ⟨g1, g2, g3, g4⟩ := stK_f (st := S1) (v := w)
        simp (maxSteps := 1000000) (disch := omega) only [h0, h17, h18, h19, hlt, q2, ldcp3, allocPV, ← hb6, u1, w1.at_.ld3, c1, add_n, Int.reduceToNat, loopQ_normal, qaaz, qabz, qacz, qadz, qaez, qajz, qalz, evOp, qaoz, qapz, qaqz, qarz, qatz, qauz, qavz,
 ↓reduceIte, Nat.reduceEqDiff, List.map_cons, List.map_nil, Option.map_some, qazz, qbdz, qbhz, qbpz, decide_true, Int.ofNat_lt, Int.reduceToNat, reduceCtorEq]
        refine ⟨cs.length - (i + 1), by omega, ?_⟩
        rw [hI]
        refine ⟨i + 1, _, Rs', rfl, by omega, mk.tok1, .inr ⟨_, rfl, by have := m1.tl; omega, ?_⟩, ?_, ?_, c3, rfl, h3, h17, h18, rfl⟩
        · show ((stK S1 w).toks ++ [true])[S1.toks.length]? = some true
          rw [List.getElem?_append_right (by omega), g4]; simp
        · intro q
          rw [q] at c2
          have := congrArg List.length c2
          simp at this
          exact hne (List.eq_nil_of_length_eq_zero (by omega))
        · rw [c2, hro, hsucc]; simp
      · obtain rfl : i = cs.length := by omega
        simp (maxSteps := 1000000) (disch := omega) only [h18, h19, hlt, qaaz, qabz, qacz, qagz, qajz, qalz, evOp, qaoz, qarz, qatz, qavz,
 ↓reduceIte, Option.map_some, qazz, qbbz, qbfz, qbhz, qbjz, qbpz, decide_false,
 Int.ofNat_lt, Bool.false_eq_true, true_and]
        rw [hI]
        exact ⟨cs.length, w, Rs, by omega, hi, hk, ho, hne, hro, hrg, h0, h3, h17, h18, h19⟩
    clear hk ho h0 h3
    rintro e S hh
    rw [hI] at hh
    obtain ⟨i, w, Rs, hii, hi, hk, ho, hne, hro, hrg, h0, h3, -, -, -⟩ := hh
    obtain rfl : i = cs.length := by omega
    rw [List.take_length] at hro
    have hRl : Rs.length = Ms.length + 1 + ls.length + (linesL cs).length := by
      have := congrArg List.length hro
      simp at this; omega
    obtain ⟨w', s', q1, q2, q3, q4⟩ := hk.appV (u := lV (bL endS n)) (w := .undef) ho (by simp [room]; omega)
    simp (maxSteps := 1000000) (disch := omega) only [h0, h3, fa3_0, lcc, hb2, lit_bL, freshT_eq, q1, qaaz, qabz, qaiz, qajz, qalz, evOp, qaoz, qapz, qarz, qatz, qavz,
 ↓reduceIte, Nat.reduceEqDiff, List.map_cons, List.map_nil, Option.map_some, qazz, Bool.false_eq_true]
    refine fin _ _ w' (Rs ++ [bL endS n]) q2 (by simpa using q3) (by simp) ?_ ?_ rfl
    · rw [List.map_append, hro]
      simp [TD.lines, bL, ofLn]
    · intro M hM
      rcases List.mem_append.1 hM with hM | hM
      · exact hrg M hM
      · simp only [List.mem_singleton] at hM; subst hM; exact bL_good
  obtain ⟨r, h1, Ms', h2, h3, h4⟩ := hcore
  exact ⟨Ms', by rw [h1, h2], h3, h4⟩
end Go.Ab
/-
  Lines are read as a component by the document, walked.
-/
namespace Go.Ab
set_option maxRecDepth 20000
variable {st s : St} {e : Env}

end Go.Ab
/-
  A component is read, walked.
-/
namespace Go.Ab
set_option maxRecDepth 20000
variable {st s : St} {e : Env}

theorem F_sm (M : Nat) (hM : M ≤ 100000) : ∀ f, (∀ l k d rest, readF f l k = some (d, rest) → (∀ x ∈ l, okD x) → l.length ≤ M → d.sm ∧ 2 * d.cnt + d.lns + rest.length = l.length) ∧
    (∀ nm ls cs l k d rest, bodyF f nm ls cs l k = some (d, rest) → (∀ x ∈ l, okD x) → (∀ x ∈ ls, okD x) → (∀ c ∈ cs, c.sm) → nm.length ≤ 5000 → ls.length + l.length ≤ M → cs.length + l.length ≤ M → d.sm ∧ 2 * d.cnt + d.lns + rest.length + 1 = 2 + 2 * cntL cs + ls.length + lnsL cs + l.length) := by
  intro f
  induction f with
  | zero => exact ⟨fun l k d rest h => by simp [readF] at h, fun nm ls cs l k d rest h => by simp [bodyF] at h⟩
  | succ f ih =>
    obtain ⟨ih1, ih2⟩ := ih
    constructor
    · intro l k d rest h hok hl
      simp only [readF] at h
      split at h
      · cases h
      · match l, h, hok, hl with
        | (n, ps, v) :: r, h, hok, hl =>
          simp only at h
          split at h
          · have hv := (hok (n, ps, v) (by simp)).2.1
            simp only at hv
            simp only [List.length_cons] at hl
            obtain ⟨i1, i2⟩ := ih2 _ _ _ _ _ _ _ h (fun x hx => hok x (by simp [hx])) (fun x hx => by simp at hx) (fun x hx => by simp at hx) (by simpa [upOf] using hv) (by simp; omega) (by simp; omega)
            refine ⟨i1, ?_⟩
            simp only [cntL, lnsL, List.length_nil, List.length_cons] at i2 ⊢
            omega
          · cases h
    · intro nm ls cs l k d rest h hok hls hcs hnm hl1 hl2
      match l, h, hok, hl1, hl2 with
      | [], h, _, _, _ => simp [bodyF] at h
      | (n, ps, v) :: r, h, hok, hl1, hl2 =>
        simp only [bodyF] at h
        simp only [List.length_cons] at hl1 hl2
        split at h
        · cases hr : readF f ((n, ps, v) :: r) (k + 1) with
          | none => rw [hr] at h; cases h
          | some q =>
            obtain ⟨d', rest'⟩ := q
            rw [hr] at h
            have hlt := (F_len f).1 _ _ _ _ hr
            have hsub := (F_sub f).1 _ _ _ _ hr
            simp only [List.length_cons] at hlt
            obtain ⟨i1, i2⟩ := ih1 _ _ _ _ hr hok (by simp; omega)
            obtain ⟨j1, j2⟩ := ih2 _ _ _ _ _ _ _ h (fun x hx => hok x (hsub x hx)) hls (fun c hc => by
              rcases List.mem_append.1 hc with hc | hc
              · exact hcs c hc
              · simp only [List.mem_singleton] at hc; subst hc; exact i1) hnm (by omega) (by simp; omega)
            refine ⟨j1, ?_⟩
            rw [cntL_app, lnsL_app] at j2
            simp only [cntL, lnsL, List.length_cons] at i2 j2 ⊢
            omega
        · split at h
          · split at h
            · cases h
              refine ⟨.mk hnm (by omega) hls (by omega) hcs, ?_⟩
              simp only [TD.cnt, TD.lns, List.length_cons]; omega
            · cases h
          · obtain ⟨j1, j2⟩ := ih2 _ _ _ _ _ _ _ h (fun x hx => hok x (by simp [hx])) (fun x hx => by
              rcases List.mem_append.1 hx with hx | hx
              · exact hls x hx
              · simp only [List.mem_singleton] at hx; subst hx; exact hok _ (by simp)) hcs hnm (by simp; omega) (by omega)
            refine ⟨j1, ?_⟩
            simp only [List.length_append, List.length_cons, List.length_nil] at j2 ⊢
            omega
theorem deep_le : ∀ T : TD, T.deep ≤ T.cnt := by
  refine TD.ind ?_
  intro n ls cs ih
  have h : ∀ cs : List TD, (∀ c ∈ cs, c.deep ≤ c.cnt) → deepL cs ≤ cntL cs := by
    intro cs
    induction cs with
    | nil => intro _; simp [deepL, cntL]
    | cons c r ih2 =>
      intro h
      have h1 := h c (by simp)
      have h2 := ih2 (fun d hd => h d (by simp [hd]))
      simp only [deepL, cntL]; omega
  have := h cs ih
  simp only [TD.deep, TD.cnt]; omega
theorem readT_sm {ds rest : List LnD} {k : Nat} {D : TD} (h : readT ds k = some (D, rest)) (hok : ∀ d ∈ ds, okD d) (hl : ds.length ≤ 100000) : D.sm ∧ D.cnt + D.lns + D.deep ≤ 1000000 ∧ 2 * D.cnt + D.lns + rest.length = ds.length := by
  obtain ⟨h1, h2⟩ := (F_sm 100000 (Nat.le_refl _) _).1 _ _ _ _ h hok hl
  have := deep_le D
  exact ⟨h1, by omega, h2⟩

noncomputable def treeR (ds : List LnD) : Except Int TD := match readT ds 1 with
  | some (D, []) => if rightD D = true then .ok D else .error 100
  | _ => .error 100
noncomputable def treeL (l : Bs) : Except Int TD := match readL l with
  | .error (_, c) => .error c
  | .ok ds => treeR ds
def treeOK (r : Except Int TD) (v : PV) : Prop := match r with
  | .error c => v = .tup [.agg [.str [], .nils, .nils], .int .i64 c]
  | .ok D => ∃ p q, v = .tup [.agg [.str D.n, p, q], .int .i64 0] ∧ IsT D (.agg [.str D.n, p, q])
theorem At.stk3 {S : St} {b : Nat} (h : At S b [.str [], .nils, .nils]) : storePV S 3 (.ptr b 0) (.agg [.str [], .nils, .nils]) = some S := by
  unfold At at h
  obtain ⟨hlt, hg⟩ := List.getElem?_eq_some_iff.1 h
  have : S.boxes.set b [.str [], .nils, .nils] = S.boxes := by rw [← hg]; simp
  simp [storePV, h, PV.cells, PV.inB, PV.inB.inBAll, setCells, leafOk, hasTok, tokOf, this]
theorem isT_vs {D : TD} {n : Bs} {p q : PV} (h : IsT D (.agg [.str n, p, q])) : n = D.n ∧ ∃ xs ys, p.vs 3 = some xs ∧ q.vs 3 = some ys := by
  obtain ⟨m, ls, cs⟩ := D
  obtain ⟨lv, cv, Ls, ys, h0, h1, h2, h3, h5, h6, h7⟩ := h.inv
  cases h0
  exact ⟨rfl, _, _, h1, h5⟩
theorem isT_re {D : TD} {n : Bs} {p q p' q' : PV} {xs ys : List PV} (h : IsT D (.agg [.str n, p, q])) (hp : p.vs 3 = some xs) (hq : q.vs 3 = some ys) (hp' : p'.vs 3 = some xs) (hq' : q'.vs 3 = some ys) : IsT D (.agg [.str n, p', q']) := by
  obtain ⟨m, ls, cs⟩ := D
  obtain ⟨lv, cv, Ls, ys, h0, h1, h2, h3, h5, h6, h7⟩ := h.inv
  cases h0
  rw [hp] at h1
  rw [hq] at h5
  cases h5
  rw [Option.some.injEq] at h1
  exact .mk (by rw [hp', h1]) h2 h3 hq' h6 h7

theorem readL_cnt {l : Bs} {ds : List LnD} (h : readL l = .ok ds) : ds.length = (refLines (unfV l)).length := by
  unfold readL at h
  cases hp : ptsOf ((unfV l).length + 1) (unfV l) 0 with
  | error i => rw [hp] at h; cases h
  | ok r =>
    rw [hp] at h
    simp only at h
    cases hg : readG (refLines (unfV l)) with
    | error i => rw [hg] at h; cases h
    | ok ds' =>
      rw [hg] at h; cases h
      exact ((refLines_len (l := unfV l)).2 _ hg).2.2
set_option maxHeartbeats 4000000 in
theorem tRead_big {y : PV} {l : Bs} (hy : y.by = some l) (hl : l.length ≤ 1048576) (hq : ∀ q ∈ refLines (unfV l), q.2.1.length ≤ 1000000) (hN : (refLines (unfV l)).length ≤ 4096) : ∃ r T, call prog (.fn 324 []) [y] st = some (r, ⟨st.boxes, st.toks ++ T, st.loops, st.low⟩) ∧ treeOK (treeL l) r := by
  have hcore : ∃ r, call prog (.fn 324 []) [y] st = some r ∧ ∃ T, r.2 = ⟨st.boxes, st.toks ++ T, st.loops, st.low⟩ ∧ treeOK (treeL l) r.1 := by
    refine call_ex prog_324 ?_
    unfold F_tree_Read; dsimp only
    generalize hQ1 : endX st _ _ = Q0
    obtain ⟨b2, hb2⟩ : ∃ b2, b2 = st.boxes.length := ⟨_, rfl⟩
    obtain ⟨Z, hZ⟩ : ∃ Z : List PV, Z = [.str [], .nils, .nils] := ⟨_, rfl⟩
    have hbu : buildCells [.str [], .nils, .nils] [] = some [.str [], .nils, .nils] := rfl
    have finE : ∀ (E : Env) (S : St) (c : Int), Kept st S → At S b2 [.str [], .nils, .nils] → treeL l = .error c → E 2 = .ptr b2 0 → E 3 = .int .i64 c → Q0 .ret E S := by
      intro E S c hk hA hr e2 e3
      rw [← hQ1]
      obtain ⟨p', q', T, l1, l2, l3⟩ := leave_T2 (c := c) (n := []) (p := .nils) (q := .nils) (xs := []) (ys := []) hk rfl rfl
      have hlv : leave st S (.tup [.agg [.str [], .nils, .nils], .int .i64 c]) = (.tup [.agg [.str [], .nils, .nils], .int .i64 c], st) := hk.leave' ⟨fun _ => rfl, fun _ _ => rfl⟩
      exact ⟨.inr rfl, .tup [.agg [.str [], .nils, .nils], .int .i64 c], by simp [resOf, rvAll, rv1, e2, e3, hA.ld3, notTup, packRes], [], by rw [hlv]; simp, by rw [hlv, hr]; rfl⟩
    have finO : ∀ (E : Env) (S : St) (D : TD) (p q : PV), Kept st S → At S b2 [.str D.n, p, q] → IsT D (.agg [.str D.n, p, q]) → treeL l = .ok D → E 2 = .ptr b2 0 → E 3 = .int .i64 0 → Q0 .ret E S := by
      intro E S D p q hk hA hT hr e2 e3
      rw [← hQ1]
      obtain ⟨-, xs, ys, hp, hq⟩ := isT_vs hT
      obtain ⟨p', q', T, l1, l2, l3⟩ := leave_T2 (c := 0) (n := D.n) hk hp hq
      exact ⟨.inr rfl, .tup [.agg [.str D.n, p, q], .int .i64 0], by simp [resOf, rvAll, rv1, e2, e3, hA.ld3, notTup, packRes], T, by rw [l1], by rw [l1, hr]; exact ⟨p', q', rfl, isT_re hT hp hq l2 l3⟩⟩
    refine W_cut (fun E S => Kept st S ∧ At S b2 Z ∧ E 0 = y ∧ E 2 = .ptr b2 0) ?_ ?_
    · simp (maxSteps := 1000000) (disch := omega) only [allocPV, qabz, qajz, qalz, evOp, qapz, qarz, qatz, qavz,
 ↓reduceIte, Nat.reduceEqDiff, qawz, true_and, reduceCtorEq]
      exact ⟨Kept.start.alloc', by rw [hb2, hZ]; exact At.last (s := ⟨st.boxes, st.toks, st.loops, st.boxes.length⟩), by rw [hb2]⟩
    rintro e S ⟨hk, hA2, h0, h2⟩
    obtain ⟨j, c, ds, hrv, hrd⟩ := readV_parts (readL l)
    obtain ⟨b5, hb5⟩ : ∃ b5, b5 = S.boxes.length := ⟨_, rfl⟩
    have hne25 : b2 ≠ b5 := by have := hA2.lt; omega
    refine W_cut (fun E S => Kept st S ∧ At S b2 Z ∧ At S b5 [.int .i64 j, .int .i64 c] ∧ (∃ v, E 4 = v ∧ v.vs 3 = some ((ds.map toLn).map lV)) ∧ E 2 = .ptr b2 0 ∧ E 5 = .ptr b5 0) ?_ ?_
    · have q1 := Read_big (st := S) hy hl hq hN
      obtain ⟨v, S1, q2, q3, q4, q5⟩ := hrv S
      rw [q2] at q1
      have hA := At.last (s := S1) (z := [.int .i64 0, .int .i64 0]) (T := S1.toks) (Lp := S1.loops) (lo := S1.low)
      have hb5' : b5 = S1.boxes.length := by rw [q5]; exact hb5
      rw [← hb5'] at hA
      obtain ⟨S2, a2, w2⟩ := hA.st2 (v0 := .int .i64 j) (v1 := .int .i64 c) rfl rfl rfl rfl
      simp (maxSteps := 1000000) (disch := omega) only [h0, h2, q1, allocPV, ← hb5', a2, qabz, qajz, qalz, evOp, qaoz, qaqz, qarz, qatz, qauz, qavz,
 ↓reduceIte, Nat.reduceEqDiff, List.map_cons, List.map_nil, Option.map_some, qcjz, List.getElem?_cons_zero, List.getElem?_cons_succ, true_and, and_true, exists_eq_left']
      exact ⟨w2.kp st (q4 st hk).alloc' (by have := hk.bl; omega), w2.ot _ _ hne25 (hA2.bx q5).alloc, w2.at_, q3⟩
    clear hk hA2 h0 h2 hb5
    rintro e S ⟨hk, hA2, hA5, ⟨v4, h4, hv4⟩, h2, h5⟩
    have l5 := hA5.load (k := 1) (v := .int .i64 c) (r := []) rfl
    cases hr : readL l with
    | error q =>
      obtain ⟨j', c'⟩ := q
      rw [hr] at hrd
      obtain ⟨rfl, rfl, rfl⟩ := hrd
      have hc0 := (readL_err hr).2
      rw [hZ] at hA2
      simp (maxSteps := 1000000) (disch := omega) only [h2, h5, faP, Nat.zero_add, l5, hc0, hbu, hA2.stk3, qaaz, qabz, qacz, qaiz, qajz, qalz, evOp, qaoz, qapz, qarz, qatz, qauz, qavz,
 ↓reduceIte, Nat.reduceEqDiff, List.map_nil, Option.map_some, qazz, qbaz, qbhz, qboz,
 qbuz, decide_true, ne_eq, not_false_eq_true]
      exact finE _ _ _ hk hA2 (by unfold treeL; rw [hr]) h2 rfl
    | ok ds' =>
      rw [hr] at hrd
      obtain ⟨rfl, rfl, rfl⟩ := hrd
      obtain ⟨r1, r2, r3⟩ := readL_ok hr
      have r4 := readL_cnt hr
      have htl : treeL l = treeR ds := by unfold treeL; rw [hr]
      have hokd : ∀ d ∈ ds, okD d := fun d hd => rt_okD (r1 d hd)
      refine W_cut (fun E S => Kept st S ∧ At S b2 Z ∧ E 2 = .ptr b2 0 ∧ E 4 = v4) ?_ ?_
      · simp (maxSteps := 1000000) (disch := omega) only [h2, h4, h5, faP, Nat.zero_add, l5, qaaz, qabz, qacz, qaez, qajz, qalz, evOp, qaoz, qapz, qarz, qatz, qavz,
 ↓reduceIte, Nat.reduceEqDiff, Option.map_some, qazz, qbhz, qbuz, decide_false,
 Bool.false_eq_true, true_and, and_true, ne_eq, not_true_eq_false]
        exact ⟨hk, hA2⟩
      clear hk hA2 hA5 l5 h2 h4 h5
      rintro e S ⟨hk, hA2, h2, h4⟩
      obtain ⟨rr, T', c1, c2⟩ := read_spec (ds.length + 1) ds 1 v4 S (by omega) (by omega) (by omega) (by rw [dV_map]; exact hv4) hokd
      have c1' : call prog (.fn 343 []) [v4, .int .i64 1] S = some (rr, ⟨S.boxes, S.toks ++ T', S.loops, S.low⟩) := c1
      obtain ⟨b6, hb6⟩ : ∃ b6, b6 = S.boxes.length := ⟨_, rfl⟩
      have hne26 : b2 ≠ b6 := by have := hA2.lt; omega
      have hle6 : st.boxes.length ≤ b6 := by have := hk.bl; omega
      have hA6 := At.last (s := ⟨S.boxes, S.toks ++ T', S.loops, S.low⟩) (z := [.str [], .nils, .nils]) (T := S.toks ++ T') (Lp := S.loops) (lo := S.low)
      simp only at hA6
      rw [← hb6] at hA6
      have m1t := (hk.toks (T := T')).alloc' (z := [.str [], .nils, .nils])
      have m2 := (hA2.bx (s' := ⟨S.boxes, S.toks ++ T', S.loops, S.low⟩) rfl).alloc (z := [.str [], .nils, .nils]) (T := S.toks ++ T') (Lp := S.loops) (lo := S.low)
      cases hrr : readT ds 1 with
      | none =>
        rw [hrr] at c2
        obtain ⟨nn, pp, qq, ww, xs', ys', zs', rfl, d1, d2, d3⟩ := c2
        obtain ⟨S2, a2, w2⟩ := hA6.st3 (v0 := .str nn) (v1 := pp) (v2 := qq) rfl (vs_leaf d1).1 (vs_leaf d2).1 rfl ((vs_leaf d1).2 _) ((vs_leaf d2).2 _)
        have z2 := w2.ot _ _ hne26 m2
        rw [hZ] at z2
        simp (maxSteps := 1000000) (disch := omega) only [h2, h4, c1', allocPV, ← hb6, a2, hbu, z2.stk3, qaaz, qabz, qacz, qaiz, qajz, qakz, qalz, qamz, qanz, evOp, qaoz, qapz, qaqz, qarz, qatz, qauz, qavz,
 ↓reduceIte, Nat.reduceEqDiff, List.map_cons, List.map_nil, Option.map_some, qazz, qbaz, qbhz, qboz,
 qcfz, beq_false, Bool.false_eq_true, qcjz, List.getElem?_cons_zero, List.getElem?_cons_succ, Bool.not_true, Bool.not_false]
        exact finE _ _ _ (w2.kp st m1t hle6) z2 (by rw [htl]; unfold treeR; rw [hrr]) h2 rfl
      | some z =>
        obtain ⟨D, rest⟩ := z
        rw [hrr] at c2
        obtain ⟨pp, qq, ww, ys', rfl, d1, d2, d3, d4⟩ := c2
        obtain ⟨S2, a2, w2⟩ := hA6.st3 (v0 := .str D.n) (v1 := pp) (v2 := qq) rfl (vs_leaf d1).1 (vs_leaf d2).1 rfl ((vs_leaf d1).2 _) ((vs_leaf d2).2 _)
        have hDT : IsT D (.agg [.str D.n, pp, qq]) := by
          obtain ⟨dn, dl, dc⟩ := D
          exact isT_of d1 d2 d3
        obtain ⟨hsm, -, -⟩ := readT_sm hrr hokd (by omega)
        have hwl := len_vs d4
        rw [List.length_map] at hwl
        have z1 := w2.kp st m1t hle6
        have z2 := w2.ot _ _ hne26 m2
        rw [hZ] at z2
        have hR := fun S : St => tRight_spec (st := S) hsm hDT
        by_cases hrest : rest = []
        · have e1 : ¬ (0 : Int) < (rest.length : Int) := by simp [hrest]
          cases hrD : rightD D with
          | true =>
            rw [hrD] at hR
            obtain ⟨S3, a3, w3⟩ := z2.st3 (v0 := .str D.n) (v1 := pp) (v2 := qq) rfl (vs_leaf d1).1 (vs_leaf d2).1 rfl ((vs_leaf d1).2 _) ((vs_leaf d2).2 _)
            simp (maxSteps := 1000000) (disch := omega) only [h2, h4, c1', allocPV, ← hb6, a2, hwl, e1, w2.at_.ld3, hR, a3, qaaz, qabz, qacz, qaez, qaiz, qajz, qakz, qalz, qamz, qanz, evOp, qaoz, qapz, qaqz, qarz, qatz, qauz, qavz,
 ↓reduceIte, Nat.reduceEqDiff, List.map_cons, List.map_nil, Option.map_some, qazz, qbhz, qbrz, qcfz, beq_false, decide_false,
 Bool.false_eq_true, qcjz, List.getElem?_cons_zero, List.getElem?_cons_succ, Bool.not_true, Bool.not_false]
            exact finO _ _ D pp qq (w3.kp st z1 (by omega)) w3.at_ hDT (by rw [htl]; unfold treeR; rw [hrr, hrest]; simp [hrD]) h2 rfl
          | false =>
            rw [hrD] at hR
            simp (maxSteps := 1000000) (disch := omega) only [h2, h4, c1', allocPV, ← hb6, a2, hwl, e1, w2.at_.ld3, hR, hbu, z2.stk3, qaaz, qabz, qacz, qaiz, qajz, qakz, qalz, qamz, qanz, evOp, qaoz, qapz, qaqz, qarz, qatz, qauz, qavz,
 ↓reduceIte, Nat.reduceEqDiff, List.map_cons, List.map_nil, Option.map_some, qazz, qbaz, qbhz, qboz,
 qbrz, qcfz, beq_false, decide_false,
 Bool.false_eq_true, qcjz, List.getElem?_cons_zero, List.getElem?_cons_succ, Bool.not_true, Bool.not_false]
            exact finE _ _ _ z1 z2 (by rw [htl]; unfold treeR; rw [hrr, hrest]; simp [hrD]) h2 rfl
        · have hpp := List.length_pos_iff.2 hrest
          have e1 : (0 : Int) < (rest.length : Int) := by omega
          simp (maxSteps := 1000000) (disch := omega) only [h2, h4, c1', allocPV, ← hb6, a2, hwl, e1, hbu, z2.stk3, qaaz, qabz, qacz, qaiz, qajz, qakz, qalz, qamz, qanz, evOp, qaoz, qapz, qaqz, qarz, qatz, qauz, qavz,
 ↓reduceIte, Nat.reduceEqDiff, List.map_cons, List.map_nil, Option.map_some, qazz, qbaz, qbhz, qboz,
 qbrz, qcfz, beq_false, decide_true, Bool.false_eq_true, qcjz, List.getElem?_cons_zero, List.getElem?_cons_succ, Bool.not_true, Bool.not_false]
          exact finE _ _ _ z1 z2 (by
            rw [htl]; unfold treeR; rw [hrr]
            cases rest with
            | nil => exact absurd rfl hrest
            | cons _ _ => rfl) h2 rfl
  obtain ⟨⟨r, S'⟩, h1, T, h2, h3⟩ := hcore
  simp only at h2 h3
  exact ⟨r, T, by rw [h1, h2], h3⟩

theorem tRead_spec {y : PV} {l : Bs} (hy : y.by = some l) (hl : l.length ≤ 190000) (hN : (refLines (unfV l)).length ≤ 4096) : ∃ r T, call prog (.fn 324 []) [y] st = some (r, ⟨st.boxes, st.toks ++ T, st.loops, st.low⟩) ∧ treeOK (treeL l) r :=
  tRead_big hy (by omega) (fun q hq => Nat.le_trans (refLines_each hq) (Nat.le_trans (unfV_len _ l (Nat.le_refl _)) (by omega))) hN

end Go.Ab
/-
  A component is written; lines of a name.
-/
namespace Go.Ab
set_option maxRecDepth 20000
variable {st s : St} {e : Env}

theorem nm_tx {l : Bs} (h : nmB l = true) : txB l = true := by
  have hv := (nm_vd h).1
  simp only [nmB, Bool.and_eq_true, decide_eq_true_eq, List.all_eq_true] at h
  have hc : ∀ c, nmC c = true → txC c = true := all256 (p := fun c => nmC c = true → txC c = true) (by decide +kernel)
  simp only [txB, Bool.and_eq_true, List.all_eq_true]
  exact ⟨fun c hcm => hc c (h.2 c hcm), valid_iff.2 hv⟩
theorem bL_rt {a n : Bs} (ha : nmB a = true) (hn : nmB n = true) : rtB (bL a n) = true := by
  have := nm_len hn
  exact rtB_true ⟨ha, nm_tx hn, by simp only [bL]; omega, by simp [bL], fun i hi => by simp [bL] at hi, fun i hi => by simp [bL] at hi⟩
theorem lines_rt : ∀ T : TD, T.fit = true → ∀ d ∈ T.lines, rtB (toLn d) = true := by
  refine TD.ind ?_
  intro n ls cs ih hf d hd
  rw [TD.fit, fitL_all] at hf
  simp only [Bool.and_eq_true, List.all_eq_true] at hf
  obtain ⟨⟨hn, hl⟩, hc⟩ := hf
  simp only [TD.lines, List.mem_append, List.mem_cons, List.not_mem_nil, or_false] at hd
  rcases hd with (rfl | hd | hd) | rfl
  · exact bL_rt (show nmB begS = true by decide +kernel) hn
  · have := hl d hd
    simp only [lineB, Bool.and_eq_true] at this
    exact this.1.1
  · have key : ∀ cs : List TD, (∀ c ∈ cs, c.fit = true) → (∀ c ∈ cs, c.fit = true → ∀ d ∈ c.lines, rtB (toLn d) = true) → ∀ d ∈ linesL cs, rtB (toLn d) = true := by
      intro cs
      induction cs with
      | nil => intro _ _ d hd; simp [linesL] at hd
      | cons c r ih2 =>
        intro h1 h2 d hd
        simp only [linesL, List.mem_append] at hd
        rcases hd with hd | hd
        · exact h2 c (by simp) (h1 c (by simp)) d hd
        · exact ih2 (fun x hx => h1 x (by simp [hx])) (fun x hx => h2 x (by simp [hx])) d hd
    exact key cs hc ih d hd
  · exact bL_rt (show nmB endS = true by decide +kernel) hn
def outD (d : LnD) : Bs := outL (toLn d)
theorem outL_of {L : Ln} : outL L = outD (ofLn L) := rfl
theorem outD_pos {d : LnD} (h : rtB (toLn d) = true) : 1 ≤ (outD d).length := by
  have hf := text_fine h
  have hz := unf_foldW (z := []) (by simp) (by simp) _ (textOfL (toLn d)) (Nat.le_refl _) hf.1 hf.2.1
  unfold outD outL
  generalize (foldW (textOfL (toLn d)).length (textOfL (toLn d))).flatMap crW = F at *
  cases F with
  | nil => simp [unfV_nil] at hz
  | cons _ _ => simp
noncomputable def wrT (T : TD) : Int × Bs := if rightD T = true then (if (T.lines.flatMap outD).length ≤ 1048576 then (0, T.lines.flatMap outD) else (2, [])) else (100, [])
theorem strip_L {L : Ln} (h : L.good) : ∃ pv, strip (lV L) = some (lV ⟨L.n, pv, L.ps, L.v⟩) ∧ (⟨L.n, pv, L.ps, L.v⟩ : Ln).good := by
  obtain ⟨u, h1, h2, h3⟩ := strip_vs h.1
  refine ⟨u, ?_, h2, h3⟩
  show (stripAll [.str L.n, L.pv, .str L.v]).map PV.agg = _
  simp only [stripAll, show ∀ s, stripLeaf (.str s) = some (.str s) from fun _ => rfl, h1]; rfl
theorem sub_c {ek : EK} {a : Nat} (h : a ≤ 9000000) : binPV .sub ek (.int .i64 1048576) (.int .i64 (a : Int)) = some (.int .i64 (1048576 - (a : Int))) := by
  simp only [binPV, binI, reduceIte, Option.some.injEq]
  rw [wrap64 (by omega) (by omega)]

set_option maxHeartbeats 4000000 in
theorem tWrite_spec {T : TD} {x : PV} (hsm : T.sm) (hx : IsT T x) (hl : T.lines.length ≤ 1000000) : call prog (.fn 319 []) [x] st = some (outW st (wrT T)) := by
  refine call_of_W prog_319 ?_
  unfold F_tree_Write; dsimp only
  generalize hQ1 : endQ st _ _ = Q0
  have fin : ∀ (E : Env) (S : St) (v : PV) (c : Int) (B : Bs), Kept st S → Mine st S v B → (B = [] → v = .nils) → wrT T = (c, B) → E 2 = v → E 3 = .int .i64 c → Q0 .ret E S := by
    intro E S v c B hk hm hn hw e2 e3
    rw [← hQ1, qblz, hw]
    refine ⟨.tup [v, .int .i64 c], ?_, leave_outW hk hm hn⟩
    obtain ⟨⟨rfl, _⟩ | ⟨i, rfl, _⟩, _⟩ := hm <;> simp [resOf, rvAll, rv1, e2, e3, notTup, packRes]
  obtain ⟨u, hu1, hu2, hu3⟩ := strip_I hx
  obtain ⟨lv, cv, hu, -, -⟩ := hu2.agg
  have hR := fun S : St => tRight_spec (st := S) hsm hu2
  rw [hu] at hu1 hu2 hR
  cases hr : rightD T with
  | false =>
    rw [hr] at hR
    simp (maxSteps := 1000000) (disch := omega) only [hu1, cells3, lcc3, hR, qaaz, qabz, qacz, qaiz, qajz, qalz, evOp, qaoz, qapz, qaqz, qarz, qatz, qavz,
 ↓reduceIte, Nat.reduceEqDiff, List.append_nil, List.map_cons, List.map_nil, qawz, Option.map_some, qazz, qbaz, qbhz, qcfz, Bool.not_false]
    exact fin _ _ .nils 100 [] Kept.start Mine.nil (fun _ => rfl) (by simp [wrT, hr]) rfl rfl
  | true =>
    rw [hr] at hR
    have hfit : T.fit = true := by
      simp only [rightD, Bool.and_eq_true] at hr; exact hr.2
    have hrt := lines_rt T hfit
    refine W_cut (fun E S => Kept st S ∧ E 1 = .cp [.str T.n, lv, cv]) ?_ ?_
    · simp (maxSteps := 1000000) (disch := omega) only [hu1, cells3, qabz, qajz, qalz, evOp, qaoz, qapz, qarz, qatz, qavz,
 ↓reduceIte, Nat.reduceEqDiff, List.append_nil, qawz, Option.map_some, true_and, and_true]
      exact Kept.start
    rintro e S ⟨hk, h1⟩
    refine W_cut (fun E S => Kept st S ∧ E 1 = .cp [.str T.n, lv, cv]) ?_ ?_
    · simp (maxSteps := 1000000) (disch := omega) only [h1, lcc3, hR, qaaz, qabz, qacz, qaez, qajz, qalz, evOp, qaoz, qaqz, qarz, qatz, qavz,
 ↓reduceIte, Nat.reduceEqDiff, List.map_cons, List.map_nil, Option.map_some, qazz, qbhz, qcfz, Bool.false_eq_true, true_and, and_true, Bool.not_true]
      exact hk
    clear hk h1
    rintro e S ⟨hk, h1⟩
    refine W_cut (fun E S => Kept st S ∧ E 1 = .cp [.str T.n, lv, cv] ∧ E 4 = .nils) ?_ ?_
    · simp (maxSteps := 1000000) (disch := omega) only [h1, qabz, qajz, qalz, evOp, qapz, qarz, qatz, qavz,
 ↓reduceIte, Nat.reduceEqDiff, true_and, and_true]
      exact hk
    clear hk h1
    rintro e S ⟨hk, h1, h4⟩
    obtain ⟨Ms, c1, c2, c3⟩ := tlines_spec T hsm _ S .nils [] hu2 (.inl ⟨rfl, rfl⟩) (fun M hM => by simp at hM) (by simp; omega)
    have c1' : call prog (.fn 339 []) [.nils, .agg [.str T.n, lv, cv]] S = some (.sl 3 (.own S.toks.length) (Ms.map lV), S.tok1) := c1
    simp only [List.map_nil, List.nil_append] at c2
    have hMl : Ms.length = T.lines.length := by rw [← c2]; simp
    have hrow : (PV.sl 3 (.own S.toks.length) (Ms.map lV)).vs 3 = some (Ms.map lV) := by simp [PV.vs]
    have hrl : lenPV false (.sl 3 (.own S.toks.length) (Ms.map lV)) = some (.int .i64 (T.lines.length : Int)) := by rw [len_vs hrow, List.length_map, hMl]
    obtain ⟨rw13, h13⟩ : ∃ r, r = PV.sl 3 (.own S.toks.length) (Ms.map lV) := ⟨_, rfl⟩
    rw [← h13] at c1' hrow hrl
    obtain ⟨I, hI⟩ : ∃ I : Nat → Env → St → Prop, I = fun m E S => ∃ (i : Nat) (v : PV), m = T.lines.length - i ∧ i ≤ T.lines.length ∧ Kept st S ∧ Mine st S v ((T.lines.take i).flatMap outD) ∧ ((T.lines.take i).flatMap outD = [] → v = .nils) ∧ ((T.lines.take i).flatMap outD).length ≤ 1048576 ∧ E 4 = v ∧ E 13 = rw13 ∧ E 14 = .int .i64 (T.lines.length : Int) ∧ E 15 = .int .i64 (i : Int) := ⟨_, rfl⟩
    refine W_cutX (I 0) ?_ ?_
    · obtain ⟨QQ, hQQ⟩ : ∃ QQ : Ex → Env → St → Prop, QQ = fun xx e' s' => (xx = .normal ∧ I 0 e' s') ∨ (xx ≠ .normal ∧ Q0 xx e' s') := ⟨_, rfl⟩
      rw [← hQQ, qaaz]
      simp (maxSteps := 1000000) (disch := omega) only [h1, lcc3, c1', hrl, qabz, qajz, qalz, evOp, qaoz, qapz, qaqz, qarz, qatz, qavz,
 ↓reduceIte, List.map_cons, List.map_nil, Option.map_some, qazz]
      rw [qadz]
      refine W_loop I ?_ (n := T.lines.length) (by
        rw [hI]
        exact ⟨0, .nils, rfl, by omega, hk.tok1, Mine.nil, fun _ => rfl, by simp, h4, rfl, rfl, rfl⟩)
      clear hk h1 h4 c1 c1'
      intro m E S hh
      rw [hI] at hh
      obtain ⟨i, v, rfl, hi, hk, hm, hn, hbl, h4, h13', h14, h15⟩ := hh
      by_cases hlt : i < T.lines.length
      · obtain ⟨L, hL⟩ : ∃ L, L = Ms.getD i L0 := ⟨_, rfl⟩
        have hltM : i < Ms.length := by omega
        have hLg := c3 L (by rw [hL]; exact getD_mem hltM)
        obtain ⟨d, hd⟩ : ∃ d, d = T.lines.getD i ([], [], []) := ⟨_, rfl⟩
        have hdL : ofLn L = d := by rw [hd, ← c2, getD_map hltM, ← hL]
        have hdm : d ∈ T.lines := by rw [hd]; exact getD_mem hlt
        have hdr := hrt d hdm
        have hia := iaddr_L (k := .i64) (c := (i : Int)) hrow (by omega) (by rw [Int.toNat_natCast]; exact hltM)
        rw [Int.toNat_natCast, ← hL] at hia
        have hsucc : (T.lines.take (i + 1)).flatMap outD = (T.lines.take i).flatMap outD ++ outD d := by rw [take_snoc (d := ([], [], [])) hlt, ← hd]; simp
        obtain ⟨pv, p1, p2⟩ := strip_L hLg
        obtain ⟨L2, hL2⟩ : ∃ L2 : Ln, L2 = ⟨L.n, pv, L.ps, L.v⟩ := ⟨_, rfl⟩
        rw [← hL2] at p1 p2
        have hL2o : ofLn L2 = d := by rw [← hdL, hL2]; rfl
        have hL2ok : L2.ok := p2.ok (by rw [hL2o]; exact rt_okD hdr)
        have hL2r : rtB L2 = true := by
          have : rtB L2 = rtB (toLn (ofLn L2)) := rtB_pv
          rw [this, hL2o]; exact hdr
        have hlit : ∀ z, litFill 3 (List.replicate 1 z) [(0, .agg [.str L.n, L.pv, .str L.v])] = some [lV L2] := fun z => lit1 p1 rfl
        have hvs1 : ∀ k, (PV.sl 3 (.own k) [lV L2]).vs 3 = some ([L2].map lV) := fun k => by simp [PV.vs]
        have hwr : writeL [L2] = (0, outD d) := by simp [writeL, hL2r, outL_of, hL2o]
        have hop := outD_pos hdr
        have hone : outD d ≠ [] := fun q => by rw [q] at hop; simp at hop
        have hsw := fun (S : St) (k : Nat) => sWrite_spec (st := S) (hvs1 k) ⟨fun M hM => by simp only [List.mem_singleton] at hM; subst hM; exact hL2ok, by simp⟩
        simp only [hwr, outW, hone, if_false] at hsw
        obtain ⟨b6, hb6⟩ : ∃ b6, b6 = S.boxes.length := ⟨_, rfl⟩
        have hle6 : st.boxes.length ≤ b6 := by have := hk.bl; omega
        have hA6 := At.last (s := S) (z := [.str [], .nils, .str []]) (T := S.toks) (Lp := S.loops) (lo := S.low)
        rw [← hb6] at hA6
        have hlf := vs_leaf hLg.1
        obtain ⟨S1, u1, w1⟩ := hA6.st3 (v0 := .str L.n) (v1 := L.pv) (v2 := .str L.v) rfl hlf.1 rfl rfl (hlf.2 _) rfl
        have m1 := (w1.kp _ hk.alloc' hle6).tok1.tok1
        have mm : Mine st S1.tok1.tok1 v ((T.lines.take i).flatMap outD) := by
          have h1 : Mine st S1 v ((T.lines.take i).flatMap outD) := ⟨hm.1.move fun t _ => by rw [w1.tk], hm.2⟩
          exact h1.tok1.tok1
        have hvl := len_by hm.by
        have hbd : (outD d).length ≤ 50000 := by
          have := outL_len hL2ok
          rw [outL_of, hL2o] at this; exact this
        by_cases hbig : ((T.lines.take (i + 1)).flatMap outD).length ≤ 1048576
        · rw [hsucc, List.length_append] at hbig
          have e1 : ¬ (1048576 - (((T.lines.take i).flatMap outD).length : Int) < ((outD d).length : Int)) := by omega
          obtain ⟨v', s', q1, q2, q3⟩ := m1.app8 (y := .bys (.own S1.tok1.toks.length) (outD d)) (m := outD d) mm rfl (by simp only [room]; omega)
          simp (maxSteps := 1000000) (disch := omega) only [h4, h13', h14, h15, hlt, hia, ldcp3, allocPV, ← hb6, u1, w1.at_.ld3, hlit, freshT_eq, hsw, lenB, hvl, sub_c, e1, q1, add_n, loopQ_normal, qaaz, qabz, qacz, qadz, qaez, qajz, qalz, evOp, qaoz, qapz, qaqz, qarz, qatz, qauz, qavz,
 ↓reduceIte, Nat.reduceEqDiff, List.map_cons, List.map_nil, Option.map_some, qazz, qbdz, qbhz, qbpz, qbrz, decide_true, decide_false,
 Int.ofNat_lt, Bool.false_eq_true, qcjz, List.getElem?_cons_zero, List.getElem?_cons_succ, Int.reduceToNat]
          refine ⟨T.lines.length - (i + 1), by omega, ?_⟩
          rw [hI]
          refine ⟨i + 1, v', rfl, by omega, q2, by rw [hsucc]; exact q3, fun q => ?_, by rw [hsucc, List.length_append]; exact hbig, rfl, h13', h14, rfl⟩
          rw [hsucc] at q
          exact absurd (List.append_eq_nil_iff.1 q).2 hone
        · have hbig' := hbig
          rw [hsucc, List.length_append] at hbig
          have e1 : (1048576 - (((T.lines.take i).flatMap outD).length : Int) < ((outD d).length : Int)) := by omega
          simp (maxSteps := 1000000) (disch := omega) only [h4, h13', h14, h15, hlt, hia, ldcp3, allocPV, ← hb6, u1, w1.at_.ld3, hlit, freshT_eq, hsw, lenB, hvl, sub_c, e1, qaaz, qabz, qacz, qadz, qaez, qaiz, qajz, qalz, evOp, qaoz, qapz, qaqz, qarz, qatz, qauz, qavz,
 ↓reduceIte, Nat.reduceEqDiff, List.map_cons, List.map_nil, Option.map_some, qazz, qbaz, qbez, qbhz, qbiz, qbpz, qbrz, decide_true, Int.ofNat_lt, qcjz, List.getElem?_cons_zero, List.getElem?_cons_succ]
          rw [hQQ]
          refine .inr ⟨by simp, fin _ _ .nils 2 [] m1 Mine.nil (fun _ => rfl) ?_ rfl rfl⟩
          have hle : ((T.lines.take (i + 1)).flatMap outD).length ≤ (T.lines.flatMap outD).length := by
            have e : T.lines.flatMap outD = (T.lines.take (i + 1)).flatMap outD ++ (T.lines.drop (i + 1)).flatMap outD := by rw [← List.flatMap_append, List.take_append_drop]
            rw [e, List.length_append]; omega
          unfold wrT
          rw [if_pos hr, if_neg (by omega)]
      · obtain rfl : i = T.lines.length := by omega
        simp (maxSteps := 1000000) (disch := omega) only [h14, h15, hlt, qaaz, qabz, qacz, qagz, qajz, qalz, evOp, qaoz, qarz, qatz, qavz,
 ↓reduceIte, Option.map_some, qazz, qbbz, qbfz, qbhz, qbjz, qbpz, decide_false,
 Int.ofNat_lt, Bool.false_eq_true]
        rw [hQQ, hI]
        exact .inl ⟨rfl, T.lines.length, v, by omega, hi, hk, hm, hn, hbl, h4, h13', h14, h15⟩
    · clear hk h1 h4 c1 c1'
      rintro e S hh
      rw [hI] at hh
      obtain ⟨i, v, hii, hi, hk, hm, hn, hbl, h4, -, -, -⟩ := hh
      obtain rfl : i = T.lines.length := by omega
      rw [List.take_length] at hm hn hbl
      simp (maxSteps := 1000000) (disch := omega) only [h4, qaaz, qabz, qaiz, qajz, qalz, evOp, qaoz, qapz, qarz, qatz, qavz,
 ↓reduceIte, qazz]
      exact fin _ _ v 0 _ hk hm hn (by unfold wrT; rw [if_pos hr, if_pos hbl]) rfl rfl

def allD (ls : List LnD) (nm : Bs) : List LnD := ls.filter fun d => decide (d.1 = nm)
set_option maxHeartbeats 4000000 in
theorem All_spec {T : TD} {x : PV} {nm : Bs} (hsm : T.sm) (hx : IsT T x) : ∃ Ms : List Ln, call prog (.fn 332 []) [x, .str nm] st = some (newSl st 3 (Ms.map lV), newS st (Ms.map lV).isEmpty) ∧ Ms.map ofLn = allD T.ls nm ∧ okMs Ms := by
  obtain ⟨n, ls, cs⟩ := T
  cases hsm with
  | mk s1 s2 s3 s4 s5 =>
  have hcore : ∃ r, call prog (.fn 332 []) [x, .str nm] st = some r ∧ ∃ Ms : List Ln, r = (newSl st 3 (Ms.map lV), newS st (Ms.map lV).isEmpty) ∧ Ms.map ofLn = allD ls nm ∧ okMs Ms := by
    refine call_ex prog_332 ?_
    unfold F_tree_All; dsimp only
    generalize hQ1 : endX st _ _ = Q0
    obtain ⟨lv, cv, Ls, ys, a1, a2, a3, a4, a5, a6, a7, a8⟩ := strip_T hx
    have hll := len_vs a3
    have hLl : Ls.length = ls.length := by rw [← a4]; simp
    rw [List.length_map, hLl] at hll
    simp (maxSteps := 1000000) (disch := omega) only [a1, cells3, fa3_1, lcc, hll, qaaz, qabz, qadz, qajz, qalz, evOp, qaoz, qapz, qarz, qatz, qavz,
 ↓reduceIte, Nat.reduceEqDiff, qawz, Option.map_some, qazz]
    obtain ⟨I, hI⟩ : ∃ I : Nat → Env → St → Prop, I = fun m E S => ∃ (i : Nat) (v : PV) (Ms : List Ln), m = ls.length - i ∧ i ≤ ls.length ∧ Kept st S ∧ Own st S 3 v (Ms.map lV) ∧ (Ms.map lV = [] → v = .nils) ∧ Ms.map ofLn = allD (ls.take i) nm ∧ okMs Ms ∧ Ms.length ≤ i ∧ E 1 = .str nm ∧ E 5 = v ∧ E 9 = lv ∧ E 10 = .int .i64 (ls.length : Int) ∧ E 11 = .int .i64 (i : Int) := ⟨_, rfl⟩
    refine W_loop I ?_ (n := ls.length) (by
      rw [hI]
      exact ⟨0, .nils, [], rfl, by omega, Kept.start, .inl ⟨rfl, rfl⟩, fun _ => rfl, by simp [allD], fun M hM => (by simp at hM), by simp, rfl, rfl, rfl, rfl, rfl⟩)
    intro m E S hh
    rw [hI] at hh
    obtain ⟨i, v, Ms, rfl, hi, hk, ho, hn, hmo, hmg, hml, h1, h5, h9, h10, h11⟩ := hh
    by_cases hlt : i < ls.length
    · obtain ⟨L, hL⟩ : ∃ L, L = Ls.getD i L0 := ⟨_, rfl⟩
      have hltL : i < Ls.length := by omega
      have hg := a5 L (by rw [hL]; exact getD_mem hltL)
      have hia := iaddr_L (k := .i64) (c := (i : Int)) a3 (by omega) (by rw [Int.toNat_natCast]; exact hltL)
      rw [Int.toNat_natCast, ← hL] at hia
      have hgd : ls.getD i ([], [], []) = ofLn L := by rw [← a4, getD_map hltL, ← hL]
      have hsucc : allD (ls.take (i + 1)) nm = allD (ls.take i) nm ++ (if L.n = nm then [ofLn L] else []) := by
        rw [take_snoc (d := ([], [], [])) hlt, hgd]
        unfold allD
        rw [List.filter_append]
        congr 1
        by_cases h : L.n = nm
        · rw [if_pos h]; simp [ofLn, h]
        · rw [if_neg h]; simp [ofLn, h]
      have hlf := vs_leaf hg.1
      obtain ⟨b7, hb7⟩ : ∃ b7, b7 = S.boxes.length := ⟨_, rfl⟩
      have hle7 : st.boxes.length ≤ b7 := by have := hk.bl; omega
      have hA7 := At.last (s := S) (z := [.str [], .nils, .str []]) (T := S.toks) (Lp := S.loops) (lo := S.low)
      rw [← hb7] at hA7
      obtain ⟨S1, u1, w1⟩ := hA7.st3 (v0 := .str L.n) (v1 := L.pv) (v2 := .str L.v) rfl hlf.1 rfl rfl (hlf.2 _) rfl
      have m1 := w1.kp _ hk.alloc' hle7
      have mo := ho.tks (s' := S1) w1.tk
      have hln := w1.at_.load (k := 0) (v := .str L.n) (r := [L.pv, .str L.v]) rfl
      obtain ⟨pv, p1, p2⟩ := strip_L hg
      have hlit : ∀ z, litFill 3 (List.replicate 1 z) [(0, .agg [.str L.n, L.pv, .str L.v])] = some [lV ⟨L.n, pv, L.ps, L.v⟩] := fun z => lit1 p1 rfl
      by_cases hnm : L.n = nm
      · rw [if_pos hnm] at hsucc
        obtain ⟨v', s', q1, q2, q3, q4⟩ := m1.appV (u := lV ⟨L.n, pv, L.ps, L.v⟩) (w := .undef) mo (by simp [room]; omega)
        simp (maxSteps := 1000000) (disch := omega) only [h1, h5, h9, h10, h11, hlt, hia, ldcp3, allocPV, ← hb7, u1, faP, Nat.zero_add, hln, eq_true hnm, w1.at_.ld3, hlit, freshT_eq, q1, add_n, loopQ_normal, qaaz, qabz, qacz, qadz, qaez, qajz, qalz, evOp, qaoz, qapz, qarz, qatz, qauz, qavz,
 ↓reduceIte, Nat.reduceEqDiff, List.map_cons, List.map_nil, Option.map_some, qazz, qbdz, qbhz, qbpz, qcbz, decide_true, Int.ofNat_lt, Bool.false_eq_true, Int.reduceToNat]
        refine ⟨ls.length - (i + 1), by omega, ?_⟩
        rw [hI]
        refine ⟨i + 1, v', Ms ++ [⟨L.n, pv, L.ps, L.v⟩], rfl, by omega, q2, by simpa using q3, fun q => by simp at q, ?_, ?_, by simp; omega, h1, rfl, h9, h10, rfl⟩
        · rw [List.map_append, hmo, hsucc]; rfl
        · intro M hM
          rcases List.mem_append.1 hM with hM | hM
          · exact hmg M hM
          · simp only [List.mem_singleton] at hM; subst hM; exact p2
      · rw [if_neg hnm, List.append_nil] at hsucc
        simp (maxSteps := 1000000) (disch := omega) only [h1, h9, h10, h11, hlt, hia, ldcp3, allocPV, ← hb7, u1, faP, Nat.zero_add, hln, hnm, add_n, loopQ_normal, qaaz, qabz, qacz, qadz, qaez, qajz, qalz, evOp, qaoz, qapz, qarz, qatz, qauz, qavz,
 ↓reduceIte, Nat.reduceEqDiff, Option.map_some, qazz, qbdz, qbhz, qbpz, qcbz, decide_true, decide_false,
 Int.ofNat_lt, Bool.false_eq_true, Int.reduceToNat]
        refine ⟨ls.length - (i + 1), by omega, ?_⟩
        rw [hI]
        exact ⟨i + 1, v, Ms, rfl, by omega, m1, mo, hn, by rw [hmo, hsucc], hmg, by omega, h1, h5, h9, h10, rfl⟩
    · obtain rfl : i = ls.length := by omega
      rw [List.take_length] at hmo
      simp (maxSteps := 1000000) (disch := omega) only [h5, h10, h11, hlt, qaaz, qabz, qacz, qagz, qaiz, qajz, qalz, evOp, qaoz, qarz, qatz, qavz,
 ↓reduceIte, Nat.reduceEqDiff, Option.map_some, qazz, qbbz, qbfz, qbhz, qbjz, qbpz, decide_false,
 Int.ofNat_lt, Bool.false_eq_true]
      rw [← hQ1]
      refine ⟨.inr rfl, v, ?_, Ms, hk.leaveOwn1 ho hn, hmo, hmg⟩
      rcases ho with ⟨rfl, _⟩ | ⟨i, rfl, _⟩ <;> simp [resOf, rvAll, rv1, qavz, notTup, packRes]
  obtain ⟨r, h1, Ms, h2, h3, h4⟩ := hcore
  exact ⟨Ms, by rw [h1, h2], h3, h4⟩
end Go.Ab
/-
  What must come of fixed calls; a component that was written is read: plain.
-/
namespace Go.Ab
set_option maxRecDepth 20000
variable {st s : St} {e : Env}

theorem good_flat {L : Ln} {c : Int} (h : L.good) : Flat (.tup [.agg [.str L.n, L.pv, .str L.v], .int .i64 c]) := by
  obtain ⟨n, pv, ps, v⟩ := L
  obtain ⟨h1, h2⟩ := h
  simp only at h1 h2 ⊢
  rcases vs_cases h1 with ⟨rfl, _⟩ | ⟨t, rfl⟩
  · exact ⟨fun _ => rfl, fun _ _ => rfl⟩
  · cases t with
    | own i => simp [tokOf] at h2
    | no => exact ⟨fun _ => rfl, fun _ _ => rfl⟩
    | ex => exact ⟨fun _ => rfl, fun _ _ => rfl⟩
theorem newSl_len {S : St} {xs : List PV} : lenPV false (newSl S 3 xs) = some (.int .i64 (xs.length : Int)) := by
  unfold newSl; split
  · rename_i h; subst h; rfl
  · rfl
theorem Get_spec11 {T : TD} {x : PV} {nm : Bs} (hsm : T.sm) (hx : IsT T x) : ∃ L : Ln, call prog (.fn 330 []) [x, .str nm] st = some (.tup [.agg [.str L.n, L.pv, .str L.v], .int .i64 ((allD T.ls nm).length : Int)], st) ∧ L.good ∧ ofLn L = (allD T.ls nm).getD 0 ([], [], []) := by
  obtain ⟨b4, hb4⟩ : ∃ b4, b4 = st.boxes.length := ⟨_, rfl⟩
  have hcore : ∃ r, call prog (.fn 330 []) [x, .str nm] st = some r ∧ ∃ L : Ln, r = (.tup [.agg [.str L.n, L.pv, .str L.v], .int .i64 ((allD T.ls nm).length : Int)], st) ∧ L.good ∧ ofLn L = (allD T.ls nm).getD 0 ([], [], []) := by
    refine call_ex prog_330 ?_
    unfold F_tree_Get; dsimp only
    generalize hQ1 : endX st _ _ = Q0
    obtain ⟨u, hu1, hu2, hu3⟩ := strip_I hx
    obtain ⟨lv, cv, hu, -, -⟩ := hu2.agg
    rw [hu] at hu1 hu2
    have fin : ∀ (E : Env) (S : St) (L : Ln), Kept st S → At S b4 [.str L.n, L.pv, .str L.v] → L.good → ofLn L = (allD T.ls nm).getD 0 ([], [], []) → E 4 = .ptr b4 0 → E 5 = .int .i64 ((allD T.ls nm).length : Int) → Q0 .ret E S := by
      intro E S L hk hA hg ho e4 e5
      rw [← hQ1]
      exact ⟨.inr rfl, .tup [.agg [.str L.n, L.pv, .str L.v], .int .i64 ((allD T.ls nm).length : Int)], by simp [resOf, rvAll, rv1, e4, e5, hA.ld3, notTup, packRes], L, hk.leave' (good_flat hg), hg, ho⟩
    refine W_cut (fun E S => Kept st S ∧ At S b4 [.str [], .nils, .str []] ∧ E 1 = .str nm ∧ E 2 = .cp [.str T.n, lv, cv] ∧ E 4 = .ptr b4 0) ?_ ?_
    · simp (maxSteps := 1000000) (disch := omega) only [hu1, cells3, allocPV, qabz, qajz, qalz, evOp, qaoz, qapz, qarz, qatz, qavz,
 ↓reduceIte, Nat.reduceEqDiff, qawz, qaxz, Option.map_some, true_and]
      exact ⟨Kept.start.alloc', by rw [hb4]; exact At.last (s := ⟨st.boxes, st.toks, st.loops, st.boxes.length⟩), by rw [hb4]⟩
    rintro e S ⟨hk, hA, h1, h2, h4⟩
    obtain ⟨Ms, c1, c2, c3⟩ := All_spec (st := S) (nm := nm) hsm hu2
    obtain ⟨nb, nl, np⟩ := newS_bx (S := S) (b := (Ms.map lV).isEmpty)
    have k1 := hk.newS (b := (Ms.map lV).isEmpty)
    have A1 := hA.bx (s' := newS S (Ms.map lV).isEmpty) nb
    have hml : Ms.length = (allD T.ls nm).length := by rw [← c2]; simp
    have hlen := newSl_len (S := S) (xs := Ms.map lV)
    rw [List.length_map, hml] at hlen
    have hvs := newSl_vs3 (S := S) (xs := Ms.map lV)
    obtain ⟨row, hrow⟩ : ∃ r, r = newSl S 3 (Ms.map lV) := ⟨_, rfl⟩
    rw [← hrow] at c1 hlen hvs
    by_cases h0 : allD T.ls nm = []
    · have e0 : ((allD T.ls nm).length : Int) = 0 := by simp [h0]
      obtain ⟨S2, a2, w2⟩ := A1.st3 (v0 := .str []) (v1 := .nils) (v2 := .str []) rfl rfl rfl rfl rfl rfl
      have hbu : buildCells [.str [], .nils, .str []] [] = some [.str [], .nils, .str []] := rfl
      simp (maxSteps := 1000000) (disch := omega) only [h1, h2, h4, lcc3, c1, hlen, eq_true e0, hbu, a2, qaaz, qabz, qacz, qaiz, qajz, qalz, evOp, qaoz, qapz, qaqz, qarz, qatz, qauz, qavz,
 ↓reduceIte, Nat.reduceEqDiff, List.map_cons, List.map_nil, Option.map_some, qazz, qbaz, qbhz, qbtz, decide_true]
      exact fin _ _ ⟨[], .nils, [], []⟩ (w2.kp st k1 (by omega)) w2.at_ ⟨by simp [PV.vs], rfl⟩ (by rw [h0]; rfl) h4 (by rw [e0]; rfl)
    · have hp := List.length_pos_iff.2 h0
      have e0 : ¬ ((allD T.ls nm).length : Int) = 0 := by omega
      obtain ⟨L, hL⟩ : ∃ L, L = Ms.getD 0 L0 := ⟨_, rfl⟩
      have hg := c3 L (by rw [hL]; exact getD_mem (by omega))
      have hia := iaddr_L (k := .i64) (c := 0) hvs (by omega) (by simpa [hml] using hp)
      rw [show (0 : Int).toNat = 0 from rfl, ← hL] at hia
      have hlf := vs_leaf hg.1
      obtain ⟨S2, a2, w2⟩ := A1.st3 (v0 := .str L.n) (v1 := L.pv) (v2 := .str L.v) rfl hlf.1 rfl rfl (hlf.2 _) rfl
      simp (maxSteps := 1000000) (disch := omega) only [h1, h2, h4, lcc3, c1, hlen, e0, hia, ldcp3, a2, qaaz, qabz, qacz, qaez, qaiz, qajz, qalz, evOp, qaoz, qapz, qaqz, qarz, qatz, qauz, qavz,
 ↓reduceIte, Nat.reduceEqDiff, List.map_cons, List.map_nil, Option.map_some, qazz, qbhz, qbtz, decide_false,
 Bool.false_eq_true]
      exact fin _ _ L (w2.kp st k1 (by omega)) w2.at_ hg (by rw [hL, ← c2, getD_map (by omega)]) h4 rfl
  obtain ⟨r, h1, L, h2, h3, h4⟩ := hcore
  exact ⟨L, by rw [h1, h2], h3, h4⟩

theorem lines_cnt : ∀ T : TD, T.lines.length = 2 * T.cnt + T.lns := by
  refine TD.ind ?_
  intro n ls cs ih
  have h : ∀ cs : List TD, (∀ c ∈ cs, c.lines.length = 2 * c.cnt + c.lns) → (linesL cs).length = 2 * cntL cs + lnsL cs := by
    intro cs
    induction cs with
    | nil => intro _; simp [linesL, cntL, lnsL]
    | cons c r ih2 =>
      intro h
      have h1 := h c (by simp)
      have h2 := ih2 (fun d hd => h d (by simp [hd]))
      simp only [linesL, List.length_append, cntL, lnsL]; omega
  have := h cs ih
  simp only [TD.lines, List.length_append, List.length_cons, List.length_nil, TD.cnt, TD.lns]; omega
def tl (d : LnD) : Nat := (textOfL (toLn d)).length + 2
def al11S : Bs := [98, 101, 103, 105, 110, 58, 97, 13, 10, 88, 58, 49, 13, 10, 69, 78, 68, 58, 65, 13, 10]
def al11T : TD := .mk [65] [([88], [], [49])] []
def al11B : Bs := [66, 69, 71, 73, 78, 58, 65, 13, 10, 88, 58, 49, 13, 10, 69, 78, 68, 58, 65, 13, 10]
theorem oneL_of {s n v : Bs} {ps : List Fld} (h1 : goL (s.length + 1) [] (cutV [59, 58] s).2.1 (cutV [59, 58] s).2.2 = some (ps, v)) (h2 : upOf (cutV [59, 58] s).1 = n) (h3 : rtB ⟨n, .nils, ps, v⟩ = true) : oneL s = some (n, ps, v) := by
  unfold oneL
  rw [h1, h2, oneG, if_pos h3]
theorem rt_simple {n v : Bs} (h1 : nmB n = true) (h2 : txB v = true) (h3 : v.length ≤ 4096) : rtB ⟨n, .nils, [], v⟩ = true :=
  rtB_true ⟨h1, h2, h3, by simp, fun i hi => by simp at hi, fun i hi => by simp at hi⟩
theorem al11_read : readL al11S = .ok [(begS, [], [97]), ([88], [], [49]), (endS, [], [65])] := by
  have h0 : unfV al11S = al11S := by kernel_rfl
  have h1 : ptsOf (al11S.length + 1) al11S 0 = .ok [98, 101, 103, 105, 110, 58, 97, 13, 10, 88, 58, 49, 13, 10, 69, 78, 68, 58, 65, 13, 10] := by kernel_rfl
  have h2 : refLines al11S = [(0, [98, 101, 103, 105, 110, 58, 97], true), (9, [88, 58, 49], true), (14, [69, 78, 68, 58, 65], true)] := by kernel_rfl
  have o1 : oneL [98, 101, 103, 105, 110, 58, 97] = some (begS, [], [97]) := oneL_of (by kernel_rfl) (by kernel_rfl) (rt_simple (by kernel_rfl) (by kernel_rfl) (by decide))
  have o2 : oneL [88, 58, 49] = some ([88], [], [49]) := oneL_of (by kernel_rfl) (by kernel_rfl) (rt_simple (by kernel_rfl) (by kernel_rfl) (by decide))
  have o3 : oneL [69, 78, 68, 58, 65] = some (endS, [], [65]) := oneL_of (by kernel_rfl) (by kernel_rfl) (rt_simple (by kernel_rfl) (by kernel_rfl) (by decide))
  unfold readL
  rw [h0, h1, h2]
  simp only [readG, if_true, o1, o2, o3]
theorem al11_fit : al11T.fit = true := by
  have h : lineB ([88], [], [49]) = true := by
    have : rtB (toLn ([88], [], [49])) = true := rt_simple (by kernel_rfl) (by kernel_rfl) (by decide)
    unfold lineB; rw [this]; decide
  have hn : nmB [65] = true := by kernel_rfl
  simp [al11T, TD.fit, fitL, h, hn]
theorem al11_right : rightD al11T = true := by
  have h1 : al11T.cnt = 1 := by kernel_rfl
  have h2 : al11T.lns = 1 := by kernel_rfl
  have h3 : al11T.deep = 1 := by kernel_rfl
  simp [rightD, h1, h2, h3, al11_fit]
theorem al11_tree : treeL al11S = .ok al11T := by
  have h : readT [(begS, [], [97]), ([88], [], [49]), (endS, [], [65])] 1 = some (al11T, []) := by kernel_rfl
  unfold treeL
  rw [al11_read]
  simp only [treeR, h, al11_right, if_true]
theorem al11_nil : treeL [] = .error 100 := by
  have h0 : unfV [] = [] := unfV_nil
  unfold treeL readL
  rw [h0]
  rfl
theorem al11_wr : wrT al11T = (0, al11B) := by
  have h : al11T.lines.flatMap outD = al11B := by kernel_rfl
  unfold wrT
  rw [if_pos al11_right, h, if_pos (by decide)]
theorem al11_sm : al11T.sm := .mk (by simp) (by simp) (fun d hd => by simp only [List.mem_singleton] at hd; subst hd; exact ⟨by simp, by simp, by simp, fun p hp => by simp at hp⟩) (by simp) (fun c hc => by simp at hc)
theorem al11_get : allD al11T.ls [88] = [([88], [], [49])] := by decide

set_option maxHeartbeats 4000000 in
theorem alive11_spec : call prog (.fn 318 []) [] st = some (.bool true, st) := by
  refine call_of_W prog_318 ?_
  unfold F_posthornlaw11_alive; dsimp only
  refine W_cut (fun E S => Kept st S) ?_ ?_
  · simp (maxSteps := 1000000) (disch := omega) only [qabz, qajz, qalz, evOp, qapz, qarz, qatz, List.append_nil, true_and]
    exact Kept.start
  rintro e S hk
  have hfill : lit8Fill (List.replicate 21 0) [(0, .b8 98), (1, .b8 101), (2, .b8 103), (3, .b8 105), (4, .b8 110), (5, .b8 58), (6, .b8 97), (7, .b8 13), (8, .b8 10), (9, .b8 88), (10, .b8 58), (11, .b8 49), (12, .b8 13), (13, .b8 10), (14, .b8 69), (15, .b8 78), (16, .b8 68), (17, .b8 58), (18, .b8 65), (19, .b8 13), (20, .b8 10)] = some al11S := rfl
  have hN : (refLines (unfV al11S)).length ≤ 4096 := by
    have : (refLines (unfV al11S)).length = 3 := by kernel_rfl
    omega
  have hN0 : (refLines (unfV [])).length ≤ 4096 := by rw [unfV_nil]; simp [refLines, segs, place]
  obtain ⟨b1, hb1⟩ : ∃ b1, b1 = S.boxes.length := ⟨_, rfl⟩
  have hle1 : st.boxes.length ≤ b1 := by have := hk.bl; omega
  refine W_cut (fun E S => ∃ p q, Kept st S ∧ At S b1 [.str [65], p, q] ∧ IsT al11T (.agg [.str [65], p, q]) ∧ E 1 = .ptr b1 0 ∧ E 2 = .int .i64 0) ?_ ?_
  · obtain ⟨r, T', c1, c2⟩ := tRead_spec (st := S.tok1) (y := .bys (.own S.toks.length) al11S) (l := al11S) rfl (by decide) hN
    rw [al11_tree] at c2
    obtain ⟨p, q, rfl, hT⟩ := c2
    have hA := At.last (s := ⟨S.tok1.boxes, S.tok1.toks ++ T', S.tok1.loops, S.tok1.low⟩) (z := [.str [], .nils, .nils]) (T := S.tok1.toks ++ T') (Lp := S.tok1.loops) (lo := S.tok1.low)
    simp only at hA
    have hb1' : b1 = S.tok1.boxes.length := hb1
    rw [← hb1'] at hA
    obtain ⟨-, xs, ys, d1, d2⟩ := isT_vs hT
    obtain ⟨S2, a2, w2⟩ := hA.st3 (v0 := .str [65]) (v1 := p) (v2 := q) rfl (vs_leaf d1).1 (vs_leaf d2).1 rfl ((vs_leaf d1).2 _) ((vs_leaf d2).2 _)
    have a2' : storePV ⟨S.tok1.boxes ++ [[.str [], .nils, .nils]], S.tok1.toks ++ T', S.tok1.loops, S.tok1.low⟩ 3 (.ptr b1 0) (.agg [.str al11T.n, p, q]) = some S2 := a2
    have htk : S.tok1.toks[S.toks.length]? = some true := by simp [St.tok1]
    simp (maxSteps := 1000000) (disch := omega) only [hfill, freshT_eq, htk, c1, allocPV, ← hb1', a2', qabz, qajz, qalz, evOp, qaoz, qapz, qaqz, qarz, qatz, qauz, qavz,
 ↓reduceIte, Nat.reduceEqDiff, List.map_cons, List.map_nil, Option.map_some, qcjz, List.getElem?_cons_zero, List.getElem?_cons_succ, true_and, and_true]
    exact ⟨p, q, w2.kp st ((hk.tok1.toks (T := T')).alloc' (z := [.str [], .nils, .nils])) hle1, w2.at_, hT⟩
  clear hk hb1
  rintro e S ⟨p, q, hk, hA1, hT, h1, h2⟩
  refine W_cut (fun E S => Kept st S ∧ At S b1 [.str [65], p, q] ∧ E 1 = .ptr b1 0 ∧ E 2 = .int .i64 0 ∧ (∃ w, E 3 = w ∧ w.by = some al11B) ∧ E 4 = .int .i64 0) ?_ ?_
  · have hw := tWrite_spec (st := S) al11_sm hT (by rw [lines_cnt]; decide)
    rw [al11_wr] at hw
    simp only [outW, show ¬ al11B = [] by decide, if_false] at hw
    simp (maxSteps := 1000000) (disch := omega) only [h1, h2, hA1.ld3, hw, qabz, qajz, qalz, evOp, qaoz, qaqz, qarz, qatz, qavz,
 ↓reduceIte, Nat.reduceEqDiff, List.map_cons, List.map_nil, Option.map_some, qcgz, qcjz, List.getElem?_cons_zero, List.getElem?_cons_succ, true_and, and_true, exists_eq_left']
    exact ⟨hk.tok1, hA1.bx rfl⟩
  clear hk hA1 h1 h2
  rintro e S ⟨hk, hA1, h1, h2, ⟨w3, h3, hw3⟩, h4⟩
  obtain ⟨b5, hb5⟩ : ∃ b5, b5 = S.boxes.length := ⟨_, rfl⟩
  have hne15 : b1 ≠ b5 := by have := hA1.lt; omega
  have hle5 : st.boxes.length ≤ b5 := by have := hk.bl; omega
  refine W_cut (fun E S => Kept st S ∧ At S b1 [.str [65], p, q] ∧ E 1 = .ptr b1 0 ∧ E 2 = .int .i64 0 ∧ E 3 = w3 ∧ E 4 = .int .i64 0 ∧ E 6 = .int .i64 100) ?_ ?_
  · obtain ⟨r, T', c1, c2⟩ := tRead_spec (st := S) (y := .nils) (l := []) rfl (by decide) hN0
    rw [al11_nil] at c2
    simp only [treeOK] at c2
    subst c2
    have hA := At.last (s := ⟨S.boxes, S.toks ++ T', S.loops, S.low⟩) (z := [.str [], .nils, .nils]) (T := S.toks ++ T') (Lp := S.loops) (lo := S.low)
    simp only at hA
    rw [← hb5] at hA
    obtain ⟨S2, a2, w2⟩ := hA.st3 (v0 := .str []) (v1 := .nils) (v2 := .nils) rfl rfl rfl rfl rfl rfl
    simp (maxSteps := 1000000) (disch := omega) only [h1, h2, h3, h4, c1, allocPV, ← hb5, a2, qabz, qajz, qalz, evOp, qaoz, qapz, qaqz, qarz, qatz, qauz, qavz,
 ↓reduceIte, Nat.reduceEqDiff, List.map_cons, List.map_nil, Option.map_some, qcjz, List.getElem?_cons_zero, List.getElem?_cons_succ, true_and, and_true]
    exact ⟨w2.kp st ((hk.toks (T := T')).alloc' (z := [.str [], .nils, .nils])) hle5, w2.ot _ _ hne15 (hA1.bx (s' := ⟨S.boxes, S.toks ++ T', S.loops, S.low⟩) rfl).alloc⟩
  clear hk hA1 h1 h2 h3 h4 hb5
  rintro e S ⟨hk, hA1, h1, h2, h3, h4, h6⟩
  obtain ⟨b7, hb7⟩ : ∃ b7, b7 = S.boxes.length := ⟨_, rfl⟩
  have hle7 : st.boxes.length ≤ b7 := by have := hk.bl; omega
  refine W_cut (fun E S => ∃ (n : Bs) (pv : PV), Kept st S ∧ At S b7 [.str n, pv, .str [49]] ∧ E 2 = .int .i64 0 ∧ E 3 = w3 ∧ E 4 = .int .i64 0 ∧ E 6 = .int .i64 100 ∧ E 7 = .ptr b7 0 ∧ E 8 = .int .i64 1) ?_ ?_
  · obtain ⟨L, c1, c2, c3⟩ := Get_spec11 (st := S) (nm := [88]) al11_sm hT
    rw [al11_get] at c1 c3
    have hv : L.v = [49] := congrArg (fun z : LnD => z.2.2) c3
    have hA := At.last (s := S) (z := [.str [], .nils, .str []]) (T := S.toks) (Lp := S.loops) (lo := S.low)
    rw [← hb7] at hA
    obtain ⟨S2, a2, w2⟩ := hA.st3 (v0 := .str L.n) (v1 := L.pv) (v2 := .str L.v) rfl (vs_leaf c2.1).1 rfl rfl ((vs_leaf c2.1).2 _) rfl
    have c1' : call prog (.fn 330 []) [.agg [.str [65], p, q], .str [88]] S = some (.tup [.agg [.str L.n, L.pv, .str L.v], .int .i64 1], S) := c1
    have hA2 : At S2 b7 [.str L.n, L.pv, .str [49]] := by rw [← hv]; exact w2.at_
    simp (maxSteps := 1000000) (disch := omega) only [h1, h2, h3, h4, h6, hA1.ld3, c1', allocPV, ← hb7, a2, qabz, qajz, qalz, evOp, qaoz, qapz, qaqz, qarz, qatz, qauz, qavz,
 ↓reduceIte, Nat.reduceEqDiff, List.map_cons, List.map_nil, Option.map_some, qcjz, List.getElem?_cons_zero, List.getElem?_cons_succ, true_and, and_true]
    exact ⟨L.n, L.pv, w2.kp st hk.alloc' hle7, hA2⟩
  clear hk hA1 h1 h2 h3 h4 h6 hb7
  rintro e S ⟨n, pv, hk, hA7, h2, h3, h4, h6, h7, h8⟩
  have l7 := hA7.load (k := 2) (v := .str [49]) (r := []) rfl
  have e1 : (al11B = [66, 69, 71, 73, 78, 58, 65, 13, 10, 88, 58, 49, 13, 10, 69, 78, 68, 58, 65, 13, 10]) = True := eq_true rfl
  simp (maxSteps := 1000000) (disch := omega) only [h2, h3, h4, h6, h7, h8, b2s_by hw3, e1, faP, Nat.zero_add, l7, eq_self, qaaz, qabz, qaiz, qajz, qakz, qalz, qamz, qanz, evOp, qaoz, qapz, qarz, qatz, qavz,
 ↓reduceIte, Nat.reduceEqDiff, Option.map_some, qazz, qblz, qbtz, qcbz, beq_true, decide_true]
  exact retB rfl hk rfl
end Go.Ab
/-
  How much a tree has, whatever it has.
-/
namespace Go.Ab
set_option maxRecDepth 20000
variable {st s : St} {e : Env}

theorem w64_def (n : Int) : IntKind.i64.wrap n = if n % 18446744073709551616 ≥ 9223372036854775808 then n % 18446744073709551616 - 18446744073709551616 else n % 18446744073709551616 := by
  unfold IntKind.wrap
  simp [IntKind.signed, IntKind.bits]
theorem w64_add (a b : Int) : IntKind.i64.wrap (IntKind.i64.wrap a + IntKind.i64.wrap b) = IntKind.i64.wrap (a + b) := by
  simp only [w64_def]
  split <;> split <;> split <;> split <;> omega
theorem add_w {ek : EK} {a b : Int} : binPV .add ek (.int .i64 (IntKind.i64.wrap a)) (.int .i64 (IntKind.i64.wrap b)) = some (.int .i64 (IntKind.i64.wrap (a + b))) := by
  simp only [binPV, binI, reduceIte, w64_add]

set_option maxHeartbeats 2000000 in
theorem CountW_spec : ∀ (T : TD), T.sm → T.deep ≤ 1000 → ∀ (x : PV) (st : St), IsT T x → call prog (.fn 337 []) [x] st = some (.tup [.int .i64 (IntKind.i64.wrap (T.cnt : Int)), .int .i64 (IntKind.i64.wrap (T.lns : Int)), .int .i64 (T.deep : Int)], st) := by
  refine TD.ind ?_
  intro n ls cs ih hsm hb x st hx
  cases hsm with
  | mk s1 s2 s3 s4 s5 =>
  refine call_of_W prog_337 ?_
  unfold F_posthornref11_Count; dsimp only
  generalize hQ1 : endQ st _ _ = Q0
  obtain ⟨lv, cv, Ls, ys, a1, a2, a3, a4, a5, a6, a7, a8⟩ := strip_T hx
  have hll := len_vs a3
  have hcl := len_vs a6
  rw [a7] at hcl
  have hLl : (Ls.map lV).length = ls.length := by rw [← a4]; simp
  rw [hLl] at hll
  have hll' : lenPV false lv = some (.int .i64 (IntKind.i64.wrap (ls.length : Int))) := by rw [hll, wrap64 (by omega) (by omega)]
  simp only [TD.deep] at hb
  have h1w : IntKind.i64.wrap 1 = 1 := by rw [wrap64 (by omega) (by omega)]
  simp (maxSteps := 1000000) (disch := omega) only [a1, cells3, fa3_1, lcc, hll', qaaz, qabz, qadz, qajz, qalz, evOp, qaoz, qapz, qarz, qatz, qavz,
 ↓reduceIte, Nat.reduceEqDiff, List.append_nil, qawz, Option.map_some, qazz]
  obtain ⟨I, hI⟩ : ∃ I : Nat → Env → St → Prop, I = fun k E S => ∃ i : Nat, k = cs.length - i ∧ i ≤ cs.length ∧ Kept st S ∧ E 1 = .cp [.str n, lv, cv] ∧ E 5 = .int .i64 (IntKind.i64.wrap ((1 + cntL (cs.take i) : Nat) : Int)) ∧ E 6 = .int .i64 (IntKind.i64.wrap ((ls.length + lnsL (cs.take i) : Nat) : Int)) ∧ E 7 = .int .i64 ((1 + deepL (cs.take i) : Nat) : Int) ∧ E 8 = .int .i64 (i : Int) := ⟨_, rfl⟩
  refine W_loop I ?_ (n := cs.length) (by
    rw [hI]; exact ⟨0, rfl, by omega, Kept.start, rfl, by simp [cntL, qavz, h1w], by simp [lnsL, qavz], by simp [deepL, qavz], rfl⟩)
  intro k E S hh
  rw [hI] at hh
  obtain ⟨i, rfl, hi, hk, h1, h5, h6, h7, h8⟩ := hh
  by_cases hlt : i < cs.length
  · obtain ⟨p1, p2, p3⟩ := part_le hlt
    obtain ⟨t1, t2, t3⟩ := take_succ_T hlt
    obtain ⟨la, ca, q1, q2, q3, -, -⟩ := iaddr_T a6 (by omega) (a8 i hlt)
    obtain ⟨c, hc⟩ : ∃ c, c = cs.getD i T0 := ⟨_, rfl⟩
    rw [← hc] at p1 p2 p3 t1 t2 t3 q2 q3
    have hcall := fun S : St => ih c (by rw [hc]; exact getD_mem hlt) (s5 c (by rw [hc]; exact getD_mem hlt)) (by omega) _ S q3
    by_cases hd : deepL (cs.take i) < c.deep
    · have e1 : ((1 + deepL (cs.take i) : Nat) : Int) < ((c.deep + 1 : Nat) : Int) := by omega
      simp (maxSteps := 1000000) (disch := omega) only [h1, h5, h6, h7, h8, fa3_2, lcc, hcl, hlt, q2, ldcp3, hcall, add_w, add_n, e1, loopQ_normal, qaaz, qabz, qacz, qadz, qaez, qajz, qalz, evOp, qaoz, qapz, qaqz, qarz, qatz, qavz,
 ↓reduceIte, Nat.reduceEqDiff, List.map_cons, List.map_nil, Option.map_some, qazz, qbdz, qbhz, qbpz, qbrz, decide_true, Int.ofNat_lt, qcjz, List.getElem?_cons_zero, List.getElem?_cons_succ, Int.reduceToNat]
      refine ⟨cs.length - (i + 1), by omega, ?_⟩
      rw [hI]
      refine ⟨i + 1, rfl, by omega, hk, h1, ?_, ?_, ?_, rfl⟩
      · simp only [qavz, Nat.reduceEqDiff, ↓reduceIte]; rw [t1]; congr 2; omega
      · simp only [qavz, Nat.reduceEqDiff, ↓reduceIte]; rw [t2]; congr 2; omega
      · simp only [qavz, Nat.reduceEqDiff, ↓reduceIte]; rw [t3]; congr 2; omega
    · have e1 : ¬ ((1 + deepL (cs.take i) : Nat) : Int) < ((c.deep + 1 : Nat) : Int) := by omega
      simp (maxSteps := 1000000) (disch := omega) only [h1, h5, h6, h7, h8, fa3_2, lcc, hcl, hlt, q2, ldcp3, hcall, add_w, add_n, e1, loopQ_normal, qaaz, qabz, qacz, qadz, qaez, qajz, qalz, evOp, qaoz, qapz, qaqz, qarz, qatz, qavz,
 ↓reduceIte, Nat.reduceEqDiff, List.map_cons, List.map_nil, Option.map_some, qazz, qbdz, qbhz, qbpz, qbrz, decide_true, decide_false,
 Int.ofNat_lt, Bool.false_eq_true, qcjz, List.getElem?_cons_zero, List.getElem?_cons_succ, Int.reduceToNat]
      refine ⟨cs.length - (i + 1), by omega, ?_⟩
      rw [hI]
      refine ⟨i + 1, rfl, by omega, hk, h1, ?_, ?_, ?_, rfl⟩
      · simp only [qavz, Nat.reduceEqDiff, ↓reduceIte]; rw [t1]; congr 2; omega
      · simp only [qavz, Nat.reduceEqDiff, ↓reduceIte]; rw [t2]; congr 2; omega
      · simp only [qavz, Nat.reduceEqDiff, ↓reduceIte]; rw [h7, t3]; congr 2; omega
  · obtain rfl : i = cs.length := by omega
    rw [List.take_length] at h5 h6 h7
    simp (maxSteps := 1000000) (disch := omega) only [h1, h5, h6, h7, h8, fa3_2, lcc, hcl, hlt, qaaz, qabz, qacz, qagz, qaiz, qajz, qalz, evOp, qaoz, qarz, qatz, qavz,
 ↓reduceIte, Nat.reduceEqDiff, Option.map_some, qazz, qbbz, qbfz, qbhz, qbjz, qbpz, decide_false,
 Int.ofNat_lt, Bool.false_eq_true]
    rw [← hQ1, qblz]
    exact ret3I rfl rfl rfl hk (by simp [TD.cnt]) (by simp [TD.lns]) (by simp [TD.deep])

def smallD (ls : List LnD) : Prop := smallL (ls.map toLn)
def smallT : Nat → TD → Prop
  | 0, _ => False
  | k + 1, T => smallD T.ls ∧ T.cs.length ≤ 70 ∧ T.n.length ≤ 200 ∧ ∀ c ∈ T.cs, smallT k c
noncomputable def greatT (k : Nat) (T : TD) : Bool := @decide (¬ smallT k T) (Classical.propDecidable _)
theorem greatT_t {k : Nat} {T : TD} (h : ¬ smallT k T) : greatT k T = true := by unfold greatT; simp [h]
theorem greatT_f {k : Nat} {T : TD} (h : smallT k T) : greatT k T = false := by unfold greatT; simp [h]
theorem small_of {Ls : List Ln} : smallL Ls ↔ smallD (Ls.map ofLn) := by
  unfold smallD smallL
  rw [List.map_map]
  have hg : ∀ i, i < Ls.length → bndL ((Ls.map (toLn ∘ ofLn)).getD i L0) i = bndL (Ls.getD i L0) i := fun i hi => by
    have : (Ls.map (toLn ∘ ofLn)).getD i L0 = toLn (ofLn (Ls.getD i L0)) := by simp [List.getD, hi]
    rw [this]; rfl
  rw [List.length_map]
  constructor
  · rintro ⟨h1, h2⟩; exact ⟨h1, fun i hi => by rw [hg i hi]; exact h2 i hi⟩
  · rintro ⟨h1, h2⟩; exact ⟨h1, fun i hi => by rw [← hg i hi]; exact h2 i hi⟩
theorem great_of {Ls : List Ln} {ls : List LnD} (h : Ls.map ofLn = ls) : (greatB Ls = true ↔ ¬ smallD ls) ∧ (greatB Ls = false ↔ smallD ls) := by
  subst h
  by_cases hs : smallL Ls
  · have := small_of.1 hs
    rw [great_f hs]; simp [this]
  · have : ¬ smallD (Ls.map ofLn) := fun q => hs (small_of.2 q)
    rw [great_t hs]; simp [this]
theorem small_okD {ls : List LnD} (h : smallD ls) : ls.length ≤ 60 ∧ ∀ d ∈ ls, okD d := by
  obtain ⟨h1, h2⟩ := h
  rw [List.length_map] at h1
  refine ⟨h1, fun d hd => ?_⟩
  obtain ⟨i, hi, rfl⟩ := List.mem_iff_getElem.1 hd
  have := h2 i (by simpa using hi)
  have he : (ls.map toLn).getD i L0 = toLn ls[i] := by simp [List.getD, hi]
  rw [he] at this
  obtain ⟨b1, b2, b3, b4, b5⟩ := this
  refine ⟨b2, b3, b1, fun p hp => ?_⟩
  obtain ⟨k, hk, rfl⟩ := List.mem_iff_getElem.1 hp
  have := b5 k hk
  simpa [toLn, List.getD, hk] using this
theorem small_sm : ∀ (k : Nat) (T : TD), smallT k T → T.sm ∧ T.deep ≤ k := by
  intro k
  induction k with
  | zero => intro T h; exact h.elim
  | succ k ih =>
    intro T h
    obtain ⟨n, ls, cs⟩ := T
    obtain ⟨h1, h2, h3, h4⟩ := h
    obtain ⟨g1, g2⟩ := small_okD h1
    simp only [TD.cs, TD.n, TD.ls] at *
    refine ⟨.mk (by omega) (by omega) g2 (by omega) (fun c hc => (ih c (h4 c hc)).1), ?_⟩
    have : ∀ cs : List TD, (∀ c ∈ cs, c.deep ≤ k) → deepL cs ≤ k := by
      intro cs
      induction cs with
      | nil => intro _; simp [deepL]
      | cons c r ih2 =>
        intro h
        have h1 := h c (by simp)
        have h2 := ih2 (fun d hd => h d (by simp [hd]))
        simp only [deepL]; omega
    have := this cs (fun c hc => (ih c (h4 c hc)).2)
    simp only [TD.deep]; omega
inductive TD.rw : TD → Prop
  | mk {n : Bs} {ls : List LnD} {cs : List TD} (h1 : n.length ≤ 4000000000000000000) (h2 : ls.length ≤ 9223372036854775807) (h3 : ∀ d ∈ ls, d.1.length ≤ 4000000000000000000 ∧ d.2.2.length ≤ 4000000000000000000 ∧ d.2.1.length ≤ 9223372036854775807 ∧ ∀ p ∈ d.2.1, p.1.length ≤ 4000000000000000000 ∧ p.2.length ≤ 4000000000000000000) (h4 : cs.length ≤ 9223372036854775807) (h5 : ∀ c ∈ cs, c.rw) : TD.rw (.mk n ls cs)
set_option maxHeartbeats 4000000 in
theorem Great11_spec : ∀ (k : Nat) (T : TD), T.rw → k ≤ 1000 → ∀ (x : PV) (st : St), IsT T x → call prog (.fn 316 []) [x, .int .i64 (k : Int)] st = some (.bool (greatT k T), st) := by
  intro k
  induction k with
  | zero =>
    intro T hrw hk x st hx
    refine call_of_W prog_316 ?_
    unfold F_posthornlaw11_Great; dsimp only
    generalize hQ1 : endQ st _ _ = Q0
    obtain ⟨u, hu1, hu2, hu3⟩ := strip_I hx
    obtain ⟨lv, cv, hu, -, -⟩ := hu2.agg
    rw [hu] at hu1
    simp (maxSteps := 1000000) (disch := omega) only [hu1, cells3, show ((0 : Nat) : Int) = 0 from rfl, qaaz, qabz, qacz, qaiz, qajz, qakz, qalz, qamz, qanz, evOp, qaoz, qapz, qarz, qatz, qavz,
 ↓reduceIte, Nat.reduceEqDiff, List.append_nil, qawz, qaxz, Option.map_some, qazz, qbaz, qbhz, qbqz, beq_false, decide_true, Bool.false_eq_true, Int.reduceLE, Bool.not_true]
    rw [← hQ1, qblz]
    exact retB rfl Kept.start (greatT_t (fun h => by simp [smallT] at h)).symm
  | succ k ih =>
    intro T hrw hk x st hx
    obtain ⟨n, ls, cs⟩ := T
    cases hrw with
    | mk r1 r2 r3 r4 r5 =>
    refine call_of_W prog_316 ?_
    unfold F_posthornlaw11_Great; dsimp only
    generalize hQ1 : endQ st _ _ = Q0
    obtain ⟨lv, cv, Ls, ys, a1, a2, a3, a4, a5, a6, a7, a8⟩ := strip_T hx
    have hcl := len_vs a6
    rw [a7] at hcl
    have hLl : Ls.length = ls.length := by rw [← a4]; simp
    have hraw : ∀ L ∈ Ls, L.raw := fun L hL => by
      have h := r3 (ofLn L) (by rw [← a4]; exact List.mem_map.2 ⟨L, hL, rfl⟩)
      have hg := a5 L hL
      exact ⟨hg.1, (vs_leaf hg.1).2, (vs_leaf hg.1).1, hg.2, h.1, h.2.1, h.2.2.1, h.2.2.2⟩
    have hG := fun S : St => Great10_spec (st := S) a3 hraw (by omega)
    obtain ⟨g1, g2⟩ := great_of a4
    have yes : ∀ (E : Env) (S : St), Kept st S → ¬ smallT (k + 1) (.mk n ls cs) → E 4 = .bool true → Q0 .ret E S := fun E S hk h h4 => by
      rw [← hQ1, qblz]; exact retB h4 hk (greatT_t h).symm
    have no : ∀ (E : Env) (S : St), Kept st S → smallT (k + 1) (.mk n ls cs) → E 4 = .bool false → Q0 .ret E S := fun E S hk h h4 => by
      rw [← hQ1, qblz]; exact retB h4 hk (greatT_f h).symm
    have e0 : ¬ ((k + 1 : Nat) : Int) ≤ 0 := by omega
    cases hgb : greatB Ls with
    | true =>
      rw [hgb] at hG
      simp (maxSteps := 1000000) (disch := omega) only [a1, cells3, e0, fa3_1, lcc, hG, qaaz, qabz, qacz, qaiz, qajz, qakz, qalz, qamz, qanz, evOp, qaoz, qapz, qaqz, qarz, qatz, qavz,
 ↓reduceIte, Nat.reduceEqDiff, List.append_nil, List.map_cons, List.map_nil, qawz, qaxz, Option.map_some, qazz, qbaz, qbhz, qbqz, beq_false, decide_false,
 Bool.false_eq_true, Bool.not_true, Bool.not_false]
      exact yes _ _ Kept.start (fun q => g1.1 hgb q.1) rfl
    | false =>
    rw [hgb] at hG
    have hsd := g2.1 hgb
    by_cases hc70 : 70 < cs.length
    · have e1 : (70 : Int) < (cs.length : Int) := by omega
      simp (maxSteps := 1000000) (disch := omega) only [a1, cells3, e0, fa3_1, fa3_2, lcc, hG, hcl, e1, qaaz, qabz, qacz, qaiz, qajz, qakz, qalz, qamz, qanz, evOp, qaoz, qapz, qaqz, qarz, qatz, qavz,
 ↓reduceIte, Nat.reduceEqDiff, List.append_nil, List.map_cons, List.map_nil, qawz, qaxz, Option.map_some, qazz, qbaz, qbhz, qbqz, qbrz, beq_false, decide_true, decide_false,
 Bool.false_eq_true, Bool.not_true, Bool.not_false]
      exact yes _ _ Kept.start (fun q => by have := q.2.1; simp only [TD.cs] at this; omega) rfl
    have e1 : ¬ (70 : Int) < (cs.length : Int) := by omega
    by_cases hn200 : 200 < n.length
    · have e2 : (200 : Int) < (n.length : Int) := by omega
      simp (maxSteps := 1000000) (disch := omega) only [a1, cells3, e0, fa3_0, fa3_1, fa3_2, lcc, hG, hcl, e1, len_s, e2, qaaz, qabz, qacz, qaiz, qajz, qakz, qalz, qamz, qanz, evOp, qaoz, qapz, qaqz, qarz, qatz, qavz,
 ↓reduceIte, Nat.reduceEqDiff, List.append_nil, List.map_cons, List.map_nil, qawz, qaxz, Option.map_some, qazz, qbaz, qbhz, qbqz, qbrz, beq_false, decide_true, decide_false,
 Bool.false_eq_true, Bool.not_false]
      exact yes _ _ Kept.start (fun q => by have := q.2.2.1; simp only [TD.n] at this; omega) rfl
    have e2 : ¬ (200 : Int) < (n.length : Int) := by omega
    simp (maxSteps := 1000000) (disch := omega) only [a1, cells3, e0, fa3_0, fa3_1, fa3_2, lcc, hG, hcl, e1, len_s, e2, qaaz, qabz, qacz, qadz, qaez, qajz, qakz, qalz, qamz, qanz, evOp, qaoz, qapz, qaqz, qarz, qatz, qavz,
 ↓reduceIte, Nat.reduceEqDiff, List.append_nil, List.map_cons, List.map_nil, qawz, qaxz, Option.map_some, qazz, qbhz, qbqz, qbrz, beq_false, decide_false,
 Bool.false_eq_true, Bool.not_false]
    obtain ⟨I, hI⟩ : ∃ I : Nat → Env → St → Prop, I = fun m E S => ∃ i : Nat, m = cs.length - i ∧ i ≤ cs.length ∧ Kept st S ∧ (∀ j, j < i → smallT k (cs.getD j T0)) ∧ E 1 = .int .i64 ((k + 1 : Nat) : Int) ∧ E 2 = .cp [.str n, lv, cv] ∧ E 5 = .int .i64 (i : Int) := ⟨_, rfl⟩
    refine W_loop I ?_ (n := cs.length) (by
      rw [hI]; exact ⟨0, rfl, by omega, Kept.start, fun j hj => by omega, rfl, rfl, rfl⟩)
    intro m E S hh
    rw [hI] at hh
    obtain ⟨i, rfl, hi, hk', hall, h1, h2, h5⟩ := hh
    by_cases hlt : i < cs.length
    · obtain ⟨la, ca, q1, q2, q3, -, -⟩ := iaddr_T a6 (by omega) (a8 i hlt)
      obtain ⟨c, hc⟩ : ∃ c, c = cs.getD i T0 := ⟨_, rfl⟩
      rw [← hc] at q2 q3
      have hcm : c ∈ cs := by rw [hc]; exact getD_mem hlt
      have hcall := fun S : St => ih c (r5 c hcm) (by omega) _ S q3
      by_cases hsc : smallT k c
      · rw [greatT_f hsc] at hcall
        simp (maxSteps := 1000000) (disch := omega) only [h1, h2, h5, fa3_2, lcc, hcl, hlt, q2, ldcp3, sub_n, Int.reduceToNat, Nat.add_sub_cancel, hcall, add_n, loopQ_normal, qaaz, qabz, qacz, qadz, qaez, qajz, qalz, evOp, qaoz, qapz, qaqz, qarz, qatz, qavz,
 ↓reduceIte, Nat.reduceEqDiff, List.map_cons, List.map_nil, Option.map_some, qazz, qbdz, qbhz, qbpz, decide_true, Int.ofNat_lt, Bool.false_eq_true, Int.reduceToNat]
        refine ⟨cs.length - (i + 1), by omega, ?_⟩
        rw [hI]
        refine ⟨i + 1, rfl, by omega, hk', fun j hj => ?_, h1, h2, rfl⟩
        by_cases hji : j = i
        · subst hji; rw [← hc]; exact hsc
        · exact hall j (by omega)
      · rw [greatT_t hsc] at hcall
        simp (maxSteps := 1000000) (disch := omega) only [h1, h2, h5, fa3_2, lcc, hcl, hlt, q2, ldcp3, sub_n, Int.reduceToNat, Nat.add_sub_cancel, hcall, qaaz, qabz, qacz, qadz, qaez, qaiz, qajz, qalz, evOp, qaoz, qapz, qaqz, qarz, qatz, qavz,
 ↓reduceIte, Nat.reduceEqDiff, List.map_cons, List.map_nil, Option.map_some, qazz, qbaz, qbez, qbhz, qbiz, qbpz, decide_true, Int.ofNat_lt, Int.reduceToNat]
        exact yes _ _ hk' (fun q => hsc (q.2.2.2 c hcm)) rfl
    · obtain rfl : i = cs.length := by omega
      simp (maxSteps := 1000000) (disch := omega) only [h2, h5, fa3_2, lcc, hcl, hlt, qaaz, qabz, qacz, qagz, qaiz, qajz, qalz, evOp, qaoz, qapz, qarz, qatz, qavz,
 ↓reduceIte, Nat.reduceEqDiff, Option.map_some, qazz, qbbz, qbfz, qbhz, qbjz, qbpz, decide_false,
 Int.ofNat_lt, Bool.false_eq_true]
      refine no _ _ hk' ⟨hsd, by simp only [TD.cs]; omega, by simp only [TD.n]; omega, fun c hc => ?_⟩ rfl
      obtain ⟨j, hj, rfl⟩ := List.mem_iff_getElem.1 hc
      have hj' : j < cs.length := hj
      have := hall j hj'
      have e : cs.getD j T0 = (TD.mk n ls cs).cs[j] := by simp [TD.cs, List.getD, hj']
      rw [e] at this; exact this

noncomputable def fewT (T : TD) : Bool := decide (IntKind.i64.wrap (T.cnt : Int) ≤ 80)
theorem few_spec {T : TD} {x : PV} (hsm : T.sm) (hd : T.deep ≤ 1000) (hx : IsT T x) : call prog (.fn 317 []) [x] st = some (.bool (fewT T), st) := by
  refine call_of_W prog_317 ?_
  unfold F_posthornlaw11_few; dsimp only
  generalize hQ1 : endQ st _ _ = Q0
  obtain ⟨u, hu1, hu2, hu3⟩ := strip_I hx
  obtain ⟨lv, cv, hu, -, -⟩ := hu2.agg
  rw [hu] at hu1 hu2
  have hcnt := fun S : St => CountW_spec T hsm hd _ S hu2
  simp (maxSteps := 1000000) (disch := omega) only [hu1, cells3, lcc3, hcnt, qaaz, qabz, qaiz, qajz, qalz, evOp, qaoz, qapz, qaqz, qarz, qatz, qavz,
 ↓reduceIte, Nat.reduceEqDiff, List.append_nil, List.map_cons, List.map_nil, qawz, Option.map_some, qazz, qbqz, qcjz, List.getElem?_cons_zero, List.getElem?_cons_succ]
  rw [← hQ1, qblz]
  exact retB rfl Kept.start rfl
end Go.Ab
/-
  The document's lines of a component, and how it writes it.
-/
namespace Go.Ab
set_option maxRecDepth 20000
variable {st s : St} {e : Env}

end Go.Ab
/-
  What must come of fixed calls on trees, reckoned.
-/
namespace Go.Ab
end Go.Ab
/-
  Trees that come as arguments; the law TreeWrites.
-/
namespace Go.Ab
set_option maxRecDepth 20000
variable {st s : St} {e : Env}

def treeT (P : Program) (t el ep : TypeId) : Bool := match fieldsT P t with
  | some fs => match fs.toList with
    | [f0, f1, f2] => isStrT P f0.type && (sliceElem P f1.type == some el) && (sliceElem P f2.type == some t) && lineT P el ep && (P.cellsOf el == 3) && (P.cellsOf t == 3)
    | _ => false
  | none => false
theorem HasTy.tree {P : Program} {t el ep : TypeId} (hs0 : treeT P t el ep = true) : ∀ (N : Nat) (q : PV), SizeOf.sizeOf q ≤ N → HasTy P t q → ∃ T : TD, IsT T q ∧ T.rw := by
  unfold treeT fieldsT at hs0
  obtain ⟨fs, ht⟩ : ∃ fs, P.underlying t = some (.struct fs) := by
    cases ht : P.underlying t with
    | none => simp [ht] at hs0
    | some d => cases d <;> first | exact ⟨_, rfl⟩ | (simp [ht] at hs0; done)
  simp only [ht] at hs0
  obtain ⟨fl⟩ := fs
  match fl, hs0, ht with
  | [f0, f1, f2], hs0, ht =>
    simp only [Bool.and_eq_true, beq_iff_eq] at hs0
    obtain ⟨⟨⟨⟨⟨s0, s1⟩, s2⟩, s3⟩, s4⟩, s5⟩ := hs0
    have hu : ∀ {f e : TypeId}, sliceElem P f = some e → P.underlying f = some (.slice e) := fun {f e} h => by
      unfold sliceElem at h
      split at h
      · rename_i e' he; rw [he]; cases h; rfl
      · cases h
    have hu1 := hu s1
    have hu2 := hu s2
    intro N
    induction N with
    | zero => intro q hq h; cases q <;> simp at hq
    | succ N ih =>
      intro q hq h
      cases h with
      | agg xs ht' hl hx =>
        rw [ht] at ht'; cases ht'
        match xs, hl, hx, hq with
        | [x0, x1, x2], _, hx, hq =>
          obtain ⟨a, rfl, ha⟩ := HasTy.strR (hx 0 f0 x0 rfl rfl) (isStrT_eq s0)
          obtain ⟨Ls, l1, l2, l3⟩ := HasTy.lines (hx 1 f1 x1 rfl rfl) hu1 s4 s3
          have h2 := hx 2 f2 x2 rfl rfl
          have hR : reachBytes ≤ 4000000000000000000 := by decide
          have hLg : ∀ L ∈ Ls, L.good := fun L hL => ⟨(l2 L hL).vs, (l2 L hL).tk⟩
          have hLr : ∀ d ∈ Ls.map ofLn, d.1.length ≤ 4000000000000000000 ∧ d.2.2.length ≤ 4000000000000000000 ∧ d.2.1.length ≤ 9223372036854775807 ∧ ∀ p ∈ d.2.1, p.1.length ≤ 4000000000000000000 ∧ p.2.length ≤ 4000000000000000000 := fun d hd => by
            obtain ⟨L, hL, rfl⟩ := List.mem_map.1 hd
            exact ⟨(l2 L hL).l1, (l2 L hL).l2, (l2 L hL).l3, (l2 L hL).l4⟩
          have hflat : flat [.str a, x1, x2] = [.str a, x1, x2] := by
            have e1 : x1.cells = [x1] := by rcases vs_cases l1 with ⟨rfl, _⟩ | ⟨t, rfl⟩ <;> rfl
            have e2 : x2.cells = [x2] := by
              cases h2 <;> first | rfl | (rename_i hh; rw [hu2] at hh; cases hh) | (rename_i hh _; rw [hu2] at hh; cases hh) | (rename_i hh _ _; rw [hu2] at hh; cases hh)
            simp only [flat, List.flatMap_cons, List.flatMap_nil, e1, e2]; rfl
          rw [hflat] at hq ⊢
          have comps : ∃ (cs : List TD) (ys : List PV), x2.vs 3 = some ys ∧ Cmps cs ys ∧ cs.length ≤ 9223372036854775807 ∧ ∀ c ∈ cs, c.rw := by
            cases h2 with
            | nils ht' => exact ⟨[], [], rfl, ⟨rfl, fun i hi => by simp at hi⟩, by simp, fun c hc => by simp at hc⟩
            | bys _ ht' he' => rw [hu2] at ht'; cases ht'; rw [ht] at he'; cases he'
            | sl ys ht' he' hl' hx' =>
              rw [hu2] at ht'; cases ht'
              have hsz : ∀ y ∈ ys, SizeOf.sizeOf y ≤ N := fun y hy => by
                have := List.sizeOf_lt_of_mem hy
                simp at hq; omega
              have key : ∀ ys : List PV, (∀ y ∈ ys, SizeOf.sizeOf y ≤ N) → (∀ y ∈ ys, HasTy P t y) → ∃ cs : List TD, Cmps cs ys ∧ ∀ c ∈ cs, c.rw := by
                intro ys
                induction ys with
                | nil => intro _ _; exact ⟨[], ⟨rfl, fun i hi => by simp at hi⟩, fun c hc => by simp at hc⟩
                | cons y r ih2 =>
                  intro h1 h2
                  obtain ⟨T, t1, t2⟩ := ih y (h1 y (by simp)) (h2 y (by simp))
                  obtain ⟨cs, c1, c2⟩ := ih2 (fun z hz => h1 z (by simp [hz])) (fun z hz => h2 z (by simp [hz]))
                  refine ⟨T :: cs, ⟨by simp [c1.1], fun i hi => ?_⟩, fun c hc => ?_⟩
                  · cases i with
                    | zero => exact t1
                    | succ i => simpa [List.getD] using c1.2 i (by simpa using hi)
                  · rcases List.mem_cons.1 hc with rfl | hc
                    · exact t2
                    · exact c2 c hc
              obtain ⟨cs, c1, c2⟩ := key ys hsz hx'
              refine ⟨cs, ys, by simp [PV.vs, s5], c1, ?_, c2⟩
              have h3 : maxLen ≤ 9223372036854775807 := by decide
              have := c1.1; omega
            | bool _ ht' => rw [hu2] at ht'; cases ht'
            | int _ ht' => rw [hu2] at ht'; cases ht'
            | u8 _ ht' => rw [hu2] at ht'; cases ht'
            | str _ ht' => rw [hu2] at ht'; cases ht'
            | agg _ ht' => rw [hu2] at ht'; cases ht'
          obtain ⟨cs, ys, y1, y2, y3, y4⟩ := comps
          exact ⟨.mk a (Ls.map ofLn) cs, .mk l1 rfl hLg y1 y2.1 y2.2, .mk (Nat.le_trans ha hR) (by simpa using l3) hLr y3 y4⟩
      | bool _ ht' => rw [ht] at ht'; cases ht'
      | int _ ht' => rw [ht] at ht'; cases ht'
      | u8 _ ht' => rw [ht] at ht'; cases ht'
      | str _ ht' => rw [ht] at ht'; cases ht'
      | nils ht' => rw [ht] at ht'; cases ht'
      | bys _ ht' => rw [ht] at ht'; cases ht'
      | sl _ ht' => rw [ht] at ht'; cases ht'

end Go.Ab
/-
  The law TreeBack.
-/
namespace Go.Ab
set_option maxRecDepth 20000
variable {st s : St} {e : Env}

end Go.Ab
/-
  tree.Find walked; a component more around one, plain.
-/
namespace Go.Ab
set_option maxRecDepth 20000
variable {st s : St} {e : Env}

def findD (cs : List TD) (nm : Bs) : List TD := cs.filter fun c => decide (c.n = nm)
set_option maxHeartbeats 4000000 in
theorem Find_spec {T : TD} {x : PV} {nm : Bs} (hsm : T.sm) (hx : IsT T x) : ∃ zs : List PV, call prog (.fn 333 []) [x, .str nm] st = some (newSl st 3 zs, newS st zs.isEmpty) ∧ Cmps (findD T.cs nm) zs := by
  obtain ⟨n, ls, cs⟩ := T
  cases hsm with
  | mk s1 s2 s3 s4 s5 =>
  have hcore : ∃ r, call prog (.fn 333 []) [x, .str nm] st = some r ∧ ∃ zs : List PV, r = (newSl st 3 zs, newS st zs.isEmpty) ∧ Cmps (findD cs nm) zs := by
    refine call_ex prog_333 ?_
    unfold F_tree_Find; dsimp only
    generalize hQ1 : endX st _ _ = Q0
    obtain ⟨lv, cv, Ls, ys, a1, a2, a3, a4, a5, a6, a7, a8⟩ := strip_T hx
    have hcl := len_vs a6
    rw [a7] at hcl
    simp (maxSteps := 1000000) (disch := omega) only [a1, cells3, fa3_2, lcc, hcl, qaaz, qabz, qadz, qajz, qalz, evOp, qaoz, qapz, qarz, qatz, qavz,
 ↓reduceIte, Nat.reduceEqDiff, qawz, Option.map_some, qazz]
    obtain ⟨I, hI⟩ : ∃ I : Nat → Env → St → Prop, I = fun m E S => ∃ (i : Nat) (v : PV) (zs : List PV), m = cs.length - i ∧ i ≤ cs.length ∧ Kept st S ∧ Own st S 3 v zs ∧ (zs = [] → v = .nils) ∧ Cmps (findD (cs.take i) nm) zs ∧ zs.length ≤ i ∧ E 1 = .str nm ∧ E 5 = v ∧ E 9 = cv ∧ E 10 = .int .i64 (cs.length : Int) ∧ E 11 = .int .i64 (i : Int) := ⟨_, rfl⟩
    refine W_loop I ?_ (n := cs.length) (by
      rw [hI]
      exact ⟨0, .nils, [], rfl, by omega, Kept.start, .inl ⟨rfl, rfl⟩, fun _ => rfl, ⟨by simp [findD], fun i hi => by simp [findD] at hi⟩, by simp, rfl, rfl, rfl, rfl, rfl⟩)
    intro m E S hh
    rw [hI] at hh
    obtain ⟨i, v, zs, rfl, hi, hk, ho, hn, hcm, hml, h1, h5, h9, h10, h11⟩ := hh
    by_cases hlt : i < cs.length
    · obtain ⟨la, ca, q1, q2, q3, f1, f2⟩ := iaddr_T a6 (by omega) (a8 i hlt)
      have hsucc : findD (cs.take (i + 1)) nm = findD (cs.take i) nm ++ (if (cs.getD i T0).n = nm then [cs.getD i T0] else []) := by
        rw [take_snoc (d := T0) hlt]
        unfold findD
        rw [List.filter_append]
        congr 1
        by_cases h : (cs.getD i T0).n = nm
        · rw [if_pos h]; simp only [List.filter_cons, h, decide_true, if_true, List.filter_nil]
        · rw [if_neg h]; simp only [List.filter_cons, h, decide_false, List.filter_nil]; simp
      obtain ⟨c, hc⟩ : ∃ c, c = cs.getD i T0 := ⟨_, rfl⟩
      rw [← hc] at q2 q3 hsucc
      obtain ⟨b7, hb7⟩ : ∃ b7, b7 = S.boxes.length := ⟨_, rfl⟩
      have hle7 : st.boxes.length ≤ b7 := by have := hk.bl; omega
      have hA7 := At.last (s := S) (z := [.str [], .nils, .nils]) (T := S.toks) (Lp := S.loops) (lo := S.low)
      rw [← hb7] at hA7
      obtain ⟨S1, u1, w1⟩ := hA7.st3 (v0 := .str c.n) (v1 := la) (v2 := ca) rfl f1.1 f2.1 rfl (f1.2 _) (f2.2 _)
      have m1 := w1.kp _ hk.alloc' hle7
      have mo := ho.tks (s' := S1) w1.tk
      have hln := w1.at_.load (k := 0) (v := .str c.n) (r := [la, ca]) rfl
      obtain ⟨u, p1, p2, p3⟩ := strip_I q3
      have hlit : ∀ z, litFill 3 (List.replicate 1 z) [(0, .agg [.str c.n, la, ca])] = some [u] := fun z => lit1 p1 p3
      by_cases hnm : c.n = nm
      · rw [if_pos hnm] at hsucc
        obtain ⟨v', s', q1', q2', q3', q4'⟩ := m1.appV (u := u) (w := .undef) mo (by simp [room]; omega)
        simp (maxSteps := 1000000) (disch := omega) only [h1, h5, h9, h10, h11, hlt, q2, ldcp3, allocPV, ← hb7, u1, faP, Nat.zero_add, hln, eq_true hnm, w1.at_.ld3, hlit, freshT_eq, q1', add_n, loopQ_normal, qaaz, qabz, qacz, qadz, qaez, qajz, qalz, evOp, qaoz, qapz, qarz, qatz, qauz, qavz,
 ↓reduceIte, Nat.reduceEqDiff, List.map_cons, List.map_nil, Option.map_some, qazz, qbdz, qbhz, qbpz, qcbz, decide_true, Int.ofNat_lt, Bool.false_eq_true, Int.reduceToNat]
        refine ⟨cs.length - (i + 1), by omega, ?_⟩
        rw [hI]
        refine ⟨i + 1, v', zs ++ [u], rfl, by omega, q2', q3', fun q => by simp at q, ?_, by simp; omega, h1, rfl, h9, h10, rfl⟩
        rw [hsucc]; exact hcm.app p2
      · rw [if_neg hnm, List.append_nil] at hsucc
        simp (maxSteps := 1000000) (disch := omega) only [h1, h9, h10, h11, hlt, q2, ldcp3, allocPV, ← hb7, u1, faP, Nat.zero_add, hln, hnm, add_n, loopQ_normal, qaaz, qabz, qacz, qadz, qaez, qajz, qalz, evOp, qaoz, qapz, qarz, qatz, qauz, qavz,
 ↓reduceIte, Nat.reduceEqDiff, Option.map_some, qazz, qbdz, qbhz, qbpz, qcbz, decide_true, decide_false,
 Int.ofNat_lt, Bool.false_eq_true, Int.reduceToNat]
        refine ⟨cs.length - (i + 1), by omega, ?_⟩
        rw [hI]
        exact ⟨i + 1, v, zs, rfl, by omega, m1, mo, hn, by rw [hsucc]; exact hcm, by omega, h1, h5, h9, h10, rfl⟩
    · obtain rfl : i = cs.length := by omega
      rw [List.take_length] at hcm
      simp (maxSteps := 1000000) (disch := omega) only [h5, h10, h11, hlt, qaaz, qabz, qacz, qagz, qaiz, qajz, qalz, evOp, qaoz, qarz, qatz, qavz,
 ↓reduceIte, Nat.reduceEqDiff, Option.map_some, qazz, qbbz, qbfz, qbhz, qbjz, qbpz, decide_false,
 Int.ofNat_lt, Bool.false_eq_true]
      rw [← hQ1]
      refine ⟨.inr rfl, v, ?_, zs, hk.leaveOwn1 ho hn, hcm⟩
      rcases ho with ⟨rfl, _⟩ | ⟨i, rfl, _⟩ <;> simp [resOf, rvAll, rv1, qavz, notTup, packRes]
  obtain ⟨r, h1, zs, h2, h3⟩ := hcore
  exact ⟨zs, by rw [h1, h2], h3⟩

end Go.Ab
/-
  The document's All and Find of a component walked; the law TreeGets.
-/
namespace Go.Ab
set_option maxRecDepth 20000
variable {st s : St} {e : Env}

theorem allD_succ {ls : List LnD} {nm : Bs} {i : Nat} (h : i < ls.length) : allD (ls.take (i + 1)) nm = allD (ls.take i) nm ++ (if (ls.getD i ([], [], [])).1 = nm then [ls.getD i ([], [], [])] else []) := by
  rw [take_snoc (d := ([], [], [])) h]
  unfold allD
  rw [List.filter_append]
  congr 1
  by_cases h : (ls.getD i ([], [], [])).1 = nm
  · rw [if_pos h]; simp only [List.filter_cons, h, decide_true, if_true, List.filter_nil]
  · rw [if_neg h]; simp only [List.filter_cons, h, decide_false, List.filter_nil]; simp
theorem findD_succ {cs : List TD} {nm : Bs} {i : Nat} (h : i < cs.length) : findD (cs.take (i + 1)) nm = findD (cs.take i) nm ++ (if (cs.getD i T0).n = nm then [cs.getD i T0] else []) := by
  rw [take_snoc (d := T0) h]
  unfold findD
  rw [List.filter_append]
  congr 1
  by_cases h : (cs.getD i T0).n = nm
  · rw [if_pos h]; simp only [List.filter_cons, h, decide_true, if_true, List.filter_nil]
  · rw [if_neg h]; simp only [List.filter_cons, h, decide_false, List.filter_nil]; simp

set_option maxHeartbeats 4000000 in
theorem rAll_spec {T : TD} {x : PV} {nm : Bs} (hsm : T.sm) (hx : IsT T x) : ∃ Ms : List Ln, call prog (.fn 331 []) [x, .str nm] st = some (newSl st 3 (Ms.map lV), newS st (Ms.map lV).isEmpty) ∧ Ms.map ofLn = allD T.ls nm ∧ okMs Ms := by
  obtain ⟨n, ls, cs⟩ := T
  cases hsm with
  | mk s1 s2 s3 s4 s5 =>
  have hcore : ∃ r, call prog (.fn 331 []) [x, .str nm] st = some r ∧ ∃ Ms : List Ln, r = (newSl st 3 (Ms.map lV), newS st (Ms.map lV).isEmpty) ∧ Ms.map ofLn = allD ls nm ∧ okMs Ms := by
    refine call_ex prog_331 ?_
    unfold F_posthornref11_All; dsimp only
    generalize hQ1 : endX st _ _ = Q0
    obtain ⟨lv, cv, Ls, ys, a1, a2, a3, a4, a5, a6, a7, a8⟩ := strip_T hx
    have hll := len_vs a3
    have hLl : Ls.length = ls.length := by rw [← a4]; simp
    rw [List.length_map, hLl] at hll
    simp (maxSteps := 1000000) (disch := omega) only [a1, cells3, qaaz, qabz, qadz, qajz, qalz, evOp, qaoz, qapz, qarz, qatz, qawz, Option.map_some, qazz]
    obtain ⟨I, hI⟩ : ∃ I : Nat → Env → St → Prop, I = fun m E S => ∃ (i : Nat) (v : PV) (Ms : List Ln), m = ls.length - i ∧ i ≤ ls.length ∧ Kept st S ∧ Own st S 3 v (Ms.map lV) ∧ (Ms.map lV = [] → v = .nils) ∧ Ms.map ofLn = allD (ls.take i) nm ∧ okMs Ms ∧ Ms.length ≤ i ∧ E 1 = .str nm ∧ E 2 = .cp [.str n, lv, cv] ∧ E 5 = v ∧ E 6 = .int .i64 (i : Int) := ⟨_, rfl⟩
    refine W_loop I ?_ (n := ls.length) (by
      rw [hI]
      exact ⟨0, .nils, [], rfl, by omega, Kept.start, .inl ⟨rfl, rfl⟩, fun _ => rfl, by simp [allD], fun M hM => (by simp at hM), by simp, rfl, rfl, rfl, rfl⟩)
    intro m E S hh
    rw [hI] at hh
    obtain ⟨i, v, Ms, rfl, hi, hk, ho, hn, hmo, hmg, hml, h1, h2, h5, h6⟩ := hh
    by_cases hlt : i < ls.length
    · obtain ⟨L, hL⟩ : ∃ L, L = Ls.getD i L0 := ⟨_, rfl⟩
      have hltL : i < Ls.length := by omega
      have hg := a5 L (by rw [hL]; exact getD_mem hltL)
      have hia := iaddr_L (k := .i64) (c := (i : Int)) a3 (by omega) (by rw [Int.toNat_natCast]; exact hltL)
      rw [Int.toNat_natCast, ← hL] at hia
      have hgd : ls.getD i ([], [], []) = ofLn L := by rw [← a4, getD_map hltL, ← hL]
      have hsucc := allD_succ (nm := nm) hlt
      rw [hgd, show (ofLn L).1 = L.n from rfl] at hsucc
      obtain ⟨pv, p1, p2⟩ := strip_L hg
      have hlit : ∀ z, litFill 3 (List.replicate 1 z) [(0, .agg [.str L.n, L.pv, .str L.v])] = some [lV ⟨L.n, pv, L.ps, L.v⟩] := fun z => lit1 p1 rfl
      by_cases hnm : L.n = nm
      · rw [if_pos hnm] at hsucc
        obtain ⟨v', s', q1, q2, q3, q4⟩ := hk.appV (u := lV ⟨L.n, pv, L.ps, L.v⟩) (w := .undef) ho (by simp [room]; omega)
        simp (maxSteps := 1000000) (disch := omega) only [h1, h2, h5, h6, fa3_1, lcc, hll, hlt, hia, fa3_0, ldcp, ldcp3, eq_true hnm, hlit, freshT_eq, q1, add_n, loopQ_normal, qaaz, qabz, qacz, qadz, qaez, qajz, qalz, evOp, qaoz, qapz, qarz, qatz, qavz,
 ↓reduceIte, Nat.reduceEqDiff, List.map_cons, List.map_nil, Option.map_some, qazz, qbdz, qbhz, qbpz, qcbz, decide_true, Int.ofNat_lt, Bool.false_eq_true, Int.reduceToNat]
        refine ⟨ls.length - (i + 1), by omega, ?_⟩
        rw [hI]
        refine ⟨i + 1, v', Ms ++ [⟨L.n, pv, L.ps, L.v⟩], rfl, by omega, q2, by simpa using q3, fun q => by simp at q, ?_, ?_, by simp; omega, h1, h2, rfl, rfl⟩
        · rw [List.map_append, hmo, hsucc]; rfl
        · intro M hM
          rcases List.mem_append.1 hM with hM | hM
          · exact hmg M hM
          · simp only [List.mem_singleton] at hM; subst hM; exact p2
      · rw [if_neg hnm, List.append_nil] at hsucc
        simp (maxSteps := 1000000) (disch := omega) only [h1, h2, h6, fa3_1, lcc, hll, hlt, hia, fa3_0, ldcp, hnm, add_n, loopQ_normal, qaaz, qabz, qacz, qadz, qaez, qajz, qalz, evOp, qaoz, qapz, qarz, qatz, qavz,
 ↓reduceIte, Nat.reduceEqDiff, Option.map_some, qazz, qbdz, qbhz, qbpz, qcbz, decide_true, decide_false,
 Int.ofNat_lt, Bool.false_eq_true, Int.reduceToNat]
        refine ⟨ls.length - (i + 1), by omega, ?_⟩
        rw [hI]
        exact ⟨i + 1, v, Ms, rfl, by omega, hk, ho, hn, by rw [hmo, hsucc], hmg, by omega, h1, h2, h5, rfl⟩
    · obtain rfl : i = ls.length := by omega
      rw [List.take_length] at hmo
      simp (maxSteps := 1000000) (disch := omega) only [h2, h5, h6, fa3_1, lcc, hll, hlt, qaaz, qabz, qacz, qagz, qaiz, qajz, qalz, evOp, qaoz, qarz, qatz, qavz,
 ↓reduceIte, Nat.reduceEqDiff, Option.map_some, qazz, qbbz, qbfz, qbhz, qbjz, qbpz, decide_false,
 Int.ofNat_lt, Bool.false_eq_true]
      rw [← hQ1]
      refine ⟨.inr rfl, v, ?_, Ms, hk.leaveOwn1 ho hn, hmo, hmg⟩
      rcases ho with ⟨rfl, _⟩ | ⟨i, rfl, _⟩ <;> simp [resOf, rvAll, rv1, qavz, notTup, packRes]
  obtain ⟨r, h1, Ms, h2, h3, h4⟩ := hcore
  exact ⟨Ms, by rw [h1, h2], h3, h4⟩

set_option maxHeartbeats 4000000 in
theorem rFind_spec {T : TD} {x : PV} {nm : Bs} (hsm : T.sm) (hx : IsT T x) : ∃ zs : List PV, call prog (.fn 334 []) [x, .str nm] st = some (newSl st 3 zs, newS st zs.isEmpty) ∧ Cmps (findD T.cs nm) zs := by
  obtain ⟨n, ls, cs⟩ := T
  cases hsm with
  | mk s1 s2 s3 s4 s5 =>
  have hcore : ∃ r, call prog (.fn 334 []) [x, .str nm] st = some r ∧ ∃ zs : List PV, r = (newSl st 3 zs, newS st zs.isEmpty) ∧ Cmps (findD cs nm) zs := by
    refine call_ex prog_334 ?_
    unfold F_posthornref11_Find; dsimp only
    generalize hQ1 : endX st _ _ = Q0
    obtain ⟨lv, cv, Ls, ys, a1, a2, a3, a4, a5, a6, a7, a8⟩ := strip_T hx
    have hcl := len_vs a6
    rw [a7] at hcl
    simp (maxSteps := 1000000) (disch := omega) only [a1, cells3, qaaz, qabz, qadz, qajz, qalz, evOp, qaoz, qapz, qarz, qatz, qawz, Option.map_some, qazz]
    obtain ⟨I, hI⟩ : ∃ I : Nat → Env → St → Prop, I = fun m E S => ∃ (i : Nat) (v : PV) (zs : List PV), m = cs.length - i ∧ i ≤ cs.length ∧ Kept st S ∧ Own st S 3 v zs ∧ (zs = [] → v = .nils) ∧ Cmps (findD (cs.take i) nm) zs ∧ zs.length ≤ i ∧ E 1 = .str nm ∧ E 2 = .cp [.str n, lv, cv] ∧ E 5 = v ∧ E 6 = .int .i64 (i : Int) := ⟨_, rfl⟩
    refine W_loop I ?_ (n := cs.length) (by
      rw [hI]
      exact ⟨0, .nils, [], rfl, by omega, Kept.start, .inl ⟨rfl, rfl⟩, fun _ => rfl, ⟨by simp [findD], fun i hi => by simp [findD] at hi⟩, by simp, rfl, rfl, rfl, rfl⟩)
    intro m E S hh
    rw [hI] at hh
    obtain ⟨i, v, zs, rfl, hi, hk, ho, hn, hcm, hml, h1, h2, h5, h6⟩ := hh
    by_cases hlt : i < cs.length
    · obtain ⟨la, ca, q1, q2, q3, f1, f2⟩ := iaddr_T a6 (by omega) (a8 i hlt)
      have hsucc := findD_succ (nm := nm) hlt
      obtain ⟨c, hc⟩ : ∃ c, c = cs.getD i T0 := ⟨_, rfl⟩
      rw [← hc] at q2 q3 hsucc
      obtain ⟨u, p1, p2, p3⟩ := strip_I q3
      have hlit : ∀ z, litFill 3 (List.replicate 1 z) [(0, .agg [.str c.n, la, ca])] = some [u] := fun z => lit1 p1 p3
      by_cases hnm : c.n = nm
      · rw [if_pos hnm] at hsucc
        obtain ⟨v', s', q1', q2', q3', q4'⟩ := hk.appV (u := u) (w := .undef) ho (by simp [room]; omega)
        simp (maxSteps := 1000000) (disch := omega) only [h1, h2, h5, h6, fa3_2, lcc, hcl, hlt, q2, fa3_0, ldcp, ldcp3, eq_true hnm, hlit, freshT_eq, q1', add_n, loopQ_normal, qaaz, qabz, qacz, qadz, qaez, qajz, qalz, evOp, qaoz, qapz, qarz, qatz, qavz,
 ↓reduceIte, Nat.reduceEqDiff, List.map_cons, List.map_nil, Option.map_some, qazz, qbdz, qbhz, qbpz, qcbz, decide_true, Int.ofNat_lt, Bool.false_eq_true, Int.reduceToNat]
        refine ⟨cs.length - (i + 1), by omega, ?_⟩
        rw [hI]
        refine ⟨i + 1, v', zs ++ [u], rfl, by omega, q2', q3', fun q => by simp at q, ?_, by simp; omega, h1, h2, rfl, rfl⟩
        rw [hsucc]; exact hcm.app p2
      · rw [if_neg hnm, List.append_nil] at hsucc
        simp (maxSteps := 1000000) (disch := omega) only [h1, h2, h6, fa3_2, lcc, hcl, hlt, q2, fa3_0, ldcp, hnm, add_n, loopQ_normal, qaaz, qabz, qacz, qadz, qaez, qajz, qalz, evOp, qaoz, qapz, qarz, qatz, qavz,
 ↓reduceIte, Nat.reduceEqDiff, Option.map_some, qazz, qbdz, qbhz, qbpz, qcbz, decide_true, decide_false,
 Int.ofNat_lt, Bool.false_eq_true, Int.reduceToNat]
        refine ⟨cs.length - (i + 1), by omega, ?_⟩
        rw [hI]
        exact ⟨i + 1, v, zs, rfl, by omega, hk, ho, hn, by rw [hsucc]; exact hcm, by omega, h1, h2, h5, rfl⟩
    · obtain rfl : i = cs.length := by omega
      rw [List.take_length] at hcm
      simp (maxSteps := 1000000) (disch := omega) only [h2, h5, h6, fa3_2, lcc, hcl, hlt, qaaz, qabz, qacz, qagz, qaiz, qajz, qalz, evOp, qaoz, qarz, qatz, qavz,
 ↓reduceIte, Nat.reduceEqDiff, Option.map_some, qazz, qbbz, qbfz, qbhz, qbjz, qbpz, decide_false,
 Int.ofNat_lt, Bool.false_eq_true]
      rw [← hQ1]
      refine ⟨.inr rfl, v, ?_, zs, hk.leaveOwn1 ho hn, hcm⟩
      rcases ho with ⟨rfl, _⟩ | ⟨i, rfl, _⟩ <;> simp [resOf, rvAll, rv1, qavz, notTup, packRes]
  obtain ⟨r, h1, zs, h2, h3⟩ := hcore
  exact ⟨zs, by rw [h1, h2], h3⟩

theorem mem_allD {T : TD} {Ms : List Ln} {nm : Bs} (hsm : T.sm) (h : Ms.map ofLn = allD T.ls nm) : ∀ L ∈ Ms, L.ps.length ≤ 1000000 := by
  intro L hL
  obtain ⟨n, ls, cs⟩ := T
  cases hsm with
  | mk s1 s2 s3 s4 s5 =>
  have hm : ofLn L ∈ allD ls nm := by
    show ofLn L ∈ allD (TD.mk n ls cs).ls nm
    rw [← h]; exact List.mem_map.2 ⟨L, hL, rfl⟩
  have := (s3 _ ((List.mem_filter.1 hm).1)).2.2.1
  simp only [ofLn] at this
  omega
theorem allD_len {T : TD} {nm : Bs} (hsm : T.sm) : (allD T.ls nm).length ≤ 100000 := by
  cases hsm with
  | mk s1 s2 s3 s4 s5 => exact Nat.le_trans (List.length_filter_le _ _) s2

set_option maxHeartbeats 8000000 in
theorem law_TreeGets {x : PV} {T : TD} {nm : Bs} (hx : IsT T x) (hr : T.rw) (hnm : nm.length ≤ 9223372036854775807) : ∃ s', call prog (.fn 336 []) [x, .str nm] ⟨[], [], [], 0⟩ = some (.bool true, s') := by
  refine law_of_W prog_336 rfl ?_
  unfold F_posthornlaw11_TreeGets; dsimp only
  have halv := fun S : St => alive11_spec (st := S)
  obtain ⟨st, hst⟩ : ∃ st : St, st = ⟨[], [], [], 0⟩ := ⟨_, rfl⟩
  obtain ⟨u, hu1, hu2, hu3⟩ := strip_I hx
  obtain ⟨lv, cv, hu, f1, f2⟩ := hu2.agg
  rw [hu] at hu1 hu2
  have hG := fun S : St => Great11_spec 12 T hr (by omega) _ S hu2
  have hG' : ∀ S : St, call prog (.fn 316 []) [.agg [.str T.n, lv, cv], .int .i64 12] S = some (.bool (greatT 12 T), S) := hG
  refine W_cut (fun E S => Kept st S ∧ E 1 = .str nm ∧ E 2 = .cp [.str T.n, lv, cv]) ?_ ?_
  · simp (maxSteps := 1000000) (disch := omega) only [hu1, cells3, List.length_nil, qabz, qajz, qalz, evOp, qaoz, qapz, qarz, qatz, qavz,
 ↓reduceIte, Nat.reduceEqDiff, qawz, qaxz, Option.map_some, true_and, and_true]
    rw [hst]; exact Kept.start
  rintro e S ⟨hk, h1, h2⟩
  by_cases hs : smallT 12 T
  · rw [greatT_f hs] at hG'
    obtain ⟨hsm, hd⟩ := small_sm 12 T hs
    have hf := fun S : St => few_spec (st := S) hsm (by omega) hu2
    cases hfew : fewT T with
    | false =>
      rw [hfew] at hf
      simp (maxSteps := 1000000) (disch := omega) only [h2, lcc3, hG', hf, halv, qaaz, qabz, qacz, qaiz, qajz, qakz, qalz, qamz, qanz, evOp, qaoz, qapz, qaqz, qarz, qatz, qavz,
 ↓reduceIte, Nat.reduceEqDiff, List.map_cons, List.map_nil, Option.map_some, qazz, qbaz, qbhz, qcfz, beq_false, Bool.false_eq_true, and_true, reduceCtorEq, or_true, Bool.not_true, Bool.not_false]
    | true =>
      rw [hfew] at hf
      by_cases h200 : 200 < nm.length
      · have e2 : (200 : Int) < (nm.length : Int) := by omega
        simp (maxSteps := 1000000) (disch := omega) only [h1, h2, lcc3, hG', hf, halv, len_s, e2, qaaz, qabz, qacz, qaiz, qajz, qakz, qalz, qamz, qanz, evOp, qaoz, qapz, qaqz, qarz, qatz, qavz,
 ↓reduceIte, Nat.reduceEqDiff, List.map_cons, List.map_nil, Option.map_some, qazz, qbaz, qbhz, qbrz, qcfz, beq_false, decide_true, Bool.false_eq_true, and_true, reduceCtorEq, or_true, Bool.not_true, Bool.not_false]
      have e2 : ¬ (200 : Int) < (nm.length : Int) := by omega
      refine W_cut (fun E S => Kept st S ∧ E 1 = .str nm ∧ E 2 = .cp [.str T.n, lv, cv]) ?_ ?_
      · simp (maxSteps := 1000000) (disch := omega) only [h1, h2, lcc3, hG', hf, len_s, e2, qaaz, qabz, qacz, qaez, qajz, qakz, qalz, qamz, qanz, evOp, qaoz, qapz, qaqz, qarz, qatz, qavz,
 ↓reduceIte, Nat.reduceEqDiff, List.map_cons, List.map_nil, Option.map_some, qazz, qbhz, qbrz, qcfz, beq_false, decide_false,
 Bool.false_eq_true, true_and, and_true, Bool.not_true, Bool.not_false]
        exact hk
      clear hk h1 h2 hG' hf hG
      rintro e S ⟨hk, h1, h2⟩
      obtain ⟨b5, hb5⟩ : ∃ b5, b5 = S.boxes.length := ⟨_, rfl⟩
      obtain ⟨L, g1, g2, g3⟩ := Get_spec11 (st := S) (nm := nm) hsm hu2
      obtain ⟨N, hN⟩ : ∃ N, N = (allD T.ls nm).length := ⟨_, rfl⟩
      have hNl := allD_len (nm := nm) hsm
      rw [← hN] at g1 hNl
      refine W_cut (fun E S => Kept st S ∧ At S b5 [.str L.n, L.pv, .str L.v] ∧ E 1 = .str nm ∧ E 2 = .cp [.str T.n, lv, cv] ∧ E 5 = .ptr b5 0 ∧ E 6 = .int .i64 (N : Int)) ?_ ?_
      · have hA := At.last (s := S) (z := [.str [], .nils, .str []]) (T := S.toks) (Lp := S.loops) (lo := S.low)
        rw [← hb5] at hA
        have hlf := vs_leaf g2.1
        obtain ⟨S1, a1, w1⟩ := hA.st3 (v0 := .str L.n) (v1 := L.pv) (v2 := .str L.v) rfl hlf.1 rfl rfl (hlf.2 _) rfl
        simp (maxSteps := 1000000) (disch := omega) only [h1, h2, lcc3, g1, allocPV, ← hb5, a1, qabz, qajz, qalz, evOp, qaoz, qaqz, qarz, qatz, qauz, qavz,
 ↓reduceIte, Nat.reduceEqDiff, List.map_cons, List.map_nil, Option.map_some, qcjz, List.getElem?_cons_zero, List.getElem?_cons_succ, true_and, and_true]
        exact ⟨w1.kp st hk.alloc' (by rw [hst]; simp), w1.at_⟩
      clear hk h1 h2 g1 hb5
      rintro e S ⟨hk, hA5, h1, h2, h5, h6⟩
      obtain ⟨Ms, c1, c2, c3⟩ := rAll_spec (st := S) (nm := nm) hsm hu2
      have hml : Ms.length = N := by rw [hN, ← c2]; simp
      refine W_cut (fun E S => (∃ r7, E 7 = r7 ∧ r7.vs 3 = some (Ms.map lV)) ∧ Kept st S ∧ At S b5 [.str L.n, L.pv, .str L.v] ∧ E 1 = .str nm ∧ E 2 = .cp [.str T.n, lv, cv] ∧ E 5 = .ptr b5 0 ∧ E 6 = .int .i64 (N : Int)) ?_ ?_
      · obtain ⟨nb, nl, np⟩ := newS_bx (S := S) (b := (Ms.map lV).isEmpty)
        simp (maxSteps := 1000000) (disch := omega) only [h1, h2, h5, h6, lcc3, c1, qabz, qajz, qalz, evOp, qaoz, qaqz, qarz, qatz, qavz,
 ↓reduceIte, Nat.reduceEqDiff, List.map_cons, List.map_nil, Option.map_some, true_and, and_true, exists_eq_left']
        exact ⟨newSl_vs3, hk.newS, hA5.bx nb⟩
      clear hk h1 h2 h5 h6 c1 hA5
      rintro e S ⟨⟨r7, h7, hr7⟩, hk, hA5, h1, h2, h5, h6⟩
      have hl7 := len_vs hr7
      rw [List.length_map, hml] at hl7
      obtain ⟨b8, hb8⟩ : ∃ b8, b8 = S.boxes.length := ⟨_, rfl⟩
      have hne58 : b5 ≠ b8 := by have := hA5.lt; omega
      have hbu : buildCells [.str [], .nils, .str []] [] = some [.str [], .nils, .str []] := rfl
      refine W_cut (fun E S => Kept st S ∧ At S b5 [.str L.n, L.pv, .str L.v] ∧ At S b8 [.str [], .nils, .str []] ∧ E 1 = .str nm ∧ E 2 = .cp [.str T.n, lv, cv] ∧ E 5 = .ptr b5 0 ∧ E 6 = .int .i64 (N : Int) ∧ E 7 = r7 ∧ E 8 = .ptr b8 0) ?_ ?_
      · have hA := At.last (s := S) (z := [.str [], .nils, .str []]) (T := S.toks) (Lp := S.loops) (lo := S.low)
        rw [← hb8] at hA
        obtain ⟨S1, a1, w1⟩ := hA.st3 (v0 := .str []) (v1 := .nils) (v2 := .str []) rfl rfl rfl rfl rfl rfl
        simp (maxSteps := 1000000) (disch := omega) only [h1, h2, h5, h6, h7, hbu, allocPV, ← hb8, a1, qabz, qajz, qalz, evOp, qaoz, qarz, qatz, qauz, qavz,
 ↓reduceIte, Nat.reduceEqDiff, List.map_nil, Option.map_some, true_and, and_true]
        exact ⟨w1.kp st hk.alloc' (by rw [hst]; simp), w1.ot _ _ hne58 hA5.alloc, w1.at_⟩
      clear hk h1 h2 h5 h6 h7 hA5 hb8
      rintro e S ⟨hk, hA5, hA8, h1, h2, h5, h6, h7, h8⟩
      refine W_cut (fun E S => (∃ L8 : Ln, At S b8 [.str L8.n, L8.pv, .str L8.v] ∧ L8.good ∧ ofLn L8 = (allD T.ls nm).getD 0 ([], [], [])) ∧ Kept st S ∧ At S b5 [.str L.n, L.pv, .str L.v] ∧ E 1 = .str nm ∧ E 2 = .cp [.str T.n, lv, cv] ∧ E 5 = .ptr b5 0 ∧ E 6 = .int .i64 (N : Int) ∧ E 7 = r7 ∧ E 8 = .ptr b8 0) ?_ ?_
      · by_cases h0 : 0 < N
        · have e0 : (0 : Int) < (N : Int) := by omega
          obtain ⟨L8, hL8⟩ : ∃ L8, L8 = Ms.getD 0 L0 := ⟨_, rfl⟩
          have hg := c3 L8 (by rw [hL8]; exact getD_mem (by omega))
          have hia := iaddr_L (k := .i64) (c := 0) hr7 (by omega) (by simpa [hml] using h0)
          rw [show (0 : Int).toNat = 0 from rfl, ← hL8] at hia
          have hlf := vs_leaf hg.1
          obtain ⟨S2, a2, w2⟩ := hA8.st3 (v0 := .str L8.n) (v1 := L8.pv) (v2 := .str L8.v) rfl hlf.1 rfl rfl (hlf.2 _) rfl
          simp (maxSteps := 1000000) (disch := omega) only [h1, h2, h5, h6, h7, h8, hl7, e0, hia, ldcp3, a2, qaaz, qabz, qacz, qajz, qalz, evOp, qaoz, qapz, qarz, qatz, qauz, qavz,
 ↓reduceIte, Nat.reduceEqDiff, Option.map_some, qazz, qbhz, qbrz, decide_true, true_and, and_true]
          exact ⟨⟨L8, w2.at_, hg, by rw [hL8, ← c2, getD_map (by omega)]⟩, w2.kp st hk (by rw [hst]; simp), w2.ot _ _ hne58 hA5⟩
        · have e0 : ¬ (0 : Int) < (N : Int) := by omega
          have hnil : allD T.ls nm = [] := List.eq_nil_of_length_eq_zero (by omega)
          simp (maxSteps := 1000000) (disch := omega) only [h1, h2, h5, h6, h7, h8, hl7, e0, qaaz, qabz, qacz, qaez, qajz, qalz, evOp, qaoz, qapz, qarz, qatz, qavz,
 ↓reduceIte, Nat.reduceEqDiff, Option.map_some, qazz, qbhz, qbrz, decide_false,
 Bool.false_eq_true, true_and, and_true]
          exact ⟨⟨⟨[], .nils, [], []⟩, hA8, ⟨by simp [PV.vs], rfl⟩, by rw [hnil]; rfl⟩, hk, hA5⟩
      clear hk h1 h2 h5 h6 h7 h8 hA5 hA8
      rintro e S ⟨⟨L8, hA8, g4, g5⟩, hk, hA5, h1, h2, h5, h6, h7, h8⟩
      have hps : ∀ {M : Ln}, ofLn M = (allD T.ls nm).getD 0 ([], [], []) → M.ps.length ≤ 1000000 := fun {M} hM => by
        by_cases hnil : allD T.ls nm = []
        · rw [hnil] at hM
          have : M.ps = [] := congrArg (fun d => d.2.1) hM
          rw [this]; simp
        · have hpos := List.length_pos_iff.2 hnil
          have hmem : ofLn M ∈ allD T.ls nm := by rw [hM]; exact getD_mem hpos
          obtain ⟨n, ls, cs⟩ := T
          cases hsm with
          | mk s1 s2 s3 s4 s5 =>
          have := (s3 _ ((List.mem_filter.1 hmem).1)).2.2.1
          simp only [ofLn] at this
          omega
      obtain ⟨pv5, p1, p2⟩ := strip_L g2
      obtain ⟨pv8, p3, p4⟩ := strip_L g4
      have hlit5 : ∀ z, litFill 3 (List.replicate 1 z) [(0, .agg [.str L.n, L.pv, .str L.v])] = some [lV ⟨L.n, pv5, L.ps, L.v⟩] := fun z => lit1 p1 rfl
      have hlit8 : ∀ z, litFill 3 (List.replicate 1 z) [(0, .agg [.str L8.n, L8.pv, .str L8.v])] = some [lV ⟨L8.n, pv8, L8.ps, L8.v⟩] := fun z => lit1 p3 rfl
      have hsame1 := fun S : St => SameL_spec (st := S) (x := .sl 3 .no [lV ⟨L.n, pv5, L.ps, L.v⟩]) (y := .sl 3 .no [lV ⟨L8.n, pv8, L8.ps, L8.v⟩]) (As := [⟨L.n, pv5, L.ps, L.v⟩]) (Cs := [⟨L8.n, pv8, L8.ps, L8.v⟩]) (by simp [PV.vs]) (by simp [PV.vs])
        (fun M hM => by simp only [List.mem_singleton] at hM; subst hM; exact ⟨p2.1, hps g3⟩) (fun M hM => by simp only [List.mem_singleton] at hM; subst hM; exact p4.1) (by simp)
      have he1 : sameLB [⟨L.n, pv5, L.ps, L.v⟩] [⟨L8.n, pv8, L8.ps, L8.v⟩] = true := by
        have : ofLn ⟨L.n, pv5, L.ps, L.v⟩ = ofLn ⟨L8.n, pv8, L8.ps, L8.v⟩ := g3.trans g5.symm
        simp only [sameLB, List.map_cons, List.map_nil, this, decide_true]
      simp only [he1] at hsame1
      obtain ⟨Ns, d1, d2, d3⟩ := All_spec (st := S) (nm := nm) hsm hu2
      have hsame2 := fun S' : St => SameL_spec (st := S') (newSl_vs3 (S := S) (xs := Ns.map lV)) hr7 (fun M hM => ⟨(d3 M hM).1, mem_allD hsm d2 M hM⟩) (fun M hM => (c3 M hM).1) (by
        have : Ns.length = N := by rw [hN, ← d2]; simp
        omega)
      have he2 : sameLB Ns Ms = true := by simp only [sameLB, d2, c2, decide_true]
      simp only [he2] at hsame2
      obtain ⟨zs1, y1, y2⟩ := Find_spec (st := newS S (Ns.map lV).isEmpty) (nm := nm) hsm hu2
      obtain ⟨zs2, y3, y4⟩ := rFind_spec (st := newS (newS S (Ns.map lV).isEmpty) zs1.isEmpty) (nm := nm) hsm hu2
      have hsame3 := fun S' : St => SameAll_of (st := S') (As := findD T.cs nm) (Cs := findD T.cs nm) (x := newSl (newS S (Ns.map lV).isEmpty) 3 zs1) (y := newSl (newS (newS S (Ns.map lV).isEmpty) zs1.isEmpty) 3 zs2)
        (fun A hA B x y st hx hy => TSame_spec A (by
          obtain ⟨n, ls, cs⟩ := T
          cases hsm with
          | mk s1 s2 s3 s4 s5 => exact s5 A ((List.mem_filter.1 hA).1)) B x y st hx hy) ⟨zs1, newSl_vs3, y2.1, y2.2⟩ ⟨zs2, newSl_vs3, y4.1, y4.2⟩ (by
          obtain ⟨n, ls, cs⟩ := T
          cases hsm with
          | mk s1 s2 s3 s4 s5 => exact Nat.le_trans (List.length_filter_le _ _) s4)
      rw [sameTs_t rfl] at hsame3
      simp (maxSteps := 1000000) (disch := omega) only [h1, h2, h5, h6, h7, h8, halv, hl7, hA5.ld3, hA8.ld3, hlit5, hlit8, hsame1, lcc3, d1, hsame2, y1, y3, hsame3, qaaz, qabz, qaiz, qajz, qakz, qalz, qamz, qanz, evOp, qaoz, qaqz, qarz, qatz, qavz,
 ↓reduceIte, Nat.reduceEqDiff, List.map_cons, List.map_nil, Option.map_some, qazz, qbtz, beq_true, decide_true, and_true, reduceCtorEq, or_true]
  · rw [greatT_t hs] at hG'
    simp (maxSteps := 1000000) (disch := omega) only [h2, lcc3, hG', halv, qaaz, qabz, qacz, qaiz, qajz, qakz, qalz, qamz, qanz, evOp, qaoz, qapz, qaqz, qarz, qatz, qavz,
 ↓reduceIte, Nat.reduceEqDiff, List.map_cons, List.map_nil, Option.map_some, qazz, qbaz, qbhz, beq_false, Bool.false_eq_true, and_true, reduceCtorEq, or_true, Bool.not_true]
end Go.Ab
/-
  The library's searches as primitives, out of the shelf's contracts.
-/
namespace Go.Ab
open Go.Shelf Go.Proofs
variable {P : Program} {g : GMap} {ρ : Go.Shelf.Ren}

def numsOf (a : List UInt8) : List Int := a.map fun b => (b.toNat : Int)
theorem bytesOf_nums (a : List UInt8) : Lib.bytesOf (numsOf a) = a := by
  simp [Lib.bytesOf, numsOf, Function.comp_def]
theorem nums_range (a : List UInt8) : ∀ x ∈ numsOf a, 0 ≤ x ∧ x < 256 := by
  intro x hx
  simp only [numsOf, List.mem_map] at hx
  obtain ⟨b, _, rfl⟩ := hx
  have := b.toNat_lt
  omega
theorem nums_getD (a : List UInt8) {i : Nat} (h : i < a.length) : (numsOf a).getD i 0 = ((a[i]).toNat : Int) := by
  simp [numsOf, List.getD, h]

theorem cells_of {κ : K} {w : World} (hC : ∀ b i u, κ.C b i = some u → w.cell? ⟨b, i, none⟩ = some u) {blk off : Nat} {a : List UInt8} (hb : ∀ (i : Nat) (b : UInt8), a[i]? = some b → κ.C blk (off + i) = some (.int .u8 b.toNat)) :
    ∀ i, i < a.length → w.cell? ((⟨blk, off, none⟩ : Addr).add i) = some (.int .u8 ((numsOf a).getD i 0)) := by
  intro i hi
  rw [add_eq, nums_getD a hi]
  exact hC _ _ _ (hb i _ (by simp [hi]))

theorem primIndex (L : Lays.n185 P ρ) (hm : ∀ κ, g.inv κ → ∃ m, κ.C (ρ.g 1) 0 = some (.int .i64 m)) {pf : Func} (hpf : P.funcs[ρ.f 185]? = some pf) (hb : pf.body.isSome = true) (hn : pf.name ≠ "runtime.NumGoroutine") : PrimOK P g (ρ.f 185) pBytesIndex := by
  refine prim_of_calls hpf hb hn (fun κ w args ps v hi hC hsz hargs hp => ?_)
  obtain ⟨m, hm⟩ := hm κ hi
  have hmc := hC _ _ _ hm
  match ps, hp with
  | [x, y], hp =>
    simp only [pBytesIndex] at hp
    cases hx : x.by with
    | none => simp [hx] at hp
    | some a =>
      cases hy : y.by with
      | none => simp [hx, hy] at hp
      | some b =>
        simp only [hx, hy] at hp
        split at hp
        · rename_i hlen
          cases hp
          obtain ⟨u1, u2, rfl⟩ : ∃ u1 u2, args = #[u1, u2] := by
            obtain ⟨l⟩ := args
            match l, hsz with
            | [u1, u2], _ => exact ⟨u1, u2, rfl⟩
          have r1 := hargs 0 u1 x rfl rfl
          have r2 := hargs 1 u2 y rfl rfl
          have post : ∀ (n : Int), n = Lib.index a b → ∀ (e : Ending) (w' : World), (e = .returned (.int .i64 n) ∧ ∃ q, w' = w.drewN q) → ∃ z, e = .returned z ∧ (∀ κ', R g κ' z (.int .i64 (Lib.index a b))) ∧ w'.heap = w.heap ∧ w'.os = w.os ∧ w'.tape = w.tape ∧ w'.output = w.output := by
            rintro n rfl e w' ⟨rfl, q, rfl⟩
            exact ⟨_, rfl, fun κ' => .int .i64 _ (by decide), rfl, rfl, rfl, rfl⟩
          have post0 : ∀ (n : Int), n = Lib.index a b → ∀ (e : Ending) (w' : World), (e = .returned (.int .i64 n) ∧ w' = w) → ∃ z, e = .returned z ∧ (∀ κ', R g κ' z (.int .i64 (Lib.index a b))) ∧ w'.heap = w.heap ∧ w'.os = w.os ∧ w'.tape = w.tape ∧ w'.output = w.output := by
            rintro n rfl e w' ⟨rfl, rfl⟩
            exact ⟨_, rfl, fun κ' => .int .i64 _ (by decide), rfl, rfl, rfl, rfl⟩
          rcases by_cases' hx with ⟨rfl, rfl⟩ | ⟨t, rfl⟩
          · cases r1
            rcases by_cases' hy with ⟨rfl, rfl⟩ | ⟨t2, rfl⟩
            · cases r2
              exact (Any.bytes_Index_none L none none 0 0 0 w).mono (post0 0 (by simp [Lib.index]))
            · cases r2 with
              | bys blk off n c _ _ h1 h2 h3 h4 _ =>
                subst h1
                refine (Any.bytes_Index_nil L (some ⟨blk, off, none⟩) b.length c w (by omega) (fun h1 => ?_)).mono (post0 _ ?_)
                · have := cells_of hC h3 0 (by omega)
                  rw [add_eq] at this
                  exact ⟨blk, off, _, rfl, this⟩
                · cases b <;> simp [Lib.index]
          · cases r1 with
            | bys blk off n c _ _ h1 h2 h3 h4 _ =>
              subst h1
              rcases by_cases' hy with ⟨rfl, rfl⟩ | ⟨t2, rfl⟩
              · cases r2
                exact (Any.bytes_Index_none L (some ⟨blk, off, none⟩) none a.length c 0 w).mono (post0 0 (Lib.index_empty a).symm)
              · cases r2 with
                | bys blk2 off2 n2 c2 _ _ k1 k2 k3 k4 _ =>
                  subst k1
                  refine (Any.bytes_Index_at L ⟨blk, off, none⟩ ⟨blk2, off2, none⟩ a.length c b.length c2 (numsOf a) (numsOf b) m w (by simp [numsOf]) (by simp [numsOf]) (nums_range a) (nums_range b) (cells_of hC h3) (cells_of hC k3) h2 hlen.1 (by omega) hmc).mono (post _ ?_)
                  rw [bytesOf_nums, bytesOf_nums]
        · cases hp
  | [], hp => simp [pBytesIndex] at hp
  | [_], hp => simp [pBytesIndex] at hp
  | _ :: _ :: _ :: _, hp => simp [pBytesIndex] at hp
end Go.Ab
/-
  A Builder's text: the walk of the library's function, its end said whole (after the shelf's own proof).
-/
namespace Go.Proofs
open Go.Shelf Go.RowKit
variable {P : Program} {ρ : Ren}

structure CCLay (P : Program) (ρ : Ren) : Prop where
  mixed : P.follows .mixedOrders = true
  f240 : P.funcs[ρ.f 240]? = some (Body.n240 ρ)
  f276 : P.funcs[ρ.f 276]? = some (Body.n276 ρ)
  t4 : P.underlying (ρ.t 4) = some (TypeDesc.bool)
  a4 : ∀ w, (isAgg (ρ.t 4)).run P w = .ok false w
  z4 : ∀ w, (Go.sizeOf (ρ.t 4)).run P w = .ok 1 w
  v4 : ∀ w, (zeroValue (ρ.t 4)).run P w = .ok (Value.bool false) w
  t70 : P.underlying (ρ.t 70) = some (TypeDesc.pointer (ρ.t 72))
  a70 : ∀ w, (isAgg (ρ.t 70)).run P w = .ok false w
  z70 : ∀ w, (Go.sizeOf (ρ.t 70)).run P w = .ok 1 w
  v70 : ∀ w, (zeroValue (ρ.t 70)).run P w = .ok (Value.pointer none) w
  t72 : P.underlying (ρ.t 72) = some (TypeDesc.struct #[{ name := "addr", type := ρ.t 70, offset := 0, embedded := false, tag := "", pkgPath := "strings", byteOffset := 0 }, { name := "buf", type := ρ.t 37, offset := 1, embedded := false, tag := "", pkgPath := "strings", byteOffset := 8 }])
  a72 : ∀ w, (isAgg (ρ.t 72)).run P w = .ok true w
  z72 : ∀ w, (Go.sizeOf (ρ.t 72)).run P w = .ok 2 w
  v72 : ∀ w, (zeroValue (ρ.t 72)).run P w = .ok (Value.agg #[Value.pointer none, Value.slice none 0 0]) w
  t164 : P.underlying (ρ.t 164) = some (TypeDesc.unsafePointer)
  a164 : ∀ w, (isAgg (ρ.t 164)).run P w = .ok false w
  z164 : ∀ w, (Go.sizeOf (ρ.t 164)).run P w = .ok 1 w
  v164 : ∀ w, (zeroValue (ρ.t 164)).run P w = .ok (Value.pointer none) w

end Go.Proofs
/-
  The library's functions on texts as primitives, out of the shelf's contracts.
-/
namespace Go.Ab
open Go.Shelf Go.Proofs
variable {P : Program} {g : GMap} {ρ : Go.Shelf.Ren}

theorem primStrIndex (L : Lays.n219 P ρ) (hm : ∀ κ, g.inv κ → ∃ m, κ.C (ρ.g 1) 0 = some (.int .i64 m)) {pf : Func} (hpf : P.funcs[ρ.f 219]? = some pf) (hb : pf.body.isSome = true) (hn : pf.name ≠ "runtime.NumGoroutine") : PrimOK P g (ρ.f 219) pStrIndex := by
  refine prim_of_calls hpf hb hn (fun κ w args ps v hi hC hsz hargs hp => ?_)
  obtain ⟨m, hm⟩ := hm κ hi
  have hmc := hC _ _ _ hm
  unfold pStrIndex at hp
  split at hp
  · rename_i a b
    split at hp
    · rename_i hlen
      cases hp
      obtain ⟨u1, u2, rfl⟩ : ∃ u1 u2, args = #[u1, u2] := by
        obtain ⟨l⟩ := args
        match l, hsz with
        | [u1, u2], _ => exact ⟨u1, u2, rfl⟩
      have r1 := hargs 0 u1 _ rfl rfl
      have r2 := hargs 1 u2 _ rfl rfl
      cases r1 with | str sa _ ha => cases r2 with | str sb _ hb =>
      refine (Any.stringslite_Index L sa sb m w (by rw [← ha] at hlen; simpa using hlen) hmc).mono ?_
      rintro e w' ⟨rfl, rfl⟩
      exact ⟨_, rfl, fun κ' => by rw [ha, hb]; exact .int .i64 _ (by decide), rfl, rfl, rfl, rfl⟩
    · cases hp
  · cases hp

theorem primStrIndexByte (L : Lays.n137 P ρ) {pf : Func} (hpf : P.funcs[ρ.f 137]? = some pf) (hb : pf.body.isSome = true) (hn : pf.name ≠ "runtime.NumGoroutine") : PrimOK P g (ρ.f 137) pStrIndexByte := by
  refine prim_of_calls hpf hb hn (fun κ w args ps v hi hC hsz hargs hp => ?_)
  unfold pStrIndexByte at hp
  split at hp
  · rename_i a c
    cases hp
    obtain ⟨u1, u2, rfl⟩ : ∃ u1 u2, args = #[u1, u2] := by
      obtain ⟨l⟩ := args
      match l, hsz with
      | [u1, u2], _ => exact ⟨u1, u2, rfl⟩
    have r1 := hargs 0 u1 _ rfl rfl
    have r2 := hargs 1 u2 _ rfl rfl
    cases r1 with | str sa _ ha => cases r2 with | b8 _ n hn =>
    refine (Any.strings_IndexByte L sa n w).mono ?_
    rintro e w' ⟨rfl, rfl⟩
    refine ⟨_, rfl, fun κ' => ?_, rfl, rfl, rfl, rfl⟩
    have : n.toNat.toUInt8 = c := by rw [hn]; simp
    rw [ha, this]; exact .int .i64 _ (by decide)
  · cases hp

theorem SR.kill {base : Nat} {κ : K} {w w' : World} {st : St} (h : SR P g base κ w st) {i blk e ce : Nat} {rs : Array Value} {el : TypeId} {fz fz' : Nat × Nat} (hi : st.toks[i]? = some true) (hτ : κ.τ[i]? = some (blk, e, ce))
    (hw : w.heap[blk]? = some (.cells rs el fz)) (hw' : w'.heap = (setBlk w blk rs el fz').heap) : SR P g base κ w' { st with toks := st.toks.set i false } := by
  have hk := h.tk i blk e ce hi hτ
  suffices hs : SR P g base κ (setBlk w blk rs el fz') { st with toks := st.toks.set i false } from hs.heap hw'
  have hcell : ∀ b i, (setBlk w blk rs el fz').cell? ⟨b, i, none⟩ = w.cell? ⟨b, i, none⟩ := fun b i => by
    by_cases hb : b = blk
    · subst hb
      have hlt := (Array.getElem?_eq_some_iff.1 hw).1
      have h2 : (setBlk w b rs el fz').heap[b]? = some (.cells rs el fz') := by simp [setBlk, hlt]
      simp only [World.cell?]
      rw [h2, hw]
    · exact cell_setBlk_other hb
  have hobj : ∀ (k : Nat) (o : Obj), w.heap[k]? = some o → isCells o = false → (setBlk w blk rs el fz').heap[k]? = some o := fun k o ho hc => by
    rw [setBlk_other]
    · exact ho
    · rintro rfl; rw [hw] at ho; cases ho; simp [isCells] at hc
  have hset : ∀ j : Nat, (st.toks.set i false)[j]? = some true → st.toks[j]? = some true ∧ j ≠ i := fun j hj => by
    by_cases hji : j = i
    · subst hji
      rw [List.getElem?_set] at hj
      simp at hj
    · rw [List.getElem?_set_ne (fun h => hji h.symm)] at hj
      exact ⟨hj, hji⟩
  refine { cC := fun b i v hc => by rw [hcell]; exact h.cC b i v hc, sh := fun b t hb => (h.sh b t hb).imp fun n hn => (by rw [shape_setBlk hw rfl]; exact hn), bl := h.bl, bn := h.bn, mx := fun b k cs h1 h2 hm => (h.mx b k cs h1 h2 hm).setBlk hw, mz := h.mz, bx := fun b k cs h1 h2 hm => ?_, tl := by simp [h.tl], tk := fun j k e ce h1 h2 => ?_,
           td := fun a b ba ea ca bb eb cb h1 h2 h3 h4 h5 => h.td a b ba ea ca bb eb cb (hset a h1).1 (hset b h2).1 h3 h4 h5, ll := h.ll, ln := h.ln, lb := h.lb, lp := fun k l D r h1 h2 => (h.lp k l D r h1 h2).mono (K.le.refl _) hobj, hb := by simpa [setBlk] using h.hb, gv := h.gv }
  · have hx := h.bx b k cs h1 h2 hm
    have hne : k ≠ blk := by rintro rfl; exact hk.nb (List.mem_of_getElem? h2)
    obtain ⟨rs', hc, h3, h4⟩ := hx.ex
    exact ⟨hx.ge, hx.nc, ⟨rs', hc.congr (setBlk_other hne), h3, h4⟩, hx.lf, hx.lw, fun hm => by rw [← hx.sb hm]; exact shape_congr (setBlk_other hne)⟩
  · obtain ⟨q1, q2⟩ := hset j h1
    have hx := h.tk j k e ce q1 h2
    have hne : k ≠ blk := h.td j i k e ce blk _ _ q1 hi h2 hτ q2
    obtain ⟨rs', hc, h3⟩ := hx.ex
    exact ⟨hx.ge, hx.nb, hx.nc, ⟨rs', hc.congr (setBlk_other hne), h3⟩⟩

end Go.Ab
/-
  A row that lists variables: the wrap, the world's shape and what the listed variables hold kept.
-/
namespace Go.Ab
open Go
variable {H : Type} {enc : TypeId × Value → H}

theorem returns_laid_shaped {a : Assume} {C : Checked} {os : Os} {f : FuncId} {fn : Func} {s : ChangeSpec} {conds : List PathCond} {apart fresh handsOn again : Bool} (X : World → Prop) (hX : ∀ w w' : World, w.heap = w'.heap → X w → X w')
    (own : ownKnob C.prog.godebug = none) (started : os.Started) (noInit : C.prog.inits.idxOf? f = none) (hfn : C.prog.funcs[f]? = some fn)
    (witness : ∃ (w : World) (tape : Tape) (i : Input), w.os = os ∧ (w.forCall tape i).Shaped C.prog ∧ i.vars = [] ∧ Input.okWide C.prog (w.forCall tape i) .any w.heap.size f i ∧
      ((s.pre enc C.prog fn conds apart (w.forCall tape i).memory i.args ∧ X (w.forCall tape i).memory) ∧ sizedMet enc C.prog fn (OpenSpec.ofChange s) apart (w.forCall tape i).memory i.args) ∧ a.holds C.prog (lone (Frame.enter C.prog f i.args .normal) [] (w.forCall tape i)))
    (contract : ∀ (W : World) (base : Nat) (args : Array Value) (ds gs : List (DataW H)) (before : List MemPlace),
      (∀ (j : Nat) t v, fn.params[j]? = some t → args[j]? = some v → Value.okWide C.prog W .any base t v) →
      DataW.Whole enc C.prog fn.params.toList s.vars apart W args.toList ds gs before →
      X W →
      (DataW.weightsEach C.prog (fn.params.toList ++ s.plain.varTypes C.prog) (ds ++ gs)).all (· ≤ reachBytes) = true →
      W.ShapedOpen C.prog →
      a.holds C.prog (lone (Frame.enter C.prog f args .normal) [] W) →
      Calls C.prog f args W fun e W' => ∃ v, e = .returned v ∧ s.post enc C.prog fn apart fresh handsOn again W args v W') :
    ReturnsInHanded a C os f .any (fun w args => (s.pre enc C.prog fn conds apart w args ∧ X w) ∧ sizedMet enc C.prog fn (OpenSpec.ofChange s) apart w args) (s.post enc C.prog fn apart fresh handsOn again) := by
  refine returnsInHanded_of_calls own started noInit witness ?_
  intro w tape i _ hshape _ hok hpre hholds
  obtain ⟨_, _, _, fn2, hfn2, _, _, _, _, hval⟩ := hok
  obtain rfl : fn2 = fn := Option.some.inj (hfn2.symm.trans hfn)
  obtain ⟨⟨⟨ds, gs, before, hwhole, _⟩, hlaid⟩, hsized⟩ := hpre
  have hlaid2 : X (w.forCall tape i) := hX _ _ (by rfl) hlaid
  have hwhole2 := DataW.Whole.of_heap (w' := w.forCall tape i) (by rfl) hwhole
  have hrun := contract _ w.heap.size i.args ds gs before hval hwhole2 hlaid2 (hsized.weights hwhole) hshape hholds
  refine hrun.mono ?_
  rintro e W2 ⟨v, rfl, hpost⟩
  exact ChangeSpec.post_blind hpost
end Go.Ab
