/-
  Dates are read: the whole, walked.
-/
import Derived.Test.YtihjnlnmgbabjaaGreatDoorA4
import Derived.KernelRfl
import Derived.Test.YtihjnlnmgbabjaaGreatDoorA3
import Derived.Shelf.Bytes.SlIndexWhole
import Derived.Shelf.Bytes.IndexByte
import Derived.Shelf.Strings.Builder1
import Derived.Shelf.Strings.Search2
import Derived.Shelf.Small.Strs
import Derived.Shelf.SlicesE.Clone
import Derived.Shelf.Strings.Split
import Derived.HandedShaped
import Derived.LaidLaws
import Derived.Lay
set_option linter.unusedVariables false
set_option linter.unusedSimpArgs false
namespace Go.Ab
set_option maxRecDepth 20000
variable {st s : St} {e : Env}

theorem bareD_len : ∀ (n : Nat) (s : Bs), (bareD n s).length ≤ s.length := by
  intro n
  induction n with
  | zero => intro s; simp [bareD]
  | succ n ih =>
    intro s
    rw [bareD]
    by_cases h1 : Lib.index s [40] < 0
    · rw [if_pos h1]; exact Nat.le_refl _
    · rw [if_neg h1]
      have r1 := index_room' s [40] (by omega)
      simp only [List.length_cons, List.length_nil] at r1
      by_cases h2 : Lib.index (s.drop ((Lib.index s [40]).toNat + 1)) [41] < 0
      · rw [if_pos h2]; simp; omega
      · rw [if_neg h2]
        have r2 := index_room' (s.drop ((Lib.index s [40]).toNat + 1)) [41] (by omega)
        simp only [List.length_cons, List.length_nil, List.length_drop] at r2
        have := ih ((s.drop ((Lib.index s [40]).toNat + 1)).drop ((Lib.index (s.drop ((Lib.index s [40]).toNat + 1)) [41]).toNat + 1))
        simp only [List.length_drop, List.length_append, List.length_take, List.length_cons] at this ⊢
        omega
theorem words_len : ∀ (s acc : Bs), (∀ w ∈ wordsG s acc, w.length ≤ acc.length + s.length) ∧ (wordsG s acc).length ≤ s.length + 1
  | [], acc => by
    rw [wordsG]
    split
    · simp
    · simp
  | c :: s, acc => by
    rw [wordsG]
    have i0 := words_len s []
    have i1 := words_len s (acc ++ [c])
    simp only [List.length_nil, Nat.zero_add, List.length_append, List.length_cons] at i0 i1 ⊢
    split
    · split
      · exact ⟨fun w hw => by have := i0.1 w hw; omega, by omega⟩
      · refine ⟨fun w hw => ?_, by simp; omega⟩
        rcases List.mem_cons.1 hw with rfl | hw
        · omega
        · have := i0.1 w hw; omega
    · exact ⟨fun w hw => by have := i1.1 w hw; omega, by omega⟩
theorem wdGo_len {a b : Bs} {r : List Bs} {n : Nat} (hb : b.length ≤ n) (hr : ∀ w ∈ r, w.length ≤ n) : (∀ w ∈ (wdGo a b r).2, w.length ≤ n) ∧ (wdGo a b r).2.length ≤ r.length + 1 := by
  unfold wdGo
  split
  · simp
  · split
    · exact ⟨hr, by simp⟩
    · refine ⟨fun w hw => ?_, by simp⟩
      rcases List.mem_cons.1 hw with rfl | hw
      · exact hb
      · exact hr w hw
theorem wd_len {l : List Bs} {n : Nat} (h : ∀ w ∈ l, w.length ≤ n) : (∀ w ∈ (wdD l).2, w.length ≤ n) ∧ (wdD l).2.length ≤ l.length := by
  match l, h with
  | [], _ => simp [wdD]
  | w :: r, h =>
    have hw := h w (by simp)
    have hr : ∀ v ∈ r, v.length ≤ n := fun v hv => h v (by simp [hv])
    unfold wdD
    dsimp only
    split
    · have := wdGo_len (a := w.take (Lib.index w [44]).toNat) (b := w.drop ((Lib.index w [44]).toNat + 1)) (n := n) (by simp; omega) hr
      exact ⟨this.1, by simpa using this.2⟩
    · cases r with
      | nil => exact ⟨h, Nat.le_refl _⟩
      | cons v r' =>
        dsimp only
        split
        · have := wdGo_len (a := w) (b := v.drop 1) (r := r') (n := n) (by have := hr v (by simp); simp; omega) (fun x hx => hr x (by simp [hx]))
          exact ⟨this.1, Nat.le_trans this.2 (by simp)⟩
        · exact ⟨h, Nat.le_refl _⟩
theorem days_bound (y m d : Int) : 0 ≤ (daysD y m d).1 ∧ (daysD y m d).1 ≤ 2932896 := by
  unfold daysD
  split
  · rename_i h
    have hci : Ci (befY y.toNat + cumY y.toNat m.toNat + d.toNat - 1) y.toNat m.toNat d.toNat := ⟨by omega, by omega, by omega, by omega, by omega, by omega, by omega⟩
    have := ci_le hci
    simp only
    omega
  · simp
theorem clk_bound (s : Bs) : -1 ≤ clkD s ∧ clkD s < 86400 := by
  unfold clkD
  split
  · omega
  · unfold hmsD
    split
    · omega
    · omega
theorem zone_bound (s : Bs) : -100000000 ≤ (zoneD s).1 ∧ (zoneD s).1 ≤ 100000000 := by
  unfold zoneD
  split
  · rename_i q hq
    have hm := List.mem_of_find?_eq_some hq
    have : ∀ q ∈ zoneTab, (-100000 : Int) ≤ q.2 ∧ q.2 ≤ 100000 := by decide
    have := this q hm
    simp only; omega
  · unfold zoneN
    split
    · simp
    · have h1 := digD_bound (s := (s.take 3).drop 1) (a := 2) (b := 2) (by omega)
      have h2 := digD_bound (s := s.drop 3) (a := 2) (b := 2) (by omega)
      simp only
      split <;> omega

def dst (st : St) (d : PV) (B : Bs) (ts : List Bool) (lo : Nat) (rc : List LoopS) : St := ⟨st.boxes ++ [[d], [.str B]], st.toks ++ ts, st.loops ++ rc, lo⟩
variable {d d' : PV} {B : Bs} {ts : List Bool} {lo : Nat} {rc : List LoopS}
theorem dst_ld : loadPV (dst st d B ts lo rc) false 1 (.ptr st.boxes.length 0) = some d := by simp [loadPV, dst, readCells]
theorem dst_st (h1 : d'.cells = [d']) (h2 : leafOk d' = true) (h3 : ∀ n, d'.inB n = true) : storePV (dst st d B ts lo rc) 1 (.ptr st.boxes.length 0) d' = some (dst st d' B ts (if hasTok [d'] then min lo st.boxes.length else lo) rc) := by
  simp [storePV, dst, h1, h2, h3, setCells]
theorem lc1 {v : PV} : loadcPV false 1 (.cp [v]) = some v := rfl
theorem kept_dst : Kept st (dst st d B ts st.boxes.length []) := ⟨by simp [dst], by simp [dst], by simp [dst], by simp [dst]⟩
theorem retIII {a b c : Nat} {t u v t' u' v' : Int} (ha : e a = .int .i64 t) (hb : e b = .int .i64 u) (hc : e c = .int .i64 v) (hk : Kept st s) (h1 : t = t') (h2 : u = u') (h3 : v = v') :
    ∃ rv, resOf e s [.tmp a, .tmp b, .tmp c] = some rv ∧ leave st s rv = (.tup [.int .i64 t', .int .i64 u', .int .i64 v'], st) := by
  subst h1 h2 h3
  exact ⟨.tup [.int .i64 t, .int .i64 u, .int .i64 v], by simp [resOf, rvAll, rv1, ha, hb, hc, packRes, notTup], hk.leave' ⟨fun _ => rfl, fun _ _ => rfl⟩⟩
theorem tok_row {t : Tok} {l : List Bs} : (rowV t l).cells = [rowV t l] ∧ leafOk (rowV t l) = true ∧ ∀ n, (rowV t l).inB n = true := ⟨rfl, rfl, fun _ => rfl⟩

theorem weekday_nil : call prog (.fn 286 []) [.nils] st = some (.tup [.int .i64 (-2), .nils], st) := by
  refine call_of_W prog_286 ?_
  unfold F_date_weekday; dsimp only
  have ln : lenPV false .nils = some (.int .i64 0) := rfl
  simp (maxSteps := 1000000) (disch := omega) only [ln, qaaz, qabz, qacz, qaiz, qajz, qalz, evOp, qaoz, qapz, qarz, qatz, qavz,
 ↓reduceIte, List.append_nil, qawz, Option.map_some, qazz, qbaz, qbhz, qblz, qbtz, decide_true, reduceCtorEq]
  exact retInils rfl rfl Kept.start rfl

set_option maxHeartbeats 8000000 in
theorem dParse_spec {l : Bs} (hl : l.length ≤ 100000) : call prog (.fn 262 []) [.str l] st = some (.tup [.int .i64 (parseD l).1, .int .i64 (parseD l).2.1, .int .i64 (parseD l).2.2], st) := by
  refine call_of_W prog_262 ?_
  unfold F_date_Parse; dsimp only
  obtain ⟨B, hB⟩ : ∃ B, B = bareT l := ⟨_, rfl⟩
  have hBl : B.length ≤ 100000 := by rw [hB]; exact Nat.le_trans (bareD_len _ _) hl
  obtain ⟨W, hW⟩ : ∃ W, W = wordsG B [] := ⟨_, rfl⟩
  have hWl := words_len B []
  rw [← hW] at hWl
  simp only [List.length_nil, Nat.zero_add] at hWl
  have hbare := fun S : St => bare_spec (st := S) (s := l) (by omega)
  rw [← hB] at hbare
  simp (maxSteps := 1000000) (disch := omega) only [allocPV, hbare, words_spec, List.length_append, List.length_cons, List.length_nil, Nat.zero_add, List.append_assoc, qaaz, qabz, qadz, qajz, qalz, evOp, qaoz, qapz, qaqz, qarz, qatz, qavz,
 ↓reduceIte, List.nil_append, List.cons_append, List.append_nil, List.map_cons, List.map_nil, qawz, qazz, reduceCtorEq]
  refine W_rangeFunc (fid := 310) (caps := [.ptr (st.boxes.length + 1) 0]) rfl prog_310 ?_
  generalize hrec : recOf _ _ _ _ = rec
  have hra := congrArg LoopS.assign hrec.symm
  have hrb := congrArg LoopS.body hrec.symm
  dsimp only [recOf] at hra hrb
  have r0 : rec.status = 0 := by rw [← hrec]; rfl
  have r1 : rec.pend = .normal := by rw [← hrec]; rfl
  have r2 : rec.params = [23] := by rw [← hrec]; rfl
  have r3 : rec.env 5 = .ptr st.boxes.length 0 := by rw [← hrec]; rfl
  have r5 : rec = { rec with status := 0, pend := .normal } := by rw [← hrec]; rfl
  obtain ⟨P, hP⟩ : ∃ P : List Bs → St → Prop, P = fun r s => ∃ ts d lo xs, s = dst st d B ts lo [rec] ∧ W = xs ++ r ∧ (d = .nils ∧ xs = [] ∨ ∃ i, d = rowV (.own i) xs ∧ st.toks.length ≤ i ∧ (st.toks ++ ts)[i]? = some true ∧ lo ≤ st.boxes.length) ∧ st.boxes.length ≤ lo := ⟨_, rfl⟩
  have hasg : ∀ (v : PV) (S : St), ex prog rec.assign (updAll rec.env rec.params [v]) S = some (.normal, upd (upd rec.env 23 v) 6 v, S) := fun v S => by
    refine ex_of_W ?_
    simp (maxSteps := 1000000) (disch := omega) only [hra, r2, updAll, qabz, qajz, qalz, evOp, qaoz, qarz, qatz, qavz,
 ↓reduceIte, true_and, and_true]
  obtain ⟨s1, hs1, hcall⟩ := words_iter (st := ⟨st.boxes ++ [[.nils], [.str B]], st.toks, st.loops ++ [rec], min st.boxes.length (st.boxes.length + 1)⟩) (l := B) (by omega) (b := st.boxes.length + 1) (k := st.loops.length) (P := P) (D := P [])
    (fun r s h => by rw [hP] at h; obtain ⟨ts, d, lo, xs, rfl, _⟩ := h; simp [dst])
    (fun w r s h => by
      rw [hP] at h
      obtain ⟨ts, d, lo, xs, rfl, h1, h2, h3⟩ := h
      have hxl : xs.length + 1 ≤ 100001 := by
        have := congrArg List.length h1
        have := hWl.2
        simp at *; omega
      have key : ∃ b s', call prog (.yld st.loops.length) [.str w] (dst st d B ts lo [rec]) = some (.bool b, s') ∧ (b = true ∧ P r s') := by
        refine yld_of_W (r := rec) (K := fun b s' => b = true ∧ P r s') (args := [.str w]) (by simp [dst]) r0 (by rw [r2]; rfl) (hasg _ _) ?_
        obtain ⟨rec1, hrec1⟩ : ∃ r, r = ({ rec with status := 1 } : LoopS) := ⟨_, rfl⟩
        have hset : ({ dst st d B ts lo [rec] with loops := (dst st d B ts lo [rec]).loops.set st.loops.length { rec with status := 1 } } : St) = dst st d B ts lo [rec1] := by
          rw [← hrec1]; simp [dst]
        rw [hset, hrb]
        -- the word behind the row
        obtain ⟨i, ts', ha, hi1, hi2⟩ : ∃ i ts', appV 1 ⟨(dst st d B ts lo [rec1]).boxes, (dst st d B ts lo [rec1]).toks ++ [true], (dst st d B ts lo [rec1]).loops, (dst st d B ts lo [rec1]).low⟩ d (.sl 1 (.own (st.toks ++ ts).length) [.str w]) = some (rowV (.own i) (xs ++ [w]), dst st d B ts' lo [rec1]) ∧ st.toks.length ≤ i ∧ (st.toks ++ ts')[i]? = some true := by
          rcases h2 with ⟨rfl, rfl⟩ | ⟨i, rfl, hi1, hi2, hi3⟩
          · refine ⟨st.toks.length + (ts.length + 1), ts ++ [true, true], ?_, by omega, by rw [get_app, get_app]; rfl⟩
            simp [appV, srcV, freshT, dst, rowV, room]
          · have hlt : i < (st.toks ++ ts).length := (List.getElem?_eq_some_iff.1 hi2).1
            have hg : (st.toks ++ ts ++ [true])[i]? = some true := by rw [List.getElem?_append_left hlt]; exact hi2
            refine ⟨st.toks.length + (ts.length + 1), (ts ++ [true]).set (i - st.toks.length) false ++ [true], ?_, by omega, ?_⟩
            · have hs : (st.toks ++ (ts ++ [true])).set i false = st.toks ++ (ts ++ [true]).set (i - st.toks.length) false := by
                rw [List.set_append_right _ _ hi1]
              have hr : xs.length + 1 ≤ room := by unfold room; omega
              have hg2 : (st.toks ++ (ts ++ [true]))[i]? = some true := by rw [← List.append_assoc]; exact hg
              simp [appV, srcV, rowV, appTok, freshT, dst, hg2, hs, hr, List.append_assoc]
            · have hsl : ((ts ++ [true]).set (i - st.toks.length) false).length = ts.length + 1 := by simp
              rw [get_app, ← hsl]
              exact get_app0
        have hlo : min lo st.boxes.length = st.boxes.length := by omega
        have hst : storePV (dst st d B ts' lo [rec1]) 1 (.ptr st.boxes.length 0) (rowV (.own i) (xs ++ [w])) = some (dst st (rowV (.own i) (xs ++ [w])) B ts' st.boxes.length [rec1]) := by
          rw [dst_st tok_row.1 tok_row.2.1 tok_row.2.2]
          simp [hasTok, rowV, tokOf, hlo]
        have htl : (dst st d B ts lo [rec1]).toks.length = (st.toks ++ ts).length := rfl
        simp (maxSteps := 1000000) (disch := omega) only [r3, dst_ld, lit_s, freshT, htl, ha, hst, qabz, qadz, qajz, qalz, evOp, qaoz, qarz, qatz, qauz, qavz,
 ↓reduceIte, Nat.reduceEqDiff, List.map_cons, List.map_nil, Option.map_some, qbdz, Bool.false_eq_true]
        refine ⟨rec1, by simp [dst], rfl, ?_⟩
        rw [hP]
        refine ⟨ts', rowV (.own i) (xs ++ [w]), st.boxes.length, xs ++ [w], ?_, by rw [h1]; simp, .inr ⟨i, rfl, hi1, hi2, Nat.le_refl _⟩, Nat.le_refl _⟩
        simp only [dst, hrec1]
        simp
        rw [← r0, ← r1]
      obtain ⟨b, s', c1, rfl, c2⟩ := key
      exact ⟨s', c1, c2⟩)
    (fun s h => h)
    (by
      rw [hP]
      exact ⟨[], .nils, st.boxes.length + 2, [], by simp [dst], by simp [hW], .inl ⟨rfl, rfl⟩, by omega⟩)
  rw [hP] at hs1
  obtain ⟨ts, d, lo, xs, rfl, hx1, hx2, hlo⟩ := hs1
  rw [List.append_nil] at hx1
  subst hx1
  have hmin : min st.boxes.length (st.boxes.length + 1) = st.boxes.length := by omega
  rw [hmin] at hcall ⊢
  have hleave : ∃ ts2, leave ⟨st.boxes ++ [[.nils], [.str B]], st.toks, st.loops ++ [rec], st.boxes.length⟩ (dst st d B ts lo [rec]) (.tup []) = (.tup [], dst st d B ts2 st.boxes.length [rec]) ∧ (ts2 = ts ∨ (ts2 = [] ∧ st.boxes.length + 2 ≤ lo)) := by
    by_cases h6 : st.boxes.length + 2 ≤ lo
    · refine ⟨[], ?_, .inr ⟨rfl, h6⟩⟩
      simp [leave, dst, PV.inB, PV.inB.inBAll, keepRes, keepVals, h6]
      exact List.take_of_length_le (by simp)
    · refine ⟨ts, ?_, .inl rfl⟩
      have hm : min st.boxes.length lo = st.boxes.length := by omega
      simp [leave, dst, PV.inB, PV.inB.inBAll, h6, hm]
      exact List.take_of_length_le (by simp)
  obtain ⟨ts2, hleave, hts2⟩ := hleave
  rw [hleave] at hcall
  refine ⟨_, _, rec, hcall, by simp [dst], (by rw [r0]; decide), ?_⟩
  have hlp : ({ dst st d B ts2 st.boxes.length [rec] with loops := (dst st d B ts2 st.boxes.length [rec]).loops.take st.loops.length } : St) = dst st d B ts2 st.boxes.length [] := by simp [dst]
  rw [hlp, r1]
  -- the day's name
  obtain ⟨wd, hwd⟩ : ∃ wd, wd = (wdD W).1 := ⟨_, rfl⟩
  obtain ⟨L, hL⟩ : ∃ L, L = (wdD W).2 := ⟨_, rfl⟩
  have hLl := wd_len (l := W) (n := 100000) (fun w hw => by have := hWl.1 w hw; omega)
  rw [← hL] at hLl
  have hres : parseD l = lstD wd L := by unfold parseD; rw [← hB, ← hW, ← hwd, ← hL]
  rw [hres]
  have hwk : ∃ ts3 y, call prog (.fn 286 []) [d] (dst st d B ts2 st.boxes.length []) = some (.tup [.int .i64 wd, y], dst st d B ts3 st.boxes.length []) ∧ (y = .nils ∧ L = [] ∨ ∃ u, y = rowV u L) := by
    rcases hx2 with ⟨rfl, h0⟩ | ⟨i, rfl, hi1, hi2, hi3⟩
    · rw [h0] at hwd hL
      rw [hwd, hL]
      exact ⟨ts2, .nils, weekday_nil, .inl ⟨rfl, rfl⟩⟩
    · have hts : ts2 = ts := by
        rcases hts2 with h | ⟨_, h⟩
        · exact h
        · omega
      subst hts
      obtain ⟨y, s', q1, q2, q3⟩ := weekday_spec (st := dst st (rowV (.own i) W) B ts2 st.boxes.length []) (t := .own i) (l := W) (fun j hj => by cases hj; exact (List.getElem?_eq_some_iff.1 hi2).1) (fun w hw => by have := hWl.1 w hw; omega) (by omega)
      rw [← hwd] at q1
      rw [← hL] at q2
      have q2' : y = .nils ∧ L = [] ∨ ∃ u, y = rowV u L := by
        rcases q2 with h | ⟨u, h, _⟩
        · exact .inl h
        · exact .inr ⟨u, h⟩
      rcases q3 with rfl | rfl
      · exact ⟨ts2, y, q1, q2'⟩
      · exact ⟨ts2 ++ [true], y, by rw [q1]; simp [St.tok1, dst], q2'⟩
  obtain ⟨ts3, y, hwk, hy⟩ := hwk
  have hst : storePV (dst st d B ts3 st.boxes.length []) 1 (.ptr st.boxes.length 0) y = some (dst st y B ts3 st.boxes.length []) := by
    have h1 : y.cells = [y] ∧ leafOk y = true ∧ ∀ n, y.inB n = true := by
      rcases hy with ⟨rfl, _⟩ | ⟨u, rfl⟩
      · exact ⟨rfl, rfl, fun _ => rfl⟩
      · exact tok_row
    rw [dst_st h1.1 h1.2.1 h1.2.2]
    split <;> simp
  have hlen : lenPV false y = some (.int .i64 (L.length : Int)) := by
    rcases hy with ⟨rfl, rfl⟩ | ⟨u, rfl⟩
    · rfl
    · exact len_row
  have hfin : ∀ E : Env, E 2 = .int .i64 0 → E 3 = .int .i64 0 → E 4 = .int .i64 110 → lstD wd L = (0, 0, 110) → ∃ rv, resOf E (dst st y B ts3 st.boxes.length []) [.tmp 2, .tmp 3, .tmp 4] = some rv ∧ leave st (dst st y B ts3 st.boxes.length []) rv = (.tup [.int .i64 (lstD wd L).1, .int .i64 (lstD wd L).2.1, .int .i64 (lstD wd L).2.2], st) := fun E h2 h3 h4 h => by
    rw [h]
    exact retIII h2 h3 h4 kept_dst rfl rfl rfl
  by_cases c1 : wd = -2
  · have hbad : lstD wd L = (0, 0, 110) := by unfold lstD; rw [if_pos (.inl c1)]
    simp (maxSteps := 1000000) (disch := omega) only [dst_ld, hwk, hst, eq_true c1, qaaz, qabz, qacz, qaiz, qajz, qakz, qalz, qamz, qanz, evOp, qaoz, qapz, qaqz, qarz, qatz, qauz, qavz,
 ↓reduceIte, Nat.reduceEqDiff, List.map_cons, List.map_nil, Option.map_some, qazz, qbaz, qbdz, qbhz, qblz, qbtz, beq_false, decide_true, Bool.false_eq_true, qcjz, List.getElem?_cons_zero, List.getElem?_cons_succ, Bool.not_true]
    exact hfin _ rfl rfl rfl hbad
  by_cases c2 : L.length < 4
  · have hbad : lstD wd L = (0, 0, 110) := by unfold lstD; rw [if_pos (.inr (.inl c2))]
    have e2 : (L.length : Int) < 4 := by omega
    simp (maxSteps := 1000000) (disch := omega) only [dst_ld, hwk, hst, hlen, c1, e2, qaaz, qabz, qacz, qaiz, qajz, qakz, qalz, qamz, qanz, evOp, qaoz, qapz, qaqz, qarz, qatz, qauz, qavz,
 ↓reduceIte, Nat.reduceEqDiff, List.map_cons, List.map_nil, Option.map_some, qazz, qbaz, qbdz, qbhz, qblz, qbpz, qbtz, beq_false, decide_true, decide_false,
 Bool.false_eq_true, qcjz, List.getElem?_cons_zero, List.getElem?_cons_succ, Bool.not_true, Bool.not_false]
    exact hfin _ rfl rfl rfl hbad
  by_cases c3 : 5 < L.length
  · have hbad : lstD wd L = (0, 0, 110) := by unfold lstD; rw [if_pos (.inr (.inr c3))]
    have e2 : ¬ (L.length : Int) < 4 := by omega
    have e3 : (5 : Int) < (L.length : Int) := by omega
    simp (maxSteps := 1000000) (disch := omega) only [dst_ld, hwk, hst, hlen, c1, e2, e3, qaaz, qabz, qacz, qaiz, qajz, qakz, qalz, qamz, qanz, evOp, qaoz, qapz, qaqz, qarz, qatz, qauz, qavz,
 ↓reduceIte, Nat.reduceEqDiff, List.map_cons, List.map_nil, Option.map_some, qazz, qbaz, qbdz, qbhz, qblz, qbpz, qbrz, qbtz, beq_false, decide_true, decide_false,
 Bool.false_eq_true, qcjz, List.getElem?_cons_zero, List.getElem?_cons_succ, Bool.not_false]
    exact hfin _ rfl rfl rfl hbad
  have e2 : ¬ (L.length : Int) < 4 := by omega
  have e3 : ¬ (5 : Int) < (L.length : Int) := by omega
  obtain ⟨u, rfl⟩ : ∃ u, y = rowV u L := by
    rcases hy with ⟨_, rfl⟩ | h
    · simp at c2
    · exact h
  have i0 : iaddrPV 1 (rowV u L) (.int .i64 0) = some (.cp [.str (L.getD 0 [])]) := iaddr_t rowV_vs (by omega) (by simp; omega)
  have i1 : iaddrPV 1 (rowV u L) (.int .i64 1) = some (.cp [.str (L.getD 1 [])]) := iaddr_t rowV_vs (by omega) (by simp; omega)
  have i2 : iaddrPV 1 (rowV u L) (.int .i64 2) = some (.cp [.str (L.getD 2 [])]) := iaddr_t rowV_vs (by omega) (by simp; omega)
  have i3 : iaddrPV 1 (rowV u L) (.int .i64 3) = some (.cp [.str (L.getD 3 [])]) := iaddr_t rowV_vs (by omega) (by simp; omega)
  have hget : ∀ k, (L.getD k []).length ≤ 100000 := fun k => by
    rcases Nat.lt_or_ge k L.length with h | h
    · have : L.getD k [] = L[k] := by simp [List.getD, h]
      rw [this]; exact hLl.1 _ (List.getElem_mem h)
    · simp [List.getD, h]
  have hl0 : lstD wd L = finD wd (daysD (yrD (L.getD 2 [])) (nmD (L.getD 1 []) 13 monT) (digD (L.getD 0 []) 1 2)) (clkD (L.getD 3 [])) (zoneD (L.getD 4 [])) := by
    unfold lstD; rw [if_neg (by omega)]
  rw [hl0] at hfin ⊢
  have k0 : ∀ S : St, call prog (.fn 287 []) [.str (L.getD 0 []), .int .i64 1, .int .i64 2] S = some (.int .i64 (digD (L.getD 0 []) 1 2), S) := fun S => digits_spec (st := S) (l := L.getD 0 []) (least := 1) (most := 2) (by have := hget 0; omega) (by omega) (by omega)
  have k1 := fun S : St => mon_spec (st := S) (l := L.getD 1 []) (by have := hget 1; omega)
  have k2 := fun S : St => year_spec (st := S) (l := L.getD 2 []) (by have := hget 2; omega)
  have k3 := fun S : St => clock_spec (st := S) (l := L.getD 3 []) (by have := hget 3; omega)
  have k4 := fun S : St => zone_spec (st := S) (l := L.getD 4 []) (by have := hget 4; omega)
  have k5 := fun S : St => Days_spec (st := S) (y := yrD (L.getD 2 [])) (m := nmD (L.getD 1 []) 13 monT) (d := digD (L.getD 0 []) 1 2)
  have b3 := clk_bound (L.getD 3 [])
  have b4 := zone_bound (L.getD 4 [])
  have b5 := days_bound (yrD (L.getD 2 [])) (nmD (L.getD 1 []) 13 monT) (digD (L.getD 0 []) 1 2)
  obtain ⟨w4, hw4⟩ : ∃ w, w = L.getD 4 [] := ⟨_, rfl⟩
  rw [← hw4] at k4 b4 hfin ⊢
  obtain ⟨D5, hD5⟩ : ∃ D, D = daysD (yrD (L.getD 2 [])) (nmD (L.getD 1 []) 13 monT) (digD (L.getD 0 []) 1 2) := ⟨_, rfl⟩
  rw [← hD5] at k5 b5 hfin ⊢
  generalize hv0 : digD (L.getD 0 []) 1 2 = v0 at k0 k5
  generalize hv1 : nmD (L.getD 1 []) 13 monT = v1 at k1 k5
  generalize hv2 : yrD (L.getD 2 []) = v2 at k2 k5
  generalize hv3 : clkD (L.getD 3 []) = v3 at k3 b3 hfin ⊢
  generalize hv4 : zoneD w4 = v4 at k4 b4 hfin ⊢
  obtain ⟨n, e5⟩ := D5
  obtain ⟨z, ok⟩ := v4
  simp only at b4 b5 k4 k5
  have m1 : binPV .mul .no (.int .i64 n) (.int .i64 86400) = some (.int .i64 (n * 86400)) := by
    simp only [binPV, binI, if_true, Option.some.injEq]
    rw [wrap64 (by omega) (by omega)]
  have a1 : binPV .add .no (.int .i64 (n * 86400)) (.int .i64 v3) = some (.int .i64 (n * 86400 + v3)) := add_i (by omega) (by omega)
  have s1 : binPV .sub .no (.int .i64 (n * 86400 + v3)) (.int .i64 z) = some (.int .i64 (n * 86400 + v3 - z)) := sub_i (by omega) (by omega)
  have hR := fun S : St => Right_w (st := S) (t := n * 86400 + v3 - z)
  have hWk := fun S : St => Weekday_spec (st := S) (d := n)
  have hfd : finD wd (n, e5) v3 (z, ok) = (if e5 ≠ 0 ∨ v3 < 0 ∨ ok = false ∨ ¬ (0 ≤ n * 86400 + v3 - z ∧ n * 86400 + v3 - z ≤ 253402300799) then (0, 0, 110) else if 0 ≤ wd ∧ wd ≠ (wkOf n).1 then (0, 0, 110) else (n * 86400 + v3 - z, z, 0)) := rfl
  have bad1 : (e5 ≠ 0 ∨ v3 < 0 ∨ ok = false ∨ ¬ (0 ≤ n * 86400 + v3 - z ∧ n * 86400 + v3 - z ≤ 253402300799)) → finD wd (n, e5) v3 (z, ok) = (0, 0, 110) := fun h => by rw [hfd, if_pos h]
  have bad2 : (¬ (e5 ≠ 0 ∨ v3 < 0 ∨ ok = false ∨ ¬ (0 ≤ n * 86400 + v3 - z ∧ n * 86400 + v3 - z ≤ 253402300799))) → 0 ≤ wd ∧ wd ≠ (wkOf n).1 → finD wd (n, e5) v3 (z, ok) = (0, 0, 110) := fun h h2 => by rw [hfd, if_neg h, if_pos h2]
  have good : (¬ (e5 ≠ 0 ∨ v3 < 0 ∨ ok = false ∨ ¬ (0 ≤ n * 86400 + v3 - z ∧ n * 86400 + v3 - z ≤ 253402300799))) → ¬ (0 ≤ wd ∧ wd ≠ (wkOf n).1) → finD wd (n, e5) v3 (z, ok) = (n * 86400 + v3 - z, z, 0) := fun h h2 => by rw [hfd, if_neg h, if_neg h2]
  obtain ⟨Q0, hQ0⟩ : ∃ Q0 : Ex → Env → St → Prop, Q0 = endQ st [.tmp 2, .tmp 3, .tmp 4] (.tup [.int .i64 (finD wd (n, e5) v3 (z, ok)).1, .int .i64 (finD wd (n, e5) v3 (z, ok)).2.1, .int .i64 (finD wd (n, e5) v3 (z, ok)).2.2], st) := ⟨_, rfl⟩
  rw [← hQ0]
  have hend : ∀ E : Env, E 2 = .int .i64 0 → E 3 = .int .i64 0 → E 4 = .int .i64 110 → finD wd (n, e5) v3 (z, ok) = (0, 0, 110) → Q0 .ret E (dst st (rowV u L) B ts3 st.boxes.length []) := fun E h2 h3 h4 h => by
    rw [hQ0, qblz]; exact hfin E h2 h3 h4 h
  have hgood : ∀ E : Env, E 2 = .int .i64 (n * 86400 + v3 - z) → E 3 = .int .i64 z → E 4 = .int .i64 0 → finD wd (n, e5) v3 (z, ok) = (n * 86400 + v3 - z, z, 0) → Q0 .ret E (dst st (rowV u L) B ts3 st.boxes.length []) := fun E h2 h3 h4 h => by
    rw [hQ0, qblz, h]; exact retIII h2 h3 h4 kept_dst rfl rfl rfl
  -- which way it ends
  have ways : (e5 ≠ 0) ∨ (e5 = 0 ∧ v3 < 0) ∨ (e5 = 0 ∧ ¬ v3 < 0 ∧ ok = false) ∨ (e5 = 0 ∧ ¬ v3 < 0 ∧ ok = true ∧ ¬ (0 ≤ n * 86400 + v3 - z ∧ n * 86400 + v3 - z ≤ 253402300799)) ∨
      (e5 = 0 ∧ ¬ v3 < 0 ∧ ok = true ∧ (0 ≤ n * 86400 + v3 - z ∧ n * 86400 + v3 - z ≤ 253402300799) ∧ ¬ 0 ≤ wd) ∨
      (e5 = 0 ∧ ¬ v3 < 0 ∧ ok = true ∧ (0 ≤ n * 86400 + v3 - z ∧ n * 86400 + v3 - z ≤ 253402300799) ∧ 0 ≤ wd ∧ (wkOf n).1 = wd) ∨
      (e5 = 0 ∧ ¬ v3 < 0 ∧ ok = true ∧ (0 ≤ n * 86400 + v3 - z ∧ n * 86400 + v3 - z ≤ 253402300799) ∧ 0 ≤ wd ∧ ¬ (wkOf n).1 = wd) := by
    by_cases a : e5 = 0
    · by_cases b : v3 < 0
      · exact .inr (.inl ⟨a, b⟩)
      · cases ok with
        | false => exact .inr (.inr (.inl ⟨a, b, rfl⟩))
        | true =>
          by_cases d : 0 ≤ n * 86400 + v3 - z ∧ n * 86400 + v3 - z ≤ 253402300799
          · by_cases f : 0 ≤ wd
            · by_cases g : (wkOf n).1 = wd
              · exact .inr (.inr (.inr (.inr (.inr (.inl ⟨a, b, rfl, d, f, g⟩)))))
              · exact .inr (.inr (.inr (.inr (.inr (.inr ⟨a, b, rfl, d, f, g⟩)))))
            · exact .inr (.inr (.inr (.inr (.inl ⟨a, b, rfl, d, f⟩))))
          · exact .inr (.inr (.inr (.inl ⟨a, b, rfl, d⟩)))
    · exact .inl a
  have h4 : L.length = 4 → w4 = [] := fun h => by rw [hw4]; simp [List.getD, h]
  by_cases c5 : L.length = 5
  · have q5 : (L.length : Int) = 5 := by omega
    have i4 : iaddrPV 1 (rowV u L) (.int .i64 4) = some (.cp [.str w4]) := by rw [hw4]; exact iaddr_t rowV_vs (by omega) (by simp; omega)
    rcases ways with w1 | ⟨w1, w2⟩ | ⟨w1, w2, w3⟩ | ⟨w1, w2, w3, w4'⟩ | ⟨w1, w2, w3, w4', w5⟩ | ⟨w1, w2, w3, w4', w5, w6⟩ | ⟨w1, w2, w3, w4', w5, w6⟩
    · simp (maxSteps := 1000000) (disch := omega) only [dst_ld, hwk, hst, hlen, c1, e2, e3, eq_true q5, i0, i1, i2, i3, i4, lc1, k0, k1, k2, k3, k4, k5, m1, a1, s1, w1, qaaz, qabz, qacz, qaez, qaiz, qajz, qakz, qalz, qamz, qanz, evOp, qaoz, qapz, qaqz, qarz, qatz, qauz, qavz,
 ↓reduceIte, Nat.reduceEqDiff, List.map_cons, List.map_nil, Option.map_some, qazz, qbaz, qbdz, qbhz, qboz,
 qbpz, qbrz, qbtz, qbuz, beq_false, decide_true, decide_false,
 Bool.false_eq_true, qcjz, List.getElem?_cons_zero, List.getElem?_cons_succ, Bool.not_true, Bool.not_false, ne_eq, not_false_eq_true]
      exact hend _ rfl rfl rfl (bad1 (.inl w1))
    · simp (maxSteps := 1000000) (disch := omega) only [dst_ld, hwk, hst, hlen, c1, e2, e3, eq_true q5, i0, i1, i2, i3, i4, lc1, k0, k1, k2, k3, k4, k5, m1, a1, s1, eq_true w1, w2, qaaz, qabz, qacz, qaez, qaiz, qajz, qakz, qalz, qamz, qanz, evOp, qaoz, qapz, qaqz, qarz, qatz, qauz, qavz,
 ↓reduceIte, Nat.reduceEqDiff, List.map_cons, List.map_nil, Option.map_some, qazz, qbaz, qbdz, qbhz, qboz,
 qbpz, qbrz, qbtz, qbuz, beq_false, decide_true, decide_false,
 Bool.false_eq_true, qcjz, List.getElem?_cons_zero, List.getElem?_cons_succ, Bool.not_true, Bool.not_false, ne_eq, not_true_eq_false]
      exact hend _ rfl rfl rfl (bad1 (.inr (.inl w2)))
    · subst w3
      simp (maxSteps := 1000000) (disch := omega) only [dst_ld, hwk, hst, hlen, c1, e2, e3, eq_true q5, i0, i1, i2, i3, i4, lc1, k0, k1, k2, k3, k4, k5, m1, a1, s1, eq_true w1, w2, qaaz, qabz, qacz, qaez, qaiz, qajz, qakz, qalz, qamz, qanz, evOp, qaoz, qapz, qaqz, qarz, qatz, qauz, qavz,
 ↓reduceIte, Nat.reduceEqDiff, List.map_cons, List.map_nil, Option.map_some, qazz, qbaz, qbdz, qbhz, qboz,
 qbpz, qbrz, qbtz, qbuz, qcfz, beq_false, decide_true, decide_false,
 Bool.false_eq_true, qcjz, List.getElem?_cons_zero, List.getElem?_cons_succ, Bool.not_true, Bool.not_false, ne_eq, not_true_eq_false]
      exact hend _ rfl rfl rfl (bad1 (.inr (.inr (.inl rfl))))
    · subst w3
      simp (maxSteps := 1000000) (disch := omega) only [dst_ld, hwk, hst, hlen, c1, e2, e3, eq_true q5, i0, i1, i2, i3, i4, lc1, k0, k1, k2, k3, k4, k5, m1, a1, s1, hR, eq_true w1, w2, decide_eq_false w4', qaaz, qabz, qacz, qaez, qaiz, qajz, qakz, qalz, qamz, qanz, evOp, qaoz, qapz, qaqz, qarz, qatz, qauz, qavz,
 ↓reduceIte, Nat.reduceEqDiff, List.map_cons, List.map_nil, Option.map_some, qazz, qbaz, qbdz, qbhz, qboz,
 qbpz, qbrz, qbtz, qbuz, qcfz, beq_false, decide_true, decide_false,
 Bool.false_eq_true, qcjz, List.getElem?_cons_zero, List.getElem?_cons_succ, Bool.not_true, Bool.not_false, ne_eq, not_true_eq_false]
      exact hend _ rfl rfl rfl (bad1 (.inr (.inr (.inr w4'))))
    · subst w3
      simp (maxSteps := 1000000) (disch := omega) only [dst_ld, hwk, hst, hlen, c1, e2, e3, eq_true q5, i0, i1, i2, i3, i4, lc1, k0, k1, k2, k3, k4, k5, m1, a1, s1, hR, hWk, eq_true w1, w2, decide_eq_true w4', w5, qaaz, qabz, qacz, qaez, qaiz, qajz, qakz, qalz, qamz, qanz, evOp, qaoz, qapz, qaqz, qarz, qatz, qauz, qavz,
 ↓reduceIte, Nat.reduceEqDiff, List.map_cons, List.map_nil, Option.map_some, qazz, qbdz, qbhz, qboz,
 qbpz, qbrz, qbsz, qbtz, qbuz, qcfz, beq_true, beq_false, decide_true, decide_false,
 Bool.false_eq_true, qcjz, List.getElem?_cons_zero, List.getElem?_cons_succ, Bool.not_true, Bool.not_false, ne_eq, not_true_eq_false]
      exact hgood _ rfl rfl rfl (good (fun h => h.elim (fun h => h w1) fun h => h.elim w2 fun h => h.elim (fun h => by cases h) fun h => h w4') (fun h => w5 h.1))
    · subst w3
      simp (maxSteps := 1000000) (disch := omega) only [dst_ld, hwk, hst, hlen, c1, e2, e3, eq_true q5, i0, i1, i2, i3, i4, lc1, k0, k1, k2, k3, k4, k5, m1, a1, s1, hR, hWk, eq_true w1, w2, decide_eq_true w4', w5, eq_true w6, qaaz, qabz, qacz, qaez, qaiz, qajz, qakz, qalz, qamz, qanz, evOp, qaoz, qapz, qaqz, qarz, qatz, qauz, qavz,
 ↓reduceIte, Nat.reduceEqDiff, List.map_cons, List.map_nil, Option.map_some, qazz, qbdz, qbhz, qboz,
 qbpz, qbrz, qbsz, qbtz, qbuz, qcfz, beq_true, beq_false, decide_true, decide_false,
 Bool.false_eq_true, qcjz, List.getElem?_cons_zero, List.getElem?_cons_succ, Bool.not_true, Bool.not_false, ne_eq, not_true_eq_false]
      exact hgood _ rfl rfl rfl (good (fun h => h.elim (fun h => h w1) fun h => h.elim w2 fun h => h.elim (fun h => by cases h) fun h => h w4') (fun h => h.2 w6.symm))
    · subst w3
      simp (maxSteps := 1000000) (disch := omega) only [dst_ld, hwk, hst, hlen, c1, e2, e3, eq_true q5, i0, i1, i2, i3, i4, lc1, k0, k1, k2, k3, k4, k5, m1, a1, s1, hR, hWk, eq_true w1, w2, decide_eq_true w4', w5, w6, qaaz, qabz, qacz, qaez, qaiz, qajz, qakz, qalz, qamz, qanz, evOp, qaoz, qapz, qaqz, qarz, qatz, qauz, qavz,
 ↓reduceIte, Nat.reduceEqDiff, List.map_cons, List.map_nil, Option.map_some, qazz, qbaz, qbdz, qbhz, qboz,
 qbpz, qbrz, qbsz, qbtz, qbuz, qcfz, beq_true, beq_false, decide_true, decide_false,
 Bool.false_eq_true, qcjz, List.getElem?_cons_zero, List.getElem?_cons_succ, Bool.not_true, Bool.not_false, ne_eq, not_true_eq_false, not_false_eq_true]
      exact hend _ rfl rfl rfl (bad2 (fun h => h.elim (fun h => h w1) fun h => h.elim w2 fun h => h.elim (fun h => by cases h) fun h => h w4') ⟨w5, fun h => w6 h.symm⟩)
  · have q5 : ¬ (L.length : Int) = 5 := by omega
    obtain rfl := h4 (by omega)
    rcases ways with w1 | ⟨w1, w2⟩ | ⟨w1, w2, w3⟩ | ⟨w1, w2, w3, w4'⟩ | ⟨w1, w2, w3, w4', w5⟩ | ⟨w1, w2, w3, w4', w5, w6⟩ | ⟨w1, w2, w3, w4', w5, w6⟩
    · simp (maxSteps := 1000000) (disch := omega) only [dst_ld, hwk, hst, hlen, c1, e2, e3, q5, i0, i1, i2, i3, lc1, k0, k1, k2, k3, k4, k5, m1, a1, s1, w1, qaaz, qabz, qacz, qaez, qaiz, qajz, qakz, qalz, qamz, qanz, evOp, qaoz, qapz, qaqz, qarz, qatz, qauz, qavz,
 ↓reduceIte, Nat.reduceEqDiff, List.map_cons, List.map_nil, Option.map_some, qazz, qbaz, qbdz, qbhz, qboz,
 qbpz, qbrz, qbtz, qbuz, beq_false, decide_true, decide_false,
 Bool.false_eq_true, qcjz, List.getElem?_cons_zero, List.getElem?_cons_succ, Bool.not_true, Bool.not_false, ne_eq, not_false_eq_true]
      exact hend _ rfl rfl rfl (bad1 (.inl w1))
    · simp (maxSteps := 1000000) (disch := omega) only [dst_ld, hwk, hst, hlen, c1, e2, e3, q5, i0, i1, i2, i3, lc1, k0, k1, k2, k3, k4, k5, m1, a1, s1, eq_true w1, w2, qaaz, qabz, qacz, qaez, qaiz, qajz, qakz, qalz, qamz, qanz, evOp, qaoz, qapz, qaqz, qarz, qatz, qauz, qavz,
 ↓reduceIte, Nat.reduceEqDiff, List.map_cons, List.map_nil, Option.map_some, qazz, qbaz, qbdz, qbhz, qboz,
 qbpz, qbrz, qbtz, qbuz, beq_false, decide_true, decide_false,
 Bool.false_eq_true, qcjz, List.getElem?_cons_zero, List.getElem?_cons_succ, Bool.not_true, Bool.not_false, ne_eq, not_true_eq_false]
      exact hend _ rfl rfl rfl (bad1 (.inr (.inl w2)))
    · subst w3
      simp (maxSteps := 1000000) (disch := omega) only [dst_ld, hwk, hst, hlen, c1, e2, e3, q5, i0, i1, i2, i3, lc1, k0, k1, k2, k3, k4, k5, m1, a1, s1, eq_true w1, w2, qaaz, qabz, qacz, qaez, qaiz, qajz, qakz, qalz, qamz, qanz, evOp, qaoz, qapz, qaqz, qarz, qatz, qauz, qavz,
 ↓reduceIte, Nat.reduceEqDiff, List.map_cons, List.map_nil, Option.map_some, qazz, qbaz, qbdz, qbhz, qboz,
 qbpz, qbrz, qbtz, qbuz, qcfz, beq_false, decide_false,
 Bool.false_eq_true, qcjz, List.getElem?_cons_zero, List.getElem?_cons_succ, Bool.not_true, Bool.not_false, ne_eq, not_true_eq_false]
      exact hend _ rfl rfl rfl (bad1 (.inr (.inr (.inl rfl))))
    · subst w3
      simp (maxSteps := 1000000) (disch := omega) only [dst_ld, hwk, hst, hlen, c1, e2, e3, q5, i0, i1, i2, i3, lc1, k0, k1, k2, k3, k4, k5, m1, a1, s1, hR, eq_true w1, w2, decide_eq_false w4', qaaz, qabz, qacz, qaez, qaiz, qajz, qakz, qalz, qamz, qanz, evOp, qaoz, qapz, qaqz, qarz, qatz, qauz, qavz,
 ↓reduceIte, Nat.reduceEqDiff, List.map_cons, List.map_nil, Option.map_some, qazz, qbaz, qbdz, qbhz, qboz,
 qbpz, qbrz, qbtz, qbuz, qcfz, beq_false, decide_false,
 Bool.false_eq_true, qcjz, List.getElem?_cons_zero, List.getElem?_cons_succ, Bool.not_true, Bool.not_false, ne_eq, not_true_eq_false]
      exact hend _ rfl rfl rfl (bad1 (.inr (.inr (.inr w4'))))
    · subst w3
      simp (maxSteps := 1000000) (disch := omega) only [dst_ld, hwk, hst, hlen, c1, e2, e3, q5, i0, i1, i2, i3, lc1, k0, k1, k2, k3, k4, k5, m1, a1, s1, hR, hWk, eq_true w1, w2, decide_eq_true w4', w5, qaaz, qabz, qacz, qaez, qaiz, qajz, qakz, qalz, qamz, qanz, evOp, qaoz, qapz, qaqz, qarz, qatz, qauz, qavz,
 ↓reduceIte, Nat.reduceEqDiff, List.map_cons, List.map_nil, Option.map_some, qazz, qbdz, qbhz, qboz,
 qbpz, qbrz, qbsz, qbtz, qbuz, qcfz, beq_true, beq_false, decide_false,
 Bool.false_eq_true, qcjz, List.getElem?_cons_zero, List.getElem?_cons_succ, Bool.not_true, Bool.not_false, ne_eq, not_true_eq_false]
      exact hgood _ rfl rfl rfl (good (fun h => h.elim (fun h => h w1) fun h => h.elim w2 fun h => h.elim (fun h => by cases h) fun h => h w4') (fun h => w5 h.1))
    · subst w3
      simp (maxSteps := 1000000) (disch := omega) only [dst_ld, hwk, hst, hlen, c1, e2, e3, q5, i0, i1, i2, i3, lc1, k0, k1, k2, k3, k4, k5, m1, a1, s1, hR, hWk, eq_true w1, w2, decide_eq_true w4', w5, eq_true w6, qaaz, qabz, qacz, qaez, qaiz, qajz, qakz, qalz, qamz, qanz, evOp, qaoz, qapz, qaqz, qarz, qatz, qauz, qavz,
 ↓reduceIte, Nat.reduceEqDiff, List.map_cons, List.map_nil, Option.map_some, qazz, qbdz, qbhz, qboz,
 qbpz, qbrz, qbsz, qbtz, qbuz, qcfz, beq_true, beq_false, decide_true, decide_false,
 Bool.false_eq_true, qcjz, List.getElem?_cons_zero, List.getElem?_cons_succ, Bool.not_true, Bool.not_false, ne_eq, not_true_eq_false]
      exact hgood _ rfl rfl rfl (good (fun h => h.elim (fun h => h w1) fun h => h.elim w2 fun h => h.elim (fun h => by cases h) fun h => h w4') (fun h => h.2 w6.symm))
    · subst w3
      simp (maxSteps := 1000000) (disch := omega) only [dst_ld, hwk, hst, hlen, c1, e2, e3, q5, i0, i1, i2, i3, lc1, k0, k1, k2, k3, k4, k5, m1, a1, s1, hR, hWk, eq_true w1, w2, decide_eq_true w4', w5, w6, qaaz, qabz, qacz, qaez, qaiz, qajz, qakz, qalz, qamz, qanz, evOp, qaoz, qapz, qaqz, qarz, qatz, qauz, qavz,
 ↓reduceIte, Nat.reduceEqDiff, List.map_cons, List.map_nil, Option.map_some, qazz, qbaz, qbdz, qbhz, qboz,
 qbpz, qbrz, qbsz, qbtz, qbuz, qcfz, beq_true, beq_false, decide_true, decide_false,
 Bool.false_eq_true, qcjz, List.getElem?_cons_zero, List.getElem?_cons_succ, Bool.not_true, Bool.not_false, ne_eq, not_true_eq_false, not_false_eq_true]
      exact hend _ rfl rfl rfl (bad2 (fun h => h.elim (fun h => h w1) fun h => h.elim w2 fun h => h.elim (fun h => by cases h) fun h => h w4') ⟨w5, fun h => w6 h.symm⟩)
end Go.Ab
/-
  The laws DateBack and DateSame.
-/
namespace Go.Ab
set_option maxRecDepth 20000

end Go.Ab
/-
  Where a text can be cut, by the document.
-/
namespace Go.Ab
variable {st s : St} {e : Env}

theorem drop_get {l : List UInt8} {i j : Nat} : (l.drop i).getD j 0 = l.getD (i + j) 0 := by simp [List.getD]

end Go.Ab
/-
  Names and texts of a calendar's lines.
-/
namespace Go.Ab
variable {st s : St} {e : Env}

end Go.Ab
/-
  Lines that may be.
-/
namespace Go.Ab
variable {st s : St} {e : Env}

structure Ln where
  n : List UInt8
  pv : PV
  ps : List Fld
  v : List UInt8
def lV (L : Ln) : PV := .agg [.str L.n, L.pv, .str L.v]
structure Ln.ok (L : Ln) : Prop where
  vs : L.pv.vs 2 = some (L.ps.map fV)
  ib : ∀ n, L.pv.inB n = true
  lf : leafOk L.pv = true
  tk : tokOf L.pv = none
  l1 : L.n.length ≤ 300
  l2 : L.v.length ≤ 5000
  l3 : L.ps.length ≤ 30
  l4 : ∀ p ∈ L.ps, p.1.length + p.2.length ≤ 500

structure Ln.okR (L : Ln) : Prop where
  vs : L.pv.vs 2 = some (L.ps.map fV)
  ib : ∀ n, L.pv.inB n = true
  lf : leafOk L.pv = true
  l1 : L.n.length ≤ 1000000
  l2 : L.v.length ≤ 1000000
  l3 : L.ps.length ≤ 1000000
  l4 : ∀ p ∈ L.ps, p.1.length + p.2.length ≤ 1000000
theorem Ln.ok.r {L : Ln} (h : L.ok) : L.okR := ⟨h.vs, h.ib, h.lf, by have := h.l1; omega, by have := h.l2; omega, by have := h.l3; omega, fun p hp => by have := h.l4 p hp; omega⟩

def At (s : St) (b : Nat) (cs : List PV) : Prop := s.boxes[b]? = some cs
theorem At.alloc {b : Nat} {cs z : List PV} {T : List Bool} {Lp : List LoopS} {lo : Nat} (h : At s b cs) : At ⟨s.boxes ++ [z], T, Lp, lo⟩ b cs := by
  unfold At at *
  have := (List.getElem?_eq_some_iff.1 h).1
  show (s.boxes ++ [z])[b]? = _
  rw [List.getElem?_append_left this]; exact h
theorem At.last {z : List PV} {T : List Bool} {Lp : List LoopS} {lo : Nat} : At ⟨s.boxes ++ [z], T, Lp, lo⟩ s.boxes.length z := by
  unfold At; simp
theorem At.load {b k : Nat} {cs : List PV} {v : PV} {r : List PV} (h : At s b cs) (hk : cs.drop k = v :: r) : loadPV s false 1 (.ptr b k) = some v := by
  unfold At at h
  simp [loadPV, h, hk, readCells]
end Go.Ab
/-
  Lines that may be, by the document.
-/
namespace Go.Ab
variable {st s : St} {e : Env}

end Go.Ab
/-
  A line as a text.
-/
namespace Go.Ab
variable {st s : St} {e : Env}

end Go.Ab
/-
  A line as a text, by the document.
-/
namespace Go.Ab
variable {st s : St} {e : Env}

end Go.Ab
/-
  Lines are written, folded.
-/
namespace Go.Ab
variable {st s : St} {e : Env}

theorem Mine.alloc' {v : PV} {l : List UInt8} {B : List (List PV)} {Lp : List LoopS} {lo : Nat} (h : Mine st s v l) : Mine st ⟨B, s.toks, Lp, lo⟩ v l := ⟨h.1.move fun _ _ => rfl, h.2⟩
end Go.Ab
/-
  Lines are written, folded: the program's function.
-/
namespace Go.Ab
variable {st s : St} {e : Env}

def L0 : Ln := ⟨[], .nils, [], []⟩
end Go.Ab
/-
  Lines are written, folded: the document's function.
-/
namespace Go.Ab
variable {st s : St} {e : Env}

end Go.Ab
/-
  How big lines are; the law SheetWrites.
-/
namespace Go.Ab
variable {st s : St} {e : Env}

structure Ln.raw (L : Ln) : Prop where
  vs : L.pv.vs 2 = some (L.ps.map fV)
  ib : ∀ n, L.pv.inB n = true
  lf : leafOk L.pv = true
  tk : tokOf L.pv = none
  l1 : L.n.length ≤ 4000000000000000000
  l2 : L.v.length ≤ 4000000000000000000
  l3 : L.ps.length ≤ 9223372036854775807
  l4 : ∀ p ∈ L.ps, p.1.length ≤ 4000000000000000000 ∧ p.2.length ≤ 4000000000000000000
end Go.Ab
/-
  The law SheetWrites.
-/
namespace Go.Ab
variable {st s : St} {e : Env}

end Go.Ab
/-
  An argument of lines, opened.
-/
namespace Go.Ab

def strs2 (P : Program) (t : TypeId) : Bool := match fieldsT P t with
  | some fs => fs.toList.map (fun f => isStrT P f.type) == [true, true]
  | none => false
theorem HasTy.two {P : Program} {t : TypeId} {q : PV} (h : HasTy P t q) (hs0 : strs2 P t = true) : ∃ f : Fld, q = fV f ∧ f.1.length ≤ reachBytes ∧ f.2.length ≤ reachBytes := by
  unfold strs2 fieldsT at hs0
  obtain ⟨fs, ht⟩ : ∃ fs, P.underlying t = some (.struct fs) := by
    cases ht : P.underlying t with
    | none => simp [ht] at hs0
    | some d => cases d <;> first | exact ⟨_, rfl⟩ | (simp [ht] at hs0; done)
  simp only [ht, beq_iff_eq] at hs0
  obtain ⟨fl⟩ := fs
  have hlen : fl.length = 2 := by simpa using congrArg List.length hs0
  match fl, hlen, hs0 with
  | [f0, f1], _, hs0 =>
    simp only [List.map_cons, List.map_nil, List.cons.injEq, and_true] at hs0
    have hs := And.intro (isStrT_eq hs0.1) (isStrT_eq hs0.2)
    cases h with
    | agg xs ht' hl hx =>
      rw [ht] at ht'; cases ht'
      match xs, hl with
      | [x0, x1], _ =>
        obtain ⟨a, rfl, ha⟩ := HasTy.strR (hx 0 f0 x0 rfl rfl) hs.1
        obtain ⟨b, rfl, hb⟩ := HasTy.strR (hx 1 f1 x1 rfl rfl) hs.2
        exact ⟨(a, b), rfl, ha, hb⟩
    | bool _ ht' => rw [ht] at ht'; cases ht'
    | int _ ht' => rw [ht] at ht'; cases ht'
    | u8 _ ht' => rw [ht] at ht'; cases ht'
    | str _ ht' => rw [ht] at ht'; cases ht'
    | nils ht' => rw [ht] at ht'; cases ht'
    | bys _ ht' => rw [ht] at ht'; cases ht'
    | sl _ ht' => rw [ht] at ht'; cases ht'
theorem HasTy.twos {P : Program} {t e : TypeId} {q : PV} (h : HasTy P t q) (ht : P.underlying t = some (.slice e)) (hc : P.cellsOf e = 2) (hs : strs2 P e = true) :
    ∃ l : List Fld, q.vs 2 = some (l.map fV) ∧ (∀ f ∈ l, f.1.length ≤ reachBytes ∧ f.2.length ≤ reachBytes) ∧ l.length ≤ maxLen ∧ (∀ n, q.inB n = true) ∧ leafOk q = true ∧ tokOf q = none ∧ q.cells = [q] := by
  cases h with
  | nils ht' => exact ⟨[], rfl, fun f h => (by cases h), by simp, fun n => rfl, rfl, rfl, rfl⟩
  | bys _ ht' he' => rw [ht] at ht'; cases ht'; simp [strs2, fieldsT, he'] at hs
  | sl xs ht' he' hl hx =>
    rw [ht] at ht'; cases ht'
    have : ∀ xs : List PV, (∀ x ∈ xs, HasTy P e x) → ∃ l : List Fld, xs = l.map fV ∧ ∀ f ∈ l, f.1.length ≤ reachBytes ∧ f.2.length ≤ reachBytes := by
      intro xs
      induction xs with
      | nil => intro _; exact ⟨[], rfl, fun f h => (by cases h)⟩
      | cons x r ih =>
        intro hx
        obtain ⟨f, rfl, hf⟩ := HasTy.two (hx x (by simp)) hs
        obtain ⟨l, rfl, hl⟩ := ih (fun y hy => hx y (by simp [hy]))
        refine ⟨f :: l, rfl, fun g hg => ?_⟩
        rcases List.mem_cons.1 hg with rfl | hg
        · exact hf
        · exact hl g hg
    obtain ⟨l, rfl, hl2⟩ := this xs hx
    exact ⟨l, by simp [PV.vs, hc], hl2, by simpa using hl, fun n => rfl, rfl, rfl, rfl⟩
  | bool _ ht' => rw [ht] at ht'; cases ht'
  | int _ ht' => rw [ht] at ht'; cases ht'
  | u8 _ ht' => rw [ht] at ht'; cases ht'
  | str _ ht' => rw [ht] at ht'; cases ht'
  | agg _ ht' => rw [ht] at ht'; cases ht'

def lineT (P : Program) (t ep : TypeId) : Bool := match fieldsT P t with
  | some fs => match fs.toList with
    | [f0, f1, f2] => isStrT P f0.type && (sliceElem P f1.type == some ep) && isStrT P f2.type && strs2 P ep && (P.cellsOf ep == 2)
    | _ => false
  | none => false
theorem HasTy.line {P : Program} {t ep : TypeId} {q : PV} (h : HasTy P t q) (hs0 : lineT P t ep = true) : ∃ L : Ln, q = lV L ∧ L.raw := by
  unfold lineT fieldsT at hs0
  obtain ⟨fs, ht⟩ : ∃ fs, P.underlying t = some (.struct fs) := by
    cases ht : P.underlying t with
    | none => simp [ht] at hs0
    | some d => cases d <;> first | exact ⟨_, rfl⟩ | (simp [ht] at hs0; done)
  simp only [ht] at hs0
  obtain ⟨fl⟩ := fs
  match fl, hs0 with
  | [f0, f1, f2], hs0 =>
    simp only [Bool.and_eq_true, beq_iff_eq] at hs0
    obtain ⟨⟨⟨⟨s0, s1⟩, s2⟩, s3⟩, s4⟩ := hs0
    have hu1 : P.underlying f1.type = some (.slice ep) := by
      unfold sliceElem at s1
      split at s1
      · rename_i e he; rw [he]; cases s1; rfl
      · cases s1
    cases h with
    | agg xs ht' hl hx =>
      rw [ht] at ht'; cases ht'
      match xs, hl with
      | [x0, x1, x2], _ =>
        obtain ⟨a, rfl, ha⟩ := HasTy.strR (hx 0 f0 x0 rfl rfl) (isStrT_eq s0)
        obtain ⟨l, l1, l2, l3, l4, l5, l6, l7⟩ := HasTy.twos (hx 1 f1 x1 rfl rfl) hu1 s4 s3
        obtain ⟨b, rfl, hb⟩ := HasTy.strR (hx 2 f2 x2 rfl rfl) (isStrT_eq s2)
        have hR : reachBytes ≤ 4000000000000000000 := by decide
        refine ⟨⟨a, x1, l, b⟩, ?_, ⟨l1, l4, l5, l6, Nat.le_trans ha hR, Nat.le_trans hb hR, Nat.le_trans l3 (by decide), fun p hp => ⟨Nat.le_trans (l2 p hp).1 hR, Nat.le_trans (l2 p hp).2 hR⟩⟩⟩
        simp only [lV, flat, List.flatMap_cons, List.flatMap_nil, l7]
        rfl
    | bool _ ht' => rw [ht] at ht'; cases ht'
    | int _ ht' => rw [ht] at ht'; cases ht'
    | u8 _ ht' => rw [ht] at ht'; cases ht'
    | str _ ht' => rw [ht] at ht'; cases ht'
    | nils ht' => rw [ht] at ht'; cases ht'
    | bys _ ht' => rw [ht] at ht'; cases ht'
    | sl _ ht' => rw [ht] at ht'; cases ht'
theorem HasTy.lines {P : Program} {t e ep : TypeId} {q : PV} (h : HasTy P t q) (ht : P.underlying t = some (.slice e)) (hc : P.cellsOf e = 3) (hs : lineT P e ep = true) :
    ∃ l : List Ln, q.vs 3 = some (l.map lV) ∧ (∀ L ∈ l, L.raw) ∧ l.length ≤ 9223372036854775807 := by
  cases h with
  | nils ht' => exact ⟨[], rfl, fun f h => (by cases h), by simp⟩
  | bys _ ht' he' => rw [ht] at ht'; cases ht'; simp [lineT, fieldsT, he'] at hs
  | sl xs ht' he' hl hx =>
    rw [ht] at ht'; cases ht'
    have : ∀ xs : List PV, (∀ x ∈ xs, HasTy P e x) → ∃ l : List Ln, xs = l.map lV ∧ ∀ L ∈ l, L.raw := by
      intro xs
      induction xs with
      | nil => intro _; exact ⟨[], rfl, fun f h => (by cases h)⟩
      | cons x r ih =>
        intro hx
        obtain ⟨f, rfl, hf⟩ := HasTy.line (hx x (by simp)) hs
        obtain ⟨l, rfl, hl⟩ := ih (fun y hy => hx y (by simp [hy]))
        refine ⟨f :: l, rfl, fun g hg => ?_⟩
        rcases List.mem_cons.1 hg with rfl | hg
        · exact hf
        · exact hl g hg
    obtain ⟨l, rfl, hl2⟩ := this xs hx
    exact ⟨l, by simp [PV.vs, hc], hl2, Nat.le_trans (by simpa using hl) (by decide)⟩
  | bool _ ht' => rw [ht] at ht'; cases ht'
  | int _ ht' => rw [ht] at ht'; cases ht'
  | u8 _ ht' => rw [ht] at ht'; cases ht'
  | str _ ht' => rw [ht] at ht'; cases ht'
  | agg _ ht' => rw [ht] at ht'; cases ht'
end Go.Ab
/-
  Lines' folds are undone: bytes are replaced.
-/
namespace Go.Ab
set_option maxRecDepth 20000
variable {st s : St} {e : Env}

end Go.Ab
/-
  Lines' folds are undone, walked.
-/
namespace Go.Ab
set_option maxRecDepth 20000
variable {st s : St} {e : Env}

end Go.Ab
/-
  A line is read: the parts of it.
-/
namespace Go.Ab
set_option maxRecDepth 20000
variable {st s : St} {e : Env}

end Go.Ab
/-
  Texts of points: put together, cut.
-/
namespace Go.Ab

theorem accP_congr {l m : List UInt8} {p : Nat} : ∀ k, (∀ j, j ≤ k → l.getD j 0 = m.getD j 0) → accP l p k = accP m p k := by
  intro k
  induction k with
  | zero => intro _; rfl
  | succ k ih =>
    intro h
    simp only [accP]
    rw [ih (fun j hj => h j (by omega)), h (k + 1) (by omega)]
theorem next_congr {l m : List UInt8} {p n : Nat} (h : nextOf l = some (p, n)) (hl : n ≤ m.length) (he : ∀ j, j < n → m.getD j 0 = l.getD j 0) : nextOf m = some (p, n) := by
  obtain ⟨h1, h2, -⟩ := next_pos h
  have h0 := he 0 (by omega)
  have hne : m ≠ [] := by rintro rfl; simp at hl; omega
  by_cases hc : (l.getD 0 0).toNat < 128
  · have h' := h
    unfold nextOf at h'
    split at h'
    · cases h'
    · cases h'
      unfold nextOf
      rw [if_neg hne, h0, if_pos hc]
  · obtain ⟨k1, k2, k3⟩ := next_succ hc h
    have hc2 : ¬ (m.getD 0 0).toNat < 128 := by rw [h0]; exact hc
    have hq : qN m n = qN l n := by
      unfold qN
      rw [h0]
      exact accP_congr _ (fun j hj => he j (by omega))
    have ht : m.take n = l.take n := by
      apply List.ext_getElem
      · simp; omega
      · intro i h1 h2
        simp only [List.length_take] at h1 h2
        have := he i (by omega)
        simp only [List.getElem_take]
        simpa [List.getD, show i < m.length by omega, show i < l.length by omega] using this
    have hs : succN m n := ⟨by rw [hq]; exact k3.1, by rw [hq, ht]; exact k3.2⟩
    have e1 := succ_next k1 hl hc2 hs
    have e2 := succ_next k1 k2 hc k3
    rw [h] at e2
    cases e2
    rw [e1, hq]

inductive Vd : List UInt8 → Prop
  | nil : Vd []
  | cons {l : List UInt8} {p n : Nat} (h : nextOf l = some (p, n)) (hr : Vd (l.drop n)) : Vd l

theorem Vd.app {a b : List UInt8} (ha : Vd a) (hb : Vd b) : Vd (a ++ b) := by
  induction ha with
  | nil => exact hb
  | @cons l p n h hr ih =>
    obtain ⟨n1, n2, -⟩ := next_pos h
    refine .cons (p := p) (n := n) (next_congr h (by simp; omega) fun j hj => ?_) ?_
    · simp only [List.getD]; rw [List.getElem?_append_left (by omega)]
    · rw [List.drop_append_of_le_length n2]; exact ih
theorem Vd.cut {l : List UInt8} (h : Vd l) : ∀ c, c ≤ l.length → (c = l.length ∨ ¬ isCont (l.getD c 0)) → Vd (l.take c) ∧ Vd (l.drop c) := by
  induction h with
  | nil => intro c hc _; simp at hc; subst hc; exact ⟨.nil, .nil⟩
  | @cons l p n h hr ih =>
    intro c hc hcc
    obtain ⟨n1, n2, -⟩ := next_pos h
    obtain ⟨-, c2⟩ := next_cont h
    by_cases h0 : c = 0
    · subst h0; exact ⟨.nil, .cons h hr⟩
    · have hnc : n ≤ c := by
        rcases hcc with hcc | hcc
        · omega
        · by_cases hlt : c < n
          · exact absurd (c2 c (by omega) hlt) hcc
          · omega
      have h3 := ih (c - n) (by simp; omega) (by
        rcases hcc with hcc | hcc
        · exact .inl (by simp; omega)
        · right; rw [drop_get, show n + (c - n) = c by omega]; exact hcc)
      have e1 : (l.drop n).drop (c - n) = l.drop c := by rw [List.drop_drop]; congr 1; omega
      have e2 : (l.take c).drop n = (l.drop n).take (c - n) := by rw [List.drop_take]
      refine ⟨.cons (p := p) (n := n) (next_congr h (by simp; omega) fun j hj => ?_) (by rw [e2]; exact h3.1), by rw [← e1]; exact h3.2⟩
      simp [List.getD, show j < c by omega]
theorem Vd.ascii : ∀ {l : List UInt8}, (∀ c ∈ l, c.toNat < 128) → Vd l := by
  intro l
  induction l with
  | nil => intro _; exact .nil
  | cons c r ih =>
    intro h
    refine .cons (p := c.toNat) (n := 1) ?_ (ih (fun d hd => h d (by simp [hd])))
    have := h c (by simp)
    unfold nextOf
    simp [this]
end Go.Ab
/-
  The pieces of a calendar's line: the plain law.
-/
namespace Go.Ab

def Fine (l : List UInt8) : Prop := Vd l ∧ ∀ c ∈ l, c ≠ 13
theorem Fine.app {a b : List UInt8} (ha : Fine a) (hb : Fine b) : Fine (a ++ b) := ⟨ha.1.app hb.1, fun c hc => by
  rcases List.mem_append.1 hc with h | h
  · exact ha.2 c h
  · exact hb.2 c h⟩
theorem Fine.one {c : UInt8} (h : c.toNat < 128) (h2 : c ≠ 13) : Fine [c] := ⟨Vd.ascii fun d hd => by simp at hd; subst hd; exact h, fun d hd => by simp at hd; subst hd; exact h2⟩
theorem Fine.nil : Fine [] := ⟨.nil, fun c h => by cases h⟩

end Go.Ab
/-
  A line's text is read: the plain law.
-/
namespace Go.Ab

abbrev LnD := Bs × List Fld × Bs
end Go.Ab
/-
  A pair in bytes.
-/
namespace Go.Ab
variable {st : St} {e : Env}

end Go.Ab
/-
  The document's lines.
-/
namespace Go.Ab
variable {st : St} {e : Env}

def place : Nat → List (List UInt8 × Bool) → List (Nat × List UInt8 × Bool)
  | _, [] => []
  | a, (b, w) :: r => (a, b, w) :: place (a + b.length + 2) r

def full (q : Nat × List UInt8 × Bool) : List UInt8 := q.2.1 ++ (if q.2.2 then [13, 10] else [])

end Go.Ab
/-
  The lines of written lines: the plain law.
-/
namespace Go.Ab

end Go.Ab
/-
  Lines' folds are undone, lines are read: the plain law.
-/
namespace Go.Ab

def ofLn (L : Ln) : LnD := (L.n, L.ps, L.v)
end Go.Ab
/-
  A line's text is read, walked.
-/
namespace Go.Ab
set_option maxRecDepth 20000
variable {st s : St} {e : Env}

structure Wrote (S S' : St) (b : Nat) (cs : List PV) : Prop where
  at_ : At S' b cs
  ot : ∀ c ds, c ≠ b → At S c ds → At S' c ds
  kp : ∀ st, Kept st S → st.boxes.length ≤ b → Kept st S'
  tk : S'.toks = S.toks
  bl : S'.boxes.length = S.boxes.length
  lp : S'.loops = S.loops
  lw : S'.low ≤ S.low
theorem At.lt {b : Nat} {cs : List PV} (h : At s b cs) : b < s.boxes.length := (List.getElem?_eq_some_iff.1 h).1
theorem At.bx {s' : St} {b : Nat} {cs : List PV} (h : At s b cs) (hb : s'.boxes = s.boxes) : At s' b cs := by unfold At at *; rw [hb]; exact h
theorem wrote_set {S : St} {b lo : Nat} {cs ds : List PV} (h : At S b cs) (hlo : lo = S.low ∨ lo = min S.low b) : Wrote S ⟨S.boxes.set b ds, S.toks, S.loops, lo⟩ b ds := by
  have hlt := h.lt
  refine ⟨by simp [At, hlt], fun c es hc hA => by simp only [At] at *; rw [List.getElem?_set_ne (Ne.symm hc)]; exact hA, fun st hk hb => ?_, rfl, by simp, rfl, by rcases hlo with rfl | rfl <;> simp only <;> omega⟩
  refine hk.of (by simp [List.take_set, List.set_eq_of_length_le (show (List.take st.boxes.length S.boxes).length ≤ b by simp; omega)]) rfl ?_ (fun i _ => rfl) hk.tl
  have := hk.lw
  simp only
  rcases hlo with rfl | rfl <;> omega
theorem At.st1 {S : St} {b off : Nat} {cs : List PV} {v : PV} (h : At S b cs) (hv : Leaf v) (hb : v.inB (b + 1) = true) (ho : off < cs.length) : ∃ S', storePV S 1 (.ptr b off) v = some S' ∧ Wrote S S' b (cs.set off v) := by
  refine ⟨_, ?_, wrote_set (ds := cs.set off v) (lo := if hasTok v.cells then min S.low b else S.low) h (by split <;> simp)⟩
  unfold At at h
  simp only [storePV, h, hv.1, setCells]
  rw [if_pos ⟨rfl, by omega, hb, by simp [hv.2]⟩]
theorem At.st2 {S : St} {b : Nat} {c0 c1 v0 v1 : PV} (h : At S b [c0, c1]) (l0 : leafOk v0 = true) (l1 : leafOk v1 = true) (i0 : v0.inB (b + 1) = true) (i1 : v1.inB (b + 1) = true) : ∃ S', storePV S 2 (.ptr b 0) (.agg [v0, v1]) = some S' ∧ Wrote S S' b [v0, v1] := by
  refine ⟨_, ?_, wrote_set (ds := [v0, v1]) (lo := if hasTok [v0, v1] then min S.low b else S.low) h (by split <;> simp)⟩
  unfold At at h
  simp [storePV, h, PV.cells, setCells, PV.inB, PV.inB.inBAll, l0, l1, i0, i1]; rfl
end Go.Ab
/-
  Lines are read, walked.
-/
namespace Go.Ab
set_option maxRecDepth 20000
variable {st s : St} {e : Env}

theorem At.take {X : St} {b n : Nat} {cs : List PV} (h : At s b cs) (hb : b < n) (hX : X.boxes = s.boxes.take n) : At X b cs := by
  unfold At at *; rw [hX, List.getElem?_take, if_pos hb]; exact h
def stL (st : St) (rs : List LoopS) : St := ⟨st.boxes, st.toks, st.loops ++ rs, st.low⟩
end Go.Ab
/-
  Lines are read, walked.
-/
namespace Go.Ab
set_option maxRecDepth 20000
variable {st s : St} {e : Env}

theorem Kept.swap {S : St} {r r' : LoopS} (h : Kept (stL st [r]) S) : Kept (stL st [r']) { S with loops := S.loops.set st.loops.length r' } := by
  refine ⟨h.bx, ?_, h.lw, h.tk⟩
  have := h.lp
  simp only [stL] at this ⊢
  rw [this, set_app0]
end Go.Ab
/-
  A line's text is read by the document, walked.
-/
namespace Go.Ab
set_option maxRecDepth 20000
variable {st s : St} {e : Env}

end Go.Ab
/-
  Lines are read by the document, walked; equal lines.
-/
namespace Go.Ab
set_option maxRecDepth 20000
variable {st s : St} {e : Env}

end Go.Ab
/-
  The sheet's values: escaped, unescaped; the program's and the document's answers.
-/
namespace Go.Ab
variable {st : St} {e : Env}

end Go.Ab
/-
  Equal lines; what must come of fixed calls.
-/
namespace Go.Ab
set_option maxRecDepth 20000
variable {st s : St} {e : Env}

end Go.Ab
/-
  What the laws of lines' reading ask: plain.
-/
namespace Go.Ab
set_option maxRecDepth 20000
variable {st s : St} {e : Env}

end Go.Ab
/-
  Trees: plain.
-/
namespace Go.Ab

inductive TD where
  | mk (n : Bs) (ls : List LnD) (cs : List TD)
def T0 : TD := .mk [] [] []
def TD.n : TD → Bs
  | .mk n _ _ => n
def TD.ls : TD → List LnD
  | .mk _ ls _ => ls
def TD.cs : TD → List TD
  | .mk _ _ cs => cs
mutual
def TD.deep : TD → Nat
  | .mk _ _ cs => 1 + deepL cs
def deepL : List TD → Nat
  | [] => 0
  | c :: r => max c.deep (deepL r)
end
def begS : Bs := [66, 69, 71, 73, 78]
def endS : Bs := [69, 78, 68]
theorem getD_mem {α : Type} {d : α} {l : List α} {i : Nat} (h : i < l.length) : l.getD i d ∈ l := by simp [List.getD, h]

def Ln.good (L : Ln) : Prop := L.pv.vs 2 = some (L.ps.map fV) ∧ tokOf L.pv = none
def okD (d : LnD) : Prop := d.1.length ≤ 300 ∧ d.2.2.length ≤ 5000 ∧ d.2.1.length ≤ 30 ∧ ∀ p ∈ d.2.1, p.1.length + p.2.length ≤ 500
theorem vs_leaf {v : PV} {e : Nat} {xs : List PV} (h : v.vs e = some xs) : leafOk v = true ∧ ∀ n, v.inB n = true := by
  rcases vs_cases h with ⟨rfl, _⟩ | ⟨t, rfl⟩ <;> exact ⟨rfl, fun _ => rfl⟩
theorem Ln.good.ok {L : Ln} (h : L.good) (hb : okD (ofLn L)) : L.ok := ⟨h.1, (vs_leaf h.1).2, (vs_leaf h.1).1, h.2, hb.1, hb.2.1, hb.2.2.1, hb.2.2.2⟩
inductive IsT : TD → PV → Prop
  | mk {n : Bs} {ls : List LnD} {cs : List TD} {lv cv : PV} {Ls : List Ln} {ys : List PV} (h1 : lv.vs 3 = some (Ls.map lV)) (h2 : Ls.map ofLn = ls) (h3 : ∀ L ∈ Ls, L.good) (h5 : cv.vs 3 = some ys) (h6 : ys.length = cs.length) (h7 : ∀ i, i < cs.length → IsT (cs.getD i T0) (ys.getD i .undef)) : IsT (.mk n ls cs) (.agg [.str n, lv, cv])
inductive TD.sm : TD → Prop
  | mk {n : Bs} {ls : List LnD} {cs : List TD} (h1 : n.length ≤ 5000) (h2 : ls.length ≤ 100000) (h3 : ∀ d ∈ ls, okD d) (h4 : cs.length ≤ 100000) (h5 : ∀ c ∈ cs, c.sm) : TD.sm (.mk n ls cs)
theorem IsT.inv {n : Bs} {ls : List LnD} {cs : List TD} {v : PV} (h : IsT (.mk n ls cs) v) : ∃ (lv cv : PV) (Ls : List Ln) (ys : List PV), v = .agg [.str n, lv, cv] ∧ lv.vs 3 = some (Ls.map lV) ∧ Ls.map ofLn = ls ∧ (∀ L ∈ Ls, L.good) ∧ cv.vs 3 = some ys ∧ ys.length = cs.length ∧ ∀ i, i < cs.length → IsT (cs.getD i T0) (ys.getD i .undef) := by
  cases h with
  | mk h1 h2 h3 h5 h6 h7 => exact ⟨_, _, _, _, rfl, h1, h2, h3, h5, h6, h7⟩
theorem IsT.agg {T : TD} {v : PV} (h : IsT T v) : ∃ lv cv, v = .agg [.str T.n, lv, cv] ∧ (leafOk lv = true ∧ ∀ n, lv.inB n = true) ∧ (leafOk cv = true ∧ ∀ n, cv.inB n = true) := by
  obtain ⟨n, ls, cs⟩ := T
  obtain ⟨lv, cv, Ls, ys, rfl, h1, h2, h3, h5, -, -⟩ := h.inv
  exact ⟨lv, cv, rfl, vs_leaf h1, vs_leaf h5⟩
mutual
def TD.lines : TD → List LnD
  | .mk n ls cs => (begS, [], n) :: (ls ++ linesL cs) ++ [(endS, [], n)]
def linesL : List TD → List LnD
  | [] => []
  | c :: r => c.lines ++ linesL r
end
end Go.Ab
/-
  Trees: small functions, equal trees, how many there are.
-/
namespace Go.Ab
set_option maxRecDepth 20000
variable {st s : St} {e : Env}

end Go.Ab
/-
  Marks of a mail's way: which may be, and how they are written.
-/
namespace Go.Ab
set_option maxRecDepth 20000
variable {st s : St} {e : Env}

structure TM where
  (fr by_ id for_ : Bs) (at_ sh : Int)
def domB (d : Bs) : Bool := decide (d.length ≤ 253) && partsB 46 labB d
def idB (l : Bs) : Bool := l.all alnC && decide (1 ≤ l.length) && decide (l.length ≤ 64)
instance okP_dec (t z : Int) : Decidable (okP t z) := by unfold okP; infer_instance
def forB (s : Bs) : Bool := decide (s = []) || personB s
def rightT (m : TM) : Bool := decide (okP m.at_ m.sh) && domB m.fr && domB m.by_ && idB m.id && forB m.for_
theorem date25 {t z : Int} (h : okP t z) : ∃ X : Bs, ∃ L y m d : Nat, X = dateT y m d ((L / 86400 + 3) % 7) (L % 86400) z ∧ t + z = (L : Int) ∧ Ci (L / 86400) y m d := by
  obtain ⟨L, hL⟩ : ∃ L : Nat, t + z = (L : Int) := ⟨(t + z).toNat, by have := h.2.2; omega⟩
  obtain ⟨y, m, dd, hci⟩ := ci_ex (n := L / 86400) (by have := h.2.2; omega)
  exact ⟨_, L, y, m, dd, rfl, hL, hci⟩
noncomputable def datX (t z : Int) : Bs := if h : okP t z then Classical.choose (date25 h) else []
theorem datX_date {t z : Int} (h : okP t z) : ∃ L y m d : Nat, datX t z = dateT y m d ((L / 86400 + 3) % 7) (L % 86400) z ∧ t + z = (L : Int) ∧ Ci (L / 86400) y m d := by
  have := Classical.choose_spec (date25 h)
  unfold datX; rw [dif_pos h]; exact this
def sFrom : Bs := [102, 114, 111, 109, 32]
def sBy : Bs := [32, 98, 121, 32]
def sWith : Bs := [32, 119, 105, 116, 104, 32, 69, 83, 77, 84, 80, 32, 105, 100, 32]
def sFor : Bs := [32, 102, 111, 114, 32, 60]
def forT (p : Bs) : Bs := if p = [] then [] else sFor ++ p ++ [62]
def headT (m : TM) : Bs := sFrom ++ m.fr ++ sBy ++ m.by_ ++ sWith ++ m.id ++ forT m.for_
noncomputable def textT (m : TM) : Bs := headT m ++ [59, 32] ++ datX m.at_ m.sh
noncomputable def writeT (m : TM) : Bs × Int := if rightT m = true then (textT m, 0) else ([], 3)

theorem datX_ok {t z : Int} (h : okP t z) : (datX t z).length = 31 ∧ parseD (datX t z) = (t, z, 0) := by
  obtain ⟨L, y, m, d, h1, h2, h3⟩ := datX_date h
  rw [h1]
  exact ⟨date_len (Nat.mod_lt _ (by omega)) h3.m1 h3.m2, parse_date h h2 h3⟩
theorem datX_40 {t z : Int} (h : okP t z) : ∀ c ∈ datX t z, c ≠ 40 := by
  obtain ⟨L, y, m, d, h1, h2, h3⟩ := datX_date h
  rw [h1]
  exact date_cl (Nat.mod_lt _ (by omega)) h3.m2
theorem datX_32 {t z : Int} (h : okP t z) : parseD (32 :: datX t z) = (t, z, 0) := by
  have hp := (datX_ok h).2
  have no := datX_40 h
  have b1 : bareT (datX t z) = datX t z := by
    refine bare_no ?_
    rcases chr_split 40 (datX t z) with h | ⟨n, r, hx, _⟩
    · exact h.2
    · exact absurd rfl (no 40 (by rw [hx]; simp))
  have b2 : bareT (32 :: datX t z) = 32 :: datX t z := by
    refine bare_no ?_
    rcases chr_split 40 (32 :: datX t z) with h | ⟨n, r, hx, _⟩
    · exact h.2
    · have : (40 : UInt8) ∈ 32 :: datX t z := by rw [hx]; simp
      rcases List.mem_cons.1 this with h | h
      · cases h
      · exact absurd rfl (no 40 h)
  unfold parseD at hp ⊢
  rw [b2, words_bl0 (.inl rfl)]
  rw [b1] at hp
  exact hp
theorem print_spec {t z : Int} : call prog (.fn 256 []) [.int .i64 t, .int .i64 z] st = some (.tup [.str (datX t z), .int .i64 (if okP t z then 0 else 110)], st) := by
  by_cases h : okP t z
  · obtain ⟨L, y, m, d, h1, h2, h3⟩ := datX_date h
    rw [h1, if_pos h]; exact Print_good (st := st) h h2 h3
  · have := Print_bad (st := st) h
    unfold datX; rw [dif_neg h, if_neg h]; exact this
theorem rightA_dom {d : Bs} : rightA ([], [120], d) = domB d := by
  have h1 : partsB 46 atomB [120] = true := by decide
  have h2 : nmA [] = true := by decide
  simp only [rightA, domB, h1, h2, Bool.and_true]
  simp

theorem tlower_spec {s : Bs} (h : s.length ≤ 1000000) : call prog (.fn 381 []) [.str s] st = some (.str (lowOf s), st) := by
  rw [← lower_spec (st := st) h, call_fn prog_381, call_fn prog_167]
  rfl
theorem tDomain_spec {d : Bs} (h : d.length ≤ 100000000) : call prog (.fn 382 []) [.str d] st = some (.bool (domB d), st) := by
  refine call_of_W prog_382 ?_
  unfold F_trace_isDomain; dsimp only
  have hR := fun S : St => Right_spec (st := S) (a := ([], [120], d)) ⟨by simp, by simp, h⟩
  simp only [aV] at hR
  have hb : buildCells [.str [], .str [], .str []] [(1, 1, .str [120]), (2, 1, .str d)] = some [.str [], .str [120], .str d] := by
    simp [buildCells, PV.cells, setCells, leafOk]
  simp (maxSteps := 1000000) (disch := omega) only [hb, hR, qaaz, qabz, qaiz, qajz, qalz, evOp, qaoz, qapz, qaqz, qarz, qatz, qavz,
 ↓reduceIte, List.append_nil, List.map_cons, List.map_nil, qawz, Option.map_some, qazz, qblz, reduceCtorEq]
  exact retB rfl Kept.start rightA_dom
theorem tPerson_spec {l : Bs} (hl : l.length ≤ 1000000) : call prog (.fn 384 []) [.str l] st = some (.bool (personB l), st) := by
  refine call_of_W prog_384 ?_
  unfold F_trace_isPerson; dsimp only
  have hP := fun S : St => aPlain_spec (st := S) (s := l) (by omega)
  have hN := fun S : St => Normal_spec (st := S) (plain_ok hl)
  obtain ⟨p, hp⟩ : ∃ p, p = plainA l := ⟨_, rfl⟩
  have hnl : p.2 = 0 → normalA p.1 = lowOf l := fun h => by rw [hp] at h ⊢; exact normal_low h
  have hb : personB l = (decide (p.2 = 0) && decide (lowOf l = l)) := by rw [hp]; rfl
  rw [← hp] at hP hN
  clear hp
  obtain ⟨⟨n, a, d⟩, c⟩ := p
  simp only [aV] at hP hN hnl hb
  by_cases h0 : c = 0
  · rw [hnl h0] at hN
    by_cases h1 : lowOf l = l
    · simp (maxSteps := 1000000) (disch := omega) only [hP, allocPV, st_aa, ld_aa, eq_true h0, hN, eq_true h1, qaaz, qabz, qaiz, qajz, qakz, qalz, qamz, qanz, evOp, qaoz, qapz, qaqz, qarz, qatz, qauz, qavz,
 ↓reduceIte, Nat.reduceEqDiff, List.append_nil, List.map_cons, List.map_nil, qawz, Option.map_some, qazz, qblz, qbtz, qcbz, beq_true, decide_true, qcjz, List.getElem?_cons_zero, List.getElem?_cons_succ, reduceCtorEq]
      exact retB rfl Kept.box1 (by rw [hb]; simp [h0, h1])
    · simp (maxSteps := 1000000) (disch := omega) only [hP, allocPV, st_aa, ld_aa, eq_true h0, hN, h1, qaaz, qabz, qaiz, qajz, qakz, qalz, qamz, qanz, evOp, qaoz, qapz, qaqz, qarz, qatz, qauz, qavz,
 ↓reduceIte, Nat.reduceEqDiff, List.append_nil, List.map_cons, List.map_nil, qawz, Option.map_some, qazz, qblz, qbtz, qcbz, beq_true, decide_true, decide_false,
 qcjz, List.getElem?_cons_zero, List.getElem?_cons_succ, reduceCtorEq]
      exact retB rfl Kept.box1 (by rw [hb]; simp [h0, h1])
  · simp (maxSteps := 1000000) (disch := omega) only [hP, allocPV, st_aa, h0, qaaz, qabz, qaiz, qajz, qakz, qalz, qamz, qanz, evOp, qaoz, qapz, qaqz, qarz, qatz, qauz, qavz,
 ↓reduceIte, Nat.reduceEqDiff, List.append_nil, List.map_cons, List.map_nil, qawz, Option.map_some, qazz, qblz, qbtz, beq_true, decide_false,
 Bool.false_eq_true, qcjz, List.getElem?_cons_zero, List.getElem?_cons_succ, reduceCtorEq]
    exact retB rfl Kept.box1 (by rw [hb]; simp [h0])

theorem tID_spec {l : Bs} (hl : l.length ≤ 9000000000000000000) : call prog (.fn 383 []) [.str l] st = some (.bool (idB l), st) := by
  refine call_of_W prog_383 ?_
  unfold F_trace_isID; dsimp only
  simp (maxSteps := 1000000) (disch := omega) only [len_s, qaaz, qabz, qadz, qajz, qalz, evOp, qaoz, qapz, qarz, qatz, qavz,
 ↓reduceIte, List.append_nil, qawz, Option.map_some, qazz, reduceCtorEq]
  obtain ⟨I, hI⟩ : ∃ I : Nat → Env → St → Prop, I = fun k e s' => ∃ (i : Nat), k = l.length - i ∧ i ≤ l.length ∧ Kept st s' ∧ (∀ j, j < i → alnC (l.getD j 0) = true) ∧ e 0 = .str l ∧ e 6 = .int .i64 (l.length : Int) ∧ e 7 = .int .i64 (i : Int) := ⟨_, rfl⟩
  refine W_loop I ?_ (n := l.length) (by
    rw [hI]
    exact ⟨0, rfl, by omega, Kept.start, fun j h => by omega, rfl, rfl, rfl⟩)
  intro k e s' hh
  rw [hI] at hh
  obtain ⟨i, rfl, hi, hk, hall, h0, h6, h7⟩ := hh
  by_cases hlt : i < l.length
  · obtain ⟨c, hc⟩ : ∃ c, c = l.getD i 0 := ⟨_, rfl⟩
    have bad : alnC c = false → ∀ E : Env, E 2 = .bool false → ∃ rv, resOf E s' [.tmp 2] = some rv ∧ leave st s' rv = (.bool (idB l), st) := fun h E k2 =>
      retB k2 hk (by simp only [idB, all_bad (p := alnC) hlt (by rw [← hc]; exact h), Bool.false_and])
    have next : alnC c = true → ∀ E : Env, E 0 = .str l → E 6 = .int .i64 (l.length : Int) → E 7 = .int .i64 ((i + 1 : Nat) : Int) → ∃ m, m < l.length - i ∧ I m E s' := fun h E k0 k6 k7 =>
      ⟨l.length - (i + 1), by omega, by
        rw [hI]
        refine ⟨i + 1, rfl, by omega, hk, fun j hj => ?_, k0, k6, k7⟩
        by_cases hji : j = i
        · subst hji; rw [← hc]; exact h
        · exact hall j (by omega)⟩
    by_cases q1 : 97 ≤ c
    · by_cases q2 : c ≤ 122
      · simp (maxSteps := 1000000) (disch := omega) only [h0, h6, h7, hlt, idx_s, ← hc, q1, q2, add_n, loopQ_normal, qaaz, qabz, qacz, qadz, qaez, qajz, qakz, qalz, qamz, qanz, evOp, qaoz, qapz, qarz, qatz, qavz,
 ↓reduceIte, Nat.reduceEqDiff, Option.map_some, qazz, qbdz, qbhz, qbpz, qbyz, qcaz, qcfz, beq_true, beq_false, decide_true, Int.toNat_natCast, Int.ofNat_lt, Bool.false_eq_true, Int.reduceToNat, reduceCtorEq, Bool.not_true]
        exact next (by simp only [alnC, q1, q2, decide_true, Bool.and_true, Bool.true_or]) _ h0 h6 rfl
      · by_cases q3 : 65 ≤ c
        · by_cases q4 : c ≤ 90
          · simp (maxSteps := 1000000) (disch := omega) only [h0, h6, h7, hlt, idx_s, ← hc, q1, q2, q3, q4, add_n, loopQ_normal, qaaz, qabz, qacz, qadz, qaez, qajz, qakz, qalz, qamz, qanz, evOp, qaoz, qapz, qarz, qatz, qavz,
 ↓reduceIte, Nat.reduceEqDiff, Option.map_some, qazz, qbdz, qbhz, qbpz, qbyz, qcaz, qcfz, beq_true, beq_false, decide_true, decide_false,
 Int.toNat_natCast, Int.ofNat_lt, Bool.false_eq_true, Int.reduceToNat, reduceCtorEq, Bool.not_true, Bool.not_false]
            exact next (by simp only [alnC, q1, q2, q3, q4, decide_true, decide_false, Bool.and_true, Bool.and_false, Bool.or_true, Bool.true_or]) _ h0 h6 rfl
          · by_cases q5 : 48 ≤ c
            · by_cases q6 : c ≤ 57
              · simp (maxSteps := 1000000) (disch := omega) only [h0, h6, h7, hlt, idx_s, ← hc, q1, q2, q3, q4, q5, q6, add_n, loopQ_normal, qaaz, qabz, qacz, qadz, qaez, qajz, qakz, qalz, qamz, qanz, evOp, qaoz, qapz, qarz, qatz, qavz,
 ↓reduceIte, Nat.reduceEqDiff, Option.map_some, qazz, qbdz, qbhz, qbpz, qbyz, qcaz, qcfz, beq_true, beq_false, decide_true, decide_false,
 Int.toNat_natCast, Int.ofNat_lt, Bool.false_eq_true, Int.reduceToNat, reduceCtorEq, Bool.not_true, Bool.not_false]
                exact next (by simp only [alnC, q1, q2, q3, q4, q5, q6, decide_true, decide_false, Bool.and_true, Bool.and_false, Bool.or_true, Bool.or_false]) _ h0 h6 rfl
              · simp (maxSteps := 1000000) (disch := omega) only [h0, h6, h7, hlt, idx_s, ← hc, q1, q2, q3, q4, q5, q6, qaaz, qabz, qacz, qadz, qaez, qaiz, qajz, qakz, qalz, qamz, qanz, evOp, qaoz, qapz, qarz, qatz, qavz,
 ↓reduceIte, Nat.reduceEqDiff, Option.map_some, qazz, qbaz, qbez, qbhz, qbiz, qblz, qbpz, qbyz, qcaz, qcfz, beq_true, beq_false, decide_true, decide_false,
 Int.toNat_natCast, Int.ofNat_lt, Bool.false_eq_true, reduceCtorEq, Bool.not_false]
                exact bad (by simp only [alnC, q1, q2, q3, q4, q5, q6, decide_true, decide_false, Bool.and_false, Bool.or_false]) _ rfl
            · simp (maxSteps := 1000000) (disch := omega) only [h0, h6, h7, hlt, idx_s, ← hc, q1, q2, q3, q4, q5, qaaz, qabz, qacz, qadz, qaez, qaiz, qajz, qakz, qalz, qamz, qanz, evOp, qaoz, qapz, qarz, qatz, qavz,
 ↓reduceIte, Nat.reduceEqDiff, Option.map_some, qazz, qbaz, qbez, qbhz, qbiz, qblz, qbpz, qbyz, qcaz, qcfz, beq_true, beq_false, decide_true, decide_false,
 Int.toNat_natCast, Int.ofNat_lt, Bool.false_eq_true, reduceCtorEq, Bool.not_false]
              exact bad (by simp only [alnC, q1, q2, q3, q4, q5, decide_true, decide_false, Bool.and_false, Bool.false_and, Bool.or_false]) _ rfl
        · by_cases q5 : 48 ≤ c
          · by_cases q6 : c ≤ 57
            · simp (maxSteps := 1000000) (disch := omega) only [h0, h6, h7, hlt, idx_s, ← hc, q1, q2, q3, q5, q6, add_n, loopQ_normal, qaaz, qabz, qacz, qadz, qaez, qajz, qakz, qalz, qamz, qanz, evOp, qaoz, qapz, qarz, qatz, qavz,
 ↓reduceIte, Nat.reduceEqDiff, Option.map_some, qazz, qbdz, qbhz, qbpz, qbyz, qcaz, qcfz, beq_true, beq_false, decide_true, decide_false,
 Int.toNat_natCast, Int.ofNat_lt, Bool.false_eq_true, Int.reduceToNat, reduceCtorEq, Bool.not_true, Bool.not_false]
              exact next (by simp only [alnC, q1, q2, q3, q5, q6, decide_true, decide_false, Bool.and_true, Bool.and_false, Bool.false_and, Bool.or_true, Bool.or_false]) _ h0 h6 rfl
            · simp (maxSteps := 1000000) (disch := omega) only [h0, h6, h7, hlt, idx_s, ← hc, q1, q2, q3, q5, q6, qaaz, qabz, qacz, qadz, qaez, qaiz, qajz, qakz, qalz, qamz, qanz, evOp, qaoz, qapz, qarz, qatz, qavz,
 ↓reduceIte, Nat.reduceEqDiff, Option.map_some, qazz, qbaz, qbez, qbhz, qbiz, qblz, qbpz, qbyz, qcaz, qcfz, beq_true, beq_false, decide_true, decide_false,
 Int.toNat_natCast, Int.ofNat_lt, Bool.false_eq_true, reduceCtorEq, Bool.not_false]
              exact bad (by simp only [alnC, q1, q2, q3, q5, q6, decide_true, decide_false, Bool.and_false, Bool.false_and, Bool.or_false]) _ rfl
          · simp (maxSteps := 1000000) (disch := omega) only [h0, h6, h7, hlt, idx_s, ← hc, q1, q2, q3, q5, qaaz, qabz, qacz, qadz, qaez, qaiz, qajz, qakz, qalz, qamz, qanz, evOp, qaoz, qapz, qarz, qatz, qavz,
 ↓reduceIte, Nat.reduceEqDiff, Option.map_some, qazz, qbaz, qbez, qbhz, qbiz, qblz, qbpz, qbyz, qcaz, qcfz, beq_true, beq_false, decide_true, decide_false,
 Int.toNat_natCast, Int.ofNat_lt, Bool.false_eq_true, reduceCtorEq, Bool.not_false]
            exact bad (by simp only [alnC, q1, q2, q3, q5, decide_true, decide_false, Bool.and_false, Bool.false_and, Bool.or_false]) _ rfl
    · by_cases q3 : 65 ≤ c
      · by_cases q4 : c ≤ 90
        · simp (maxSteps := 1000000) (disch := omega) only [h0, h6, h7, hlt, idx_s, ← hc, q1, q3, q4, add_n, loopQ_normal, qaaz, qabz, qacz, qadz, qaez, qajz, qakz, qalz, qamz, qanz, evOp, qaoz, qapz, qarz, qatz, qavz,
 ↓reduceIte, Nat.reduceEqDiff, Option.map_some, qazz, qbdz, qbhz, qbpz, qbyz, qcaz, qcfz, beq_true, beq_false, decide_true, decide_false,
 Int.toNat_natCast, Int.ofNat_lt, Bool.false_eq_true, Int.reduceToNat, reduceCtorEq, Bool.not_true, Bool.not_false]
          exact next (by simp only [alnC, q1, q3, q4, decide_true, decide_false, Bool.and_true, Bool.false_and, Bool.or_true, Bool.true_or]) _ h0 h6 rfl
        · by_cases q5 : 48 ≤ c
          · by_cases q6 : c ≤ 57
            · simp (maxSteps := 1000000) (disch := omega) only [h0, h6, h7, hlt, idx_s, ← hc, q1, q3, q4, q5, q6, add_n, loopQ_normal, qaaz, qabz, qacz, qadz, qaez, qajz, qakz, qalz, qamz, qanz, evOp, qaoz, qapz, qarz, qatz, qavz,
 ↓reduceIte, Nat.reduceEqDiff, Option.map_some, qazz, qbdz, qbhz, qbpz, qbyz, qcaz, qcfz, beq_true, beq_false, decide_true, decide_false,
 Int.toNat_natCast, Int.ofNat_lt, Bool.false_eq_true, Int.reduceToNat, reduceCtorEq, Bool.not_true, Bool.not_false]
              exact next (by simp only [alnC, q1, q3, q4, q5, q6, decide_true, decide_false, Bool.and_true, Bool.and_false, Bool.false_and, Bool.or_true, Bool.or_false]) _ h0 h6 rfl
            · simp (maxSteps := 1000000) (disch := omega) only [h0, h6, h7, hlt, idx_s, ← hc, q1, q3, q4, q5, q6, qaaz, qabz, qacz, qadz, qaez, qaiz, qajz, qakz, qalz, qamz, qanz, evOp, qaoz, qapz, qarz, qatz, qavz,
 ↓reduceIte, Nat.reduceEqDiff, Option.map_some, qazz, qbaz, qbez, qbhz, qbiz, qblz, qbpz, qbyz, qcaz, qcfz, beq_true, beq_false, decide_true, decide_false,
 Int.toNat_natCast, Int.ofNat_lt, Bool.false_eq_true, reduceCtorEq, Bool.not_false]
              exact bad (by simp only [alnC, q1, q3, q4, q5, q6, decide_true, decide_false, Bool.and_false, Bool.false_and, Bool.or_false]) _ rfl
          · simp (maxSteps := 1000000) (disch := omega) only [h0, h6, h7, hlt, idx_s, ← hc, q1, q3, q4, q5, qaaz, qabz, qacz, qadz, qaez, qaiz, qajz, qakz, qalz, qamz, qanz, evOp, qaoz, qapz, qarz, qatz, qavz,
 ↓reduceIte, Nat.reduceEqDiff, Option.map_some, qazz, qbaz, qbez, qbhz, qbiz, qblz, qbpz, qbyz, qcaz, qcfz, beq_true, beq_false, decide_true, decide_false,
 Int.toNat_natCast, Int.ofNat_lt, Bool.false_eq_true, reduceCtorEq, Bool.not_false]
            exact bad (by simp only [alnC, q1, q3, q4, q5, decide_true, decide_false, Bool.and_false, Bool.false_and, Bool.or_false]) _ rfl
      · by_cases q5 : 48 ≤ c
        · by_cases q6 : c ≤ 57
          · simp (maxSteps := 1000000) (disch := omega) only [h0, h6, h7, hlt, idx_s, ← hc, q1, q3, q5, q6, add_n, loopQ_normal, qaaz, qabz, qacz, qadz, qaez, qajz, qakz, qalz, qamz, qanz, evOp, qaoz, qapz, qarz, qatz, qavz,
 ↓reduceIte, Nat.reduceEqDiff, Option.map_some, qazz, qbdz, qbhz, qbpz, qbyz, qcaz, qcfz, beq_true, beq_false, decide_true, decide_false,
 Int.toNat_natCast, Int.ofNat_lt, Bool.false_eq_true, Int.reduceToNat, reduceCtorEq, Bool.not_true, Bool.not_false]
            exact next (by simp only [alnC, q1, q3, q5, q6, decide_true, decide_false, Bool.and_true, Bool.false_and, Bool.or_true, Bool.or_false]) _ h0 h6 rfl
          · simp (maxSteps := 1000000) (disch := omega) only [h0, h6, h7, hlt, idx_s, ← hc, q1, q3, q5, q6, qaaz, qabz, qacz, qadz, qaez, qaiz, qajz, qakz, qalz, qamz, qanz, evOp, qaoz, qapz, qarz, qatz, qavz,
 ↓reduceIte, Nat.reduceEqDiff, Option.map_some, qazz, qbaz, qbez, qbhz, qbiz, qblz, qbpz, qbyz, qcaz, qcfz, beq_true, beq_false, decide_true, decide_false,
 Int.toNat_natCast, Int.ofNat_lt, Bool.false_eq_true, reduceCtorEq, Bool.not_false]
            exact bad (by simp only [alnC, q1, q3, q5, q6, decide_true, decide_false, Bool.and_false, Bool.false_and, Bool.or_false]) _ rfl
        · simp (maxSteps := 1000000) (disch := omega) only [h0, h6, h7, hlt, idx_s, ← hc, q1, q3, q5, qaaz, qabz, qacz, qadz, qaez, qaiz, qajz, qakz, qalz, qamz, qanz, evOp, qaoz, qapz, qarz, qatz, qavz,
 ↓reduceIte, Nat.reduceEqDiff, Option.map_some, qazz, qbaz, qbez, qbhz, qbiz, qblz, qbpz, qcaz, qcfz, beq_true, beq_false, decide_true, decide_false,
 Int.toNat_natCast, Int.ofNat_lt, Bool.false_eq_true, reduceCtorEq, Bool.not_false]
          exact bad (by simp only [alnC, q1, q3, q5, decide_false, Bool.false_and, Bool.or_false]) _ rfl
  · obtain rfl : i = l.length := by omega
    have ha := all_getD (p := alnC) hall
    by_cases g1 : l = []
    · simp (maxSteps := 1000000) (disch := omega) only [h0, h6, h7, hlt, len_s, eq_true g1, qaaz, qabz, qacz, qadz, qaez, qagz, qaiz, qajz, qclz, qcmz, qcnz, qcqz, qcrz, qcwz, forall_const, qalz, evOp, qaoz, qapz, qarz, qatz, qavz,
 ↓reduceIte, Nat.reduceEqDiff, Option.map_some, qazz, qbbz, qbfz, qbjz, qblz, qbpz, qbqz, qccz, decide_false,
 Int.ofNat_lt, Bool.false_eq_true, Bool.true_eq_false, true_and, and_true, reduceCtorEq, ne_eq, not_true_eq_false]
      exact retB rfl hk (by simp [idB, g1])
    · have hp := List.length_pos_iff.2 g1
      have d1 : 1 ≤ l.length := by omega
      by_cases g2 : l.length ≤ 64
      · have e2 : (l.length : Int) ≤ 64 := by omega
        simp (maxSteps := 1000000) (disch := omega) only [h0, h6, h7, hlt, len_s, g1, e2, qaaz, qabz, qacz, qadz, qaez, qagz, qaiz, qajz, qclz, qcmz, qcnz, qcqz, qcrz, qcwz, forall_const, qalz, evOp, qaoz, qapz, qarz, qatz, qavz,
 ↓reduceIte, Nat.reduceEqDiff, Option.map_some, qazz, qbbz, qbfz, qbjz, qblz, qbpz, qbqz, qccz, decide_true, decide_false,
 Int.ofNat_lt, Bool.false_eq_true, Bool.true_eq_false, true_and, and_true, reduceCtorEq, ne_eq, not_false_eq_true]
        exact retB rfl hk (by simp only [idB, ha, d1, g2, decide_true, Bool.and_true])
      · have e2 : ¬ (l.length : Int) ≤ 64 := by omega
        simp (maxSteps := 1000000) (disch := omega) only [h0, h6, h7, hlt, len_s, g1, e2, qaaz, qabz, qacz, qadz, qaez, qagz, qaiz, qajz, qclz, qcmz, qcnz, qcqz, qcrz, qcwz, forall_const, qalz, evOp, qaoz, qapz, qarz, qatz, qavz,
 ↓reduceIte, Nat.reduceEqDiff, Option.map_some, qazz, qbbz, qbfz, qbjz, qblz, qbpz, qbqz, qccz, decide_true, decide_false,
 Int.ofNat_lt, Bool.false_eq_true, Bool.true_eq_false, true_and, and_true, reduceCtorEq, ne_eq, not_false_eq_true]
        exact retB rfl hk (by simp only [idB, g2, decide_false, Bool.and_false])

def tC (m : TM) : List PV := [.str m.fr, .str m.by_, .str m.id, .str m.for_, .int .i64 m.at_, .int .i64 m.sh]
def tV (m : TM) : PV := .agg (tC m)
variable {m : TM}
theorem strip_t : strip (tV m) = some (tV m) := rfl
theorem cells_t : (tV m).cells = tC m := rfl
theorem fat {k : Nat} : faddrPV k (.cp (tC m)) = some (.cp ((tC m).drop k)) := rfl
theorem lt0 : loadcPV false 1 (.cp ((tC m).drop 0)) = some (.str m.fr) := rfl
theorem lt1 : loadcPV false 1 (.cp ((tC m).drop 1)) = some (.str m.by_) := rfl
theorem lt2 : loadcPV false 1 (.cp ((tC m).drop 2)) = some (.str m.id) := rfl
theorem lt3 : loadcPV false 1 (.cp ((tC m).drop 3)) = some (.str m.for_) := rfl
theorem lt4 : loadcPV false 1 (.cp ((tC m).drop 4)) = some (.int .i64 m.at_) := rfl
theorem lt5 : loadcPV false 1 (.cp ((tC m).drop 5)) = some (.int .i64 m.sh) := rfl
theorem ltA : loadcPV true 6 (.cp (tC m)) = some (tV m) := rfl
structure okT (m : TM) : Prop where
  fr : m.fr.length ≤ 1000000
  by_ : m.by_.length ≤ 1000000
  id : m.id.length ≤ 1000000
  for_ : m.for_.length ≤ 1000000

set_option maxHeartbeats 2000000 in
theorem tRight_spec25 (ok : okT m) : call prog (.fn 360 []) [tV m] st = some (.bool (rightT m), st) := by
  refine call_of_W prog_360 ?_
  unfold F_trace_Right; dsimp only
  generalize hQ1 : endQ st _ _ = Q0
  have fin : ∀ (b : Bool) (E : Env) (S : St), Kept st S → rightT m = b → E 2 = .bool b → Q0 .ret E S := fun b E S k h h4 => by
    rw [← hQ1, qblz]; exact retB h4 k h.symm
  have hP := fun S : St => print_spec (st := S) (t := m.at_) (z := m.sh)
  have hF := fun S : St => tDomain_spec (st := S) (d := m.fr) (by have := ok.fr; omega)
  have hB := fun S : St => tDomain_spec (st := S) (d := m.by_) (by have := ok.by_; omega)
  have hI := fun S : St => tID_spec (st := S) (l := m.id) (by have := ok.id; omega)
  have hO := fun S : St => tPerson_spec (st := S) ok.for_
  by_cases c0 : okP m.at_ m.sh
  case neg =>
    rw [if_neg c0] at hP
    simp (maxSteps := 1000000) (disch := omega) only [strip_t, cells_t, fat, lt4, lt5, hP, qaaz, qabz, qaiz, qajz, qakz, qalz, qamz, qanz, evOp, qaoz, qapz, qaqz, qarz, qatz, qavz,
 ↓reduceIte, Nat.reduceEqDiff, List.append_nil, List.map_cons, List.map_nil, qawz, Option.map_some, qazz, qbtz, beq_true, decide_false,
 Bool.false_eq_true, qcjz, List.getElem?_cons_zero, List.getElem?_cons_succ, Int.reduceEq]
    exact fin false _ _ Kept.start (by simp only [rightT, decide_eq_false c0, Bool.false_and]) rfl
  rw [if_pos c0] at hP
  cases c1 : domB m.fr with
  | false =>
    rw [c1] at hF
    simp (maxSteps := 1000000) (disch := omega) only [strip_t, cells_t, fat, lt0, lt4, lt5, hP, hF, qaaz, qabz, qaiz, qajz, qakz, qalz, qamz, qanz, evOp, qaoz, qapz, qaqz, qarz, qatz, qavz,
 ↓reduceIte, Nat.reduceEqDiff, List.append_nil, List.map_cons, List.map_nil, qawz, Option.map_some, qazz, qbtz, beq_true, decide_true, Bool.false_eq_true, qcjz, List.getElem?_cons_zero, List.getElem?_cons_succ]
    exact fin false _ _ Kept.start (by simp only [rightT, c1, Bool.and_false, Bool.false_and]) rfl
  | true =>
  rw [c1] at hF
  cases c2 : domB m.by_ with
  | false =>
    rw [c2] at hB
    simp (maxSteps := 1000000) (disch := omega) only [strip_t, cells_t, fat, lt0, lt1, lt4, lt5, hP, hF, hB, qaaz, qabz, qaiz, qajz, qakz, qalz, qamz, qanz, evOp, qaoz, qapz, qaqz, qarz, qatz, qavz,
 ↓reduceIte, Nat.reduceEqDiff, List.append_nil, List.map_cons, List.map_nil, qawz, Option.map_some, qazz, qbtz, beq_true, decide_true, Bool.false_eq_true, qcjz, List.getElem?_cons_zero, List.getElem?_cons_succ]
    exact fin false _ _ Kept.start (by simp only [rightT, c2, Bool.and_false, Bool.false_and]) rfl
  | true =>
  rw [c2] at hB
  cases c3 : idB m.id with
  | false =>
    rw [c3] at hI
    simp (maxSteps := 1000000) (disch := omega) only [strip_t, cells_t, fat, lt0, lt1, lt2, lt4, lt5, hP, hF, hB, hI, qaaz, qabz, qaiz, qajz, qakz, qalz, qamz, qanz, evOp, qaoz, qapz, qaqz, qarz, qatz, qavz,
 ↓reduceIte, Nat.reduceEqDiff, List.append_nil, List.map_cons, List.map_nil, qawz, Option.map_some, qazz, qbtz, beq_true, decide_true, Bool.false_eq_true, qcjz, List.getElem?_cons_zero, List.getElem?_cons_succ]
    exact fin false _ _ Kept.start (by simp only [rightT, c3, Bool.and_false, Bool.false_and]) rfl
  | true =>
  rw [c3] at hI
  have hr : ∀ b, forB m.for_ = b → rightT m = b := fun b h => by simp only [rightT, decide_eq_true c0, c1, c2, c3, h, Bool.and_true, Bool.true_and]
  by_cases c4 : m.for_ = []
  · simp (maxSteps := 1000000) (disch := omega) only [strip_t, cells_t, fat, lt0, lt1, lt2, lt3, lt4, lt5, hP, hF, hB, hI, eq_true c4, qaaz, qabz, qaiz, qajz, qakz, qalz, qamz, qanz, evOp, qaoz, qapz, qaqz, qarz, qatz, qavz,
 ↓reduceIte, Nat.reduceEqDiff, List.append_nil, List.map_cons, List.map_nil, qawz, Option.map_some, qazz, qbtz, qcbz, beq_true, beq_false, decide_true, Bool.false_eq_true, qcjz, List.getElem?_cons_zero, List.getElem?_cons_succ, Bool.not_true]
    exact fin true _ _ Kept.start (hr _ (by simp only [forB, c4, decide_true, Bool.true_or])) rfl
  · simp (maxSteps := 1000000) (disch := omega) only [strip_t, cells_t, fat, lt0, lt1, lt2, lt3, lt4, lt5, hP, hF, hB, hI, c4, hO, qaaz, qabz, qaiz, qajz, qakz, qalz, qamz, qanz, evOp, qaoz, qapz, qaqz, qarz, qatz, qavz,
 ↓reduceIte, Nat.reduceEqDiff, List.append_nil, List.map_cons, List.map_nil, qawz, Option.map_some, qazz, qbtz, qcbz, beq_true, beq_false, decide_true, decide_false,
 Bool.false_eq_true, qcjz, List.getElem?_cons_zero, List.getElem?_cons_succ, Bool.not_false]
    exact fin _ _ _ Kept.start (hr _ (by simp only [forB, c4, decide_false, Bool.false_or])) rfl

theorem rightT_ok (h : rightT m = true) : okP m.at_ m.sh ∧ domB m.fr = true ∧ domB m.by_ = true ∧ idB m.id = true ∧ forB m.for_ = true := by
  simp only [rightT, Bool.and_eq_true, decide_eq_true_eq] at h
  exact ⟨h.1.1.1.1, h.1.1.1.2, h.1.1.2, h.1.2, h.2⟩

set_option maxHeartbeats 2000000 in
theorem tWrite_spec25 (ok : okT m) : call prog (.fn 358 []) [tV m] st = some (.tup [.str (writeT m).1, .int .i64 (writeT m).2], st) := by
  refine call_of_W prog_358 ?_
  unfold F_trace_Write; dsimp only
  generalize hQ1 : endQ st _ _ = Q0
  have fin : ∀ (a : Bs) (b : Int) (E : Env) (S : St), Kept st S → writeT m = (a, b) → E 2 = .str a → E 3 = .int .i64 b → Q0 .ret E S := fun a b E S k h h4 h5 => by
    rw [← hQ1, qblz]; exact retSI h4 h5 k (by rw [h]) (by rw [h])
  have hR := fun S : St => tRight_spec25 (st := S) ok
  have hP := fun S : St => print_spec (st := S) (t := m.at_) (z := m.sh)
  have g1 := ok.fr; have g2 := ok.by_; have g3 := ok.id; have g4 := ok.for_
  refine W_cut (fun E S => Kept st S ∧ E 1 = .cp (tC m)) ?_ ?_
  · simp (maxSteps := 1000000) (disch := omega) only [strip_t, cells_t, qabz, qajz, qalz, evOp, qaoz, qapz, qarz, qatz, qavz,
 ↓reduceIte, Nat.reduceEqDiff, List.append_nil, qawz, Option.map_some, true_and, and_true]
    exact Kept.start
  rintro e S ⟨hk, h1⟩
  cases hr : rightT m with
  | false =>
    rw [hr] at hR
    simp (maxSteps := 1000000) (disch := omega) only [h1, ltA, hR, qaaz, qabz, qacz, qaiz, qajz, qalz, evOp, qaoz, qapz, qaqz, qarz, qatz, qavz,
 ↓reduceIte, List.map_cons, List.map_nil, Option.map_some, qazz, qbaz, qbhz, qcfz, Bool.not_false]
    exact fin _ _ _ _ hk (by rw [writeT, if_neg (by simp [hr])]) rfl rfl
  | true =>
  rw [hr] at hR
  obtain ⟨c0, -⟩ := rightT_ok hr
  rw [if_pos c0] at hP
  have hx := (datX_ok c0).1
  obtain ⟨X, hX⟩ : ∃ X, X = datX m.at_ m.sh := ⟨_, rfl⟩
  rw [← hX] at hP hx
  refine W_cut (fun E S => Kept st S ∧ E 1 = .cp (tC m)) ?_ ?_
  · simp (maxSteps := 1000000) (disch := omega) only [h1, ltA, hR, qaaz, qabz, qacz, qaez, qajz, qalz, evOp, qaoz, qaqz, qarz, qatz, qavz,
 ↓reduceIte, Nat.reduceEqDiff, List.map_cons, List.map_nil, Option.map_some, qazz, qbhz, qcfz, Bool.false_eq_true, true_and, and_true, Bool.not_true]
    exact hk
  clear hk h1 hR
  rintro e S ⟨hk, h1⟩
  refine W_cut (fun E S => Kept st S ∧ E 1 = .cp (tC m) ∧ E 4 = .str X) ?_ ?_
  · simp (maxSteps := 1000000) (disch := omega) only [h1, fat, lt4, lt5, hP, qabz, qajz, qalz, evOp, qaoz, qaqz, qarz, qatz, qavz,
 ↓reduceIte, Nat.reduceEqDiff, List.map_cons, List.map_nil, Option.map_some, qcjz, List.getElem?_cons_zero, List.getElem?_cons_succ, true_and, and_true]
    exact hk
  clear hk h1 hP
  rintro e S ⟨hk, h1, h4⟩
  obtain ⟨Y, hY⟩ : ∃ Y, Y = sFrom ++ m.fr ++ sBy ++ m.by_ ++ sWith ++ m.id := ⟨_, rfl⟩
  have hYl : Y.length ≤ 4000000 := by rw [hY]; simp [sFrom, sBy, sWith]; omega
  refine W_cut (fun E S => Kept st S ∧ E 1 = .cp (tC m) ∧ E 4 = .str X ∧ E 6 = .str Y) ?_ ?_
  · have a1 : ∀ ek, binPV .add ek (.str [102, 114, 111, 109, 32]) (.str m.fr) = some (.str (sFrom ++ m.fr)) := fun ek => adds (by simp; omega)
    have a2 : ∀ ek, binPV .add ek (.str (sFrom ++ m.fr)) (.str [32, 98, 121, 32]) = some (.str (sFrom ++ m.fr ++ sBy)) := fun ek => adds (by simp [sFrom]; omega)
    have a3 : ∀ ek, binPV .add ek (.str (sFrom ++ m.fr ++ sBy)) (.str m.by_) = some (.str (sFrom ++ m.fr ++ sBy ++ m.by_)) := fun ek => adds (by simp [sFrom, sBy]; omega)
    have a4 : ∀ ek, binPV .add ek (.str (sFrom ++ m.fr ++ sBy ++ m.by_)) (.str [32, 119, 105, 116, 104, 32, 69, 83, 77, 84, 80, 32, 105, 100, 32]) = some (.str (sFrom ++ m.fr ++ sBy ++ m.by_ ++ sWith)) := fun ek => adds (by simp [sFrom, sBy]; omega)
    have a5 : ∀ ek, binPV .add ek (.str (sFrom ++ m.fr ++ sBy ++ m.by_ ++ sWith)) (.str m.id) = some (.str Y) := fun ek => by rw [hY]; exact adds (by simp [sFrom, sBy, sWith]; omega)
    simp (maxSteps := 1000000) (disch := omega) only [h1, h4, fat, lt0, lt1, lt2, a1, a2, a3, a4, a5, qabz, qajz, qalz, evOp, qaoz, qapz, qarz, qatz, qavz,
 ↓reduceIte, Nat.reduceEqDiff, Option.map_some, true_and, and_true]
    exact hk
  clear hk h1 h4
  rintro e S ⟨hk, h1, h4, h6⟩
  refine W_cut (fun E S => Kept st S ∧ E 4 = .str X ∧ E 6 = .str (Y ++ forT m.for_)) ?_ ?_
  · by_cases c1 : m.for_ = []
    · have hf : forT m.for_ = [] := by rw [forT, if_pos c1]
      simp (maxSteps := 1000000) (disch := omega) only [h1, h4, h6, fat, lt3, eq_true c1, hf, List.append_nil, qaaz, qabz, qacz, qaez, qajz, qalz, evOp, qaoz, qapz, qarz, qatz, qavz,
 ↓reduceIte, Nat.reduceEqDiff, List.append_nil, Option.map_some, qazz, qbhz, qccz, decide_false,
 Bool.false_eq_true, true_and, and_true, ne_eq, not_true_eq_false]
      exact hk
    · have hf : forT m.for_ = sFor ++ m.for_ ++ [62] := by rw [forT, if_neg c1]
      have a1 : ∀ ek, binPV .add ek (.str [32, 102, 111, 114, 32, 60]) (.str m.for_) = some (.str (sFor ++ m.for_)) := fun ek => adds (by simp; omega)
      have a2 : ∀ ek, binPV .add ek (.str (sFor ++ m.for_)) (.str [62]) = some (.str (forT m.for_)) := fun ek => by rw [hf]; exact adds (by simp [sFor]; omega)
      have a3 : ∀ ek, binPV .add ek (.str Y) (.str (forT m.for_)) = some (.str (Y ++ forT m.for_)) := fun ek => adds (by rw [hf]; simp [sFor]; omega)
      simp (maxSteps := 1000000) (disch := omega) only [h1, h4, h6, fat, lt3, c1, a1, a2, a3, qaaz, qabz, qacz, qajz, qalz, evOp, qaoz, qapz, qarz, qatz, qavz,
 ↓reduceIte, Nat.reduceEqDiff, Option.map_some, qazz, qbhz, qccz, decide_true, true_and, and_true, ne_eq, not_false_eq_true]
      exact hk
  clear hk h1 h4 h6
  rintro e S ⟨hk, h4, h6⟩
  have hfl : (forT m.for_).length ≤ 1000007 := by unfold forT; split <;> simp [sFor]; omega
  have a1 : ∀ ek, binPV .add ek (.str (Y ++ forT m.for_)) (.str [59, 32]) = some (.str (Y ++ forT m.for_ ++ [59, 32])) := fun ek => adds (by simp; omega)
  have a2 : ∀ ek, binPV .add ek (.str (Y ++ forT m.for_ ++ [59, 32])) (.str X) = some (.str (Y ++ forT m.for_ ++ [59, 32] ++ X)) := fun ek => adds (by simp; omega)
  simp (maxSteps := 1000000) (disch := omega) only [h4, h6, a1, a2, qaaz, qabz, qaiz, qajz, qalz, evOp, qaoz, qapz, qarz, qatz, qavz,
 ↓reduceIte, Nat.reduceEqDiff, Option.map_some, qazz]
  exact fin _ _ _ _ hk (by rw [writeT, if_pos hr, textT, headT, ← hX, hY]) rfl rfl

structure rwT (m : TM) : Prop where
  fr : m.fr.length ≤ 4000000000000000000
  by_ : m.by_.length ≤ 4000000000000000000
  id : m.id.length ≤ 9000000000000000000
  for_ : m.for_.length ≤ 9000000000000000000
def greatT25 (m : TM) : Bool := decide (1000 < m.fr.length + m.by_.length) || decide (200 < m.id.length) || decide (400 < m.for_.length)
theorem greatT_ok (h : greatT25 m = false) : okT m := by
  simp only [greatT25, Bool.or_eq_false_iff, decide_eq_false_iff_not] at h
  exact ⟨by omega, by omega, by omega, by omega⟩
theorem Great25_spec (hr : rwT m) : call prog (.fn 357 []) [tV m] st = some (.bool (greatT25 m), st) := by
  refine call_of_W prog_357 ?_
  unfold F_posthornlaw25_Great; dsimp only
  have g1 := hr.fr; have g2 := hr.by_
  have ha1 : ∀ ek, binPV .add ek (.int .i64 (m.fr.length : Int)) (.int .i64 (m.by_.length : Int)) = some (.int .i64 ((m.fr.length + m.by_.length : Nat) : Int)) := fun ek => by
    rw [add_i (by omega) (by omega)]; simp
  have e1 : ((1000 : Int) < ((m.fr.length + m.by_.length : Nat) : Int)) = (1000 < m.fr.length + m.by_.length) := by apply propext; omega
  have e2 : ((200 : Int) < (m.id.length : Int)) = (200 < m.id.length) := by apply propext; omega
  have e3 : ((400 : Int) < (m.for_.length : Int)) = (400 < m.for_.length) := by apply propext; omega
  simp (maxSteps := 1000000) (disch := omega) only [strip_t, cells_t, fat, lt0, lt1, lt2, lt3, len_s, ha1, e1, e2, e3, qaaz, qabz, qaiz, qajz, qclz, qcmz, qcoz, qcpz, qcwz, forall_const, qalz, evOp, qaoz, qapz, qarz, qatz, qavz,
 ↓reduceIte, Nat.reduceEqDiff, List.append_nil, qawz, Option.map_some, qazz, qblz, qbrz, decide_eq_true_eq, decide_eq_false_iff_not, Bool.false_eq_true, Bool.true_eq_false, true_and, and_true]
  repeat' (first | refine And.intro ?_ ?_ | intro q)
  all_goals first | contradiction | exact retB rfl Kept.start (by simp only [greatT25, *, decide_true, decide_false, Bool.or_true, Bool.true_or, Bool.or_false, Bool.false_or])
end Go.Ab
/-
  strings.HasSuffix.
-/
namespace Go.Ab
variable {st s : St} {e : Env}

theorem slHasSuffix_spec {a b : Bs} (ha : a.length ≤ 9000000000000000000) : call prog (.fn 136 []) [.str a, .str b] st = some (.bool (decide (b <:+ a)), st) := by
  refine call_of_W prog_136 ?_
  unfold F_internal_stringslite_HasSuffix; dsimp only
  by_cases h : b.length ≤ a.length
  · have hsub : ∀ ek, binPV .sub ek (.int .i64 (a.length : Int)) (.int .i64 (b.length : Int)) = some (.int .i64 ((a.length - b.length : Nat) : Int)) := fun ek => by
      rw [sub_n (by omega) (by simpa using h) (by omega)]; rfl
    simp (maxSteps := 1000000) (disch := omega) only [len_s, h, hsub, slc_s_lo, qaaz, qabz, qaiz, qajz, qakz, qalz, qamz, qanz, evOp, qaoz, qapz, qarz, qatz, qavz,
 ↓reduceIte, Nat.reduceEqDiff, List.append_nil, qawz, qaxz, Option.map_some, Option.map_none, qazz, qblz, qbsz, qcbz, beq_true, decide_true, Int.toNat_natCast, Int.ofNat_le, reduceCtorEq]
    rw [show decide (b <:+ a) = decide (a.drop (a.length - b.length) = b) by
      congr 1; rw [List.suffix_iff_eq_drop]; exact propext eq_comm]
    exact end1 rfl Kp_bool
  · simp (maxSteps := 1000000) (disch := omega) only [len_s, h, qaaz, qabz, qaiz, qajz, qakz, qalz, qamz, qanz, evOp, qaoz, qapz, qarz, qatz, qavz,
 ↓reduceIte, Nat.reduceEqDiff, List.append_nil, qawz, qaxz, Option.map_some, qazz, qblz, qbsz, beq_true, decide_false,
 Int.ofNat_le, Bool.false_eq_true, reduceCtorEq]
    rw [show decide (b <:+ a) = false by simp; intro hp; exact h hp.length_le]
    exact end1 rfl Kp_bool
end Go.Ab
/-
  Marks are read: a path's person; the iterator over words.
-/
namespace Go.Ab
set_option maxRecDepth 20000
variable {st s : St} {e : Env}

def cutP (s : Bs) : Bs × Bool := if s.head? = some 60 then (s.drop 1, true) else (s, false)
def cutS (s : Bs) : Bs × Bool := if [62] <:+ s then (s.take (s.length - 1), true) else (s, false)
def perT (s : Bs) : Bs × Bool := (normalA (plainA (cutS (cutP s).1).1).1, (cutP s).2 && (cutS (cutP s).1).2 && decide ((plainA (cutS (cutP s).1).1).2 = 0))

theorem sCutSuffix_spec {a : Bs} (ha : a.length ≤ 4000000000) : call prog (.fn 399 []) [.str a, .str [62]] st = some (.tup [.str (cutS a).1, .bool (cutS a).2], st) := by
  refine call_of_W prog_399 ?_
  unfold F_internal_stringslite_CutSuffix; dsimp only
  have hS := fun S : St => slHasSuffix_spec (st := S) (a := a) (b := [62]) (by omega)
  have hl1 : ((([62] : Bs).length : Nat) : Int) = 1 := rfl
  by_cases h : [62] <:+ a
  · have hc : cutS a = (a.take (a.length - 1), true) := by rw [cutS, if_pos h]
    have h1 : 1 ≤ a.length := by have := h.length_le; simpa using this
    simp only [decide_eq_true h] at hS
    have hsub : ∀ ek, binPV .sub ek (.int .i64 (a.length : Int)) (.int .i64 1) = some (.int .i64 ((a.length - 1 : Nat) : Int)) := fun ek => by
      rw [sub_n (by omega) (by simp; omega) (by omega)]; rfl
    have hsl : slcPV 0 (.str a) none (some (.int .i64 ((a.length - 1 : Nat) : Int))) none = some (.str (a.take (a.length - 1))) := by
      simp [slcPV, bnd, intOf]
    simp (maxSteps := 1000000) (disch := omega) only [hS, len_s, hl1, hsub, hsl, qaaz, qabz, qacz, qaez, qaiz, qajz, qalz, evOp, qaoz, qapz, qaqz, qarz, qatz, qavz,
 ↓reduceIte, Nat.reduceEqDiff, List.append_nil, List.map_cons, List.map_nil, qawz, qaxz, Option.map_some, Option.map_none, qazz, qbhz, qblz, qcfz, Bool.false_eq_true, reduceCtorEq, Bool.not_true]
    exact ret2sb rfl rfl Kept.start (by rw [hc]) (by rw [hc])
  · have hc : cutS a = (a, false) := by rw [cutS, if_neg h]
    simp only [decide_eq_false h] at hS
    simp (maxSteps := 1000000) (disch := omega) only [hS, qaaz, qabz, qacz, qaiz, qajz, qalz, evOp, qaoz, qapz, qaqz, qarz, qatz, qavz,
 ↓reduceIte, Nat.reduceEqDiff, List.append_nil, List.map_cons, List.map_nil, qawz, qaxz, Option.map_some, qazz, qbaz, qbhz, qblz, qcfz, reduceCtorEq, Bool.not_false]
    exact ret2sb rfl rfl Kept.start (by rw [hc]) (by rw [hc])
theorem CutSuffix_spec25 {a : Bs} (ha : a.length ≤ 4000000000) : call prog (.fn 393 []) [.str a, .str [62]] st = some (.tup [.str (cutS a).1, .bool (cutS a).2], st) := by
  refine call_of_W prog_393 ?_
  unfold F_strings_CutSuffix; dsimp only
  simp (maxSteps := 1000000) (disch := omega) only [sCutSuffix_spec ha, qaaz, qabz, qaiz, qajz, qalz, evOp, qaoz, qapz, qaqz, qarz, qatz, qavz,
 ↓reduceIte, Nat.reduceEqDiff, List.append_nil, List.map_cons, List.map_nil, qawz, qaxz, Option.map_some, qazz, qblz, qcjz, List.getElem?_cons_zero, List.getElem?_cons_succ, reduceCtorEq]
  exact ret2sb rfl rfl Kept.start rfl rfl
theorem CutPrefix_spec25 {a : Bs} (ha : a.length ≤ 4000000000) : call prog (.fn 305 []) [.str a, .str [60]] st = some (.tup [.str (cutP a).1, .bool (cutP a).2], st) := by
  rw [CutPrefix_spec (by omega)]
  unfold cutP
  by_cases h : a.head? = some 60
  · rw [if_pos h, if_pos h, decide_eq_true h]
  · rw [if_neg h, if_neg h, decide_eq_false h]
theorem cutP_len {a : Bs} : (cutP a).1.length ≤ a.length := by unfold cutP; split <;> simp
theorem cutS_len {a : Bs} : (cutS a).1.length ≤ a.length := by unfold cutS; split <;> simp

set_option maxHeartbeats 2000000 in
theorem tperson_spec {l : Bs} (hl : l.length ≤ 1000000) : call prog (.fn 378 []) [.str l] st = some (.tup [.str (perT l).1, .bool (perT l).2], st) := by
  refine call_of_W prog_378 ?_
  unfold F_trace_person; dsimp only
  have h1 := cutP_len (a := l)
  have h2 := cutS_len (a := (cutP l).1)
  have hC := fun S : St => CutPrefix_spec25 (st := S) (a := l) (by omega)
  have hD := fun S : St => CutSuffix_spec25 (st := S) (a := (cutP l).1) (by omega)
  obtain ⟨i, hi⟩ : ∃ i, i = (cutS (cutP l).1).1 := ⟨_, rfl⟩
  have hil : i.length ≤ 1000000 := by rw [hi]; omega
  have hP := fun S : St => aPlain_spec (st := S) (s := i) (by omega)
  have hN := fun S : St => Normal_spec (st := S) (plain_ok (s := i) (by omega))
  have hper : perT l = (normalA (plainA i).1, (cutP l).2 && (cutS (cutP l).1).2 && decide ((plainA i).2 = 0)) := by rw [hi]; rfl
  rw [hper]
  simp only [← hi] at hD
  obtain ⟨p, hp⟩ : ∃ p, p = plainA i := ⟨_, rfl⟩
  rw [← hp] at hP hN ⊢
  clear hp hper hi
  obtain ⟨⟨n, a, d⟩, c⟩ := p
  obtain ⟨N, hNn⟩ : ∃ N, N = normalA (n, a, d) := ⟨_, rfl⟩
  simp only [aV] at hP hN ⊢
  rw [← hNn] at hN ⊢
  obtain ⟨b1, hb1⟩ : ∃ b1, b1 = (cutP l).2 := ⟨_, rfl⟩
  obtain ⟨b2, hb2⟩ : ∃ b2, b2 = (cutS (cutP l).1).2 := ⟨_, rfl⟩
  rw [← hb1] at hC ⊢
  rw [← hb2] at hD ⊢
  by_cases h0 : c = 0
  · cases b1 <;> cases b2 <;> simp (maxSteps := 1000000) (disch := omega) only [hC, hD, hP, allocPV, st_aa, ld_aa, eq_true h0, hN, qaaz, qabz, qaiz, qajz, qakz, qalz, qamz, qanz, evOp, qaoz, qapz, qaqz, qarz, qatz, qauz, qavz,
 ↓reduceIte, Nat.reduceEqDiff, List.append_nil, List.map_cons, List.map_nil, qawz, Option.map_some, qazz, qblz, qbtz, beq_true, decide_true, Bool.false_eq_true, qcjz, List.getElem?_cons_zero, List.getElem?_cons_succ, reduceCtorEq] <;> exact ret2sb rfl rfl Kept.box1 rfl (by simp [])
  · cases b1 <;> cases b2 <;> simp (maxSteps := 1000000) (disch := omega) only [hC, hD, hP, allocPV, st_aa, ld_aa, h0, hN, qaaz, qabz, qaiz, qajz, qakz, qalz, qamz, qanz, evOp, qaoz, qapz, qaqz, qarz, qatz, qauz, qavz,
 ↓reduceIte, Nat.reduceEqDiff, List.append_nil, List.map_cons, List.map_nil, qawz, Option.map_some, qazz, qblz, qbtz, beq_true, decide_false,
 Bool.false_eq_true, qcjz, List.getElem?_cons_zero, List.getElem?_cons_succ, reduceCtorEq] <;> exact ret2sb rfl rfl Kept.box1 rfl (by simp [])

theorem twords_spec {l : Bs} : call prog (.fn 380 []) [.str l] st = some (.fn 395 [.ptr st.boxes.length 0], { boxes := st.boxes ++ [[.str l]], toks := st.toks, loops := st.loops, low := min st.low st.boxes.length }) := by
  refine call_of_W prog_380 ?_
  unfold F_trace_words; dsimp only
  have h1 : (PV.str l).inB st.boxes.length = true := rfl
  have h2 : (PV.str l).cells = [.str l] := rfl
  have h3 : leafOk (.str l) = true := rfl
  simp (maxSteps := 1000000) (disch := omega) only [h1, h2, h3, and_self, allocPV, capOk, List.all_cons, List.all_nil, Bool.and_true, qaaz, qabz, qaiz, qajz, qalz, evOp, qaoz, qapz, qarz, qatz, qavz,
 ↓reduceIte, Nat.reduceEqDiff, List.append_nil, List.map_cons, List.map_nil, qawz, qazz, qblz]
  exact ⟨.fn 395 [.ptr st.boxes.length 0], rfl, by simp [leave, PV.inB, PV.inB.inBAll]⟩

def isBl (c : UInt8) : Prop := c = 32 ∨ c = 9
theorem word_split : ∀ (s : Bs), ∃ w r, s = w ++ r ∧ noBl w ∧ (r = [] ∨ ∃ c r', r = c :: r' ∧ isBl c)
  | [] => ⟨[], [], rfl, fun c hc => by simp at hc, .inl rfl⟩
  | c :: s => by
    by_cases hc : isBl c
    · exact ⟨[], c :: s, rfl, fun c hc => by simp at hc, .inr ⟨c, s, rfl, hc⟩⟩
    · obtain ⟨w, r, h1, h2, h3⟩ := word_split s
      refine ⟨c :: w, r, by rw [h1]; rfl, fun x hx => ?_, h3⟩
      rcases List.mem_cons.1 hx with rfl | hx
      · exact ⟨fun h => hc (.inl h), fun h => hc (.inr h)⟩
      · exact h2 x hx
theorem words_head {w r : Bs} (hw : w ≠ []) (hn : noBl w) (hr : r = [] ∨ ∃ c r', r = c :: r' ∧ isBl c) : wordsG (w ++ r) [] = w :: wordsG r [] := by
  rw [words_pass w [] hn, List.nil_append]
  rcases hr with rfl | ⟨c, r', rfl, hc⟩
  · rw [words_end hw, wordsG, if_pos rfl]
  · rw [words_bl hc hw, words_bl0 hc]

set_option maxHeartbeats 4000000 in
theorem twords_iter {l : Bs} (hl : l.length ≤ 1000000) {b k : Nat} {P : Bs → St → Prop} {D : St → Prop}
    (hbox : ∀ r s, P r s → s.boxes[b]? = some [.str r])
    (hS : ∀ c r s, P (c :: r) s → isBl c → P r { s with boxes := s.boxes.set b [.str r] })
    (hY : ∀ w r s, P (w ++ r) s → w ≠ [] → noBl w → (r = [] ∨ ∃ c r', r = c :: r' ∧ isBl c) → ∃ q s', call prog (.yld k) [.str w] s = some (.bool q, s') ∧ (q = true → s'.boxes[b]? = some [.str (w ++ r)] ∧ P r { s' with boxes := s'.boxes.set b [.str r] }) ∧ (q = false → D s'))
    (hD : ∀ s, P [] s → D s)
    (h0 : P l { st with low := st.boxes.length }) : ∃ s1, D s1 ∧ call prog (.fn 395 [.ptr b 0]) [.yld k] st = some (leave st s1 (.tup [])) := by
  have key : W prog F_trace_words_c1.body (env0 ([.yld k] ++ [.ptr b 0])) { st with low := st.boxes.length } (fun xx e1 s1 => (xx = .normal ∨ xx = .ret) ∧ D s1) := by
    obtain ⟨QQ, hQQ⟩ : ∃ QQ : Ex → Env → St → Prop, QQ = fun xx e1 s1 => (xx = .normal ∨ xx = .ret) ∧ D s1 := ⟨_, rfl⟩
    rw [← hQQ]
    unfold F_trace_words_c1; dsimp only
    simp (maxSteps := 1000000) (disch := omega) only [qadz, List.nil_append, List.cons_append]
    obtain ⟨I, hI⟩ : ∃ I : Nat → Env → St → Prop, I = fun n E s => ∃ r : Bs, n = r.length ∧ r.length ≤ l.length ∧ P r s ∧ E 0 = .yld k ∧ E 1 = .ptr b 0 := ⟨_, rfl⟩
    refine W_loop I ?_ (n := l.length) (by rw [hI]; exact ⟨l, rfl, Nat.le_refl _, h0, rfl, rfl⟩)
    intro n E s h
    rw [hI] at h
    obtain ⟨r, rfl, hrl, hP, e0, e1⟩ := h
    have hb := hbox _ _ hP
    have hld : loadPV s false 1 (.ptr b 0) = some (.str r) := by simp [loadPV, hb, readCells]
    cases r with
    | nil =>
      simp (maxSteps := 1000000) (disch := omega) only [e1, hld, qaaz, qabz, qacz, qagz, qajz, qalz, evOp, qaoz, qapz, qarz, qatz, qavz,
 ↓reduceIte, Option.map_some, qazz, qbbz, qbfz, qbhz, qbjz, qccz, decide_false,
 Bool.false_eq_true, ne_eq, not_true_eq_false]
      rw [hQQ]; exact ⟨.inl rfl, hD _ hP⟩
    | cons c t =>
      have hne : ¬ (c :: t : Bs) = [] := by simp
      have hi0 : idxSPV (.str (c :: t)) (.int .i64 0) = some (.b8 c) := by simp [idxSPV, intOf]
      by_cases hc : isBl c
      · have hsl : slcPV 0 (.str (c :: t)) (some (.int .i64 1)) none none = some (.str t) := by
          rw [slc_s_lo (by decide) (by simp)]; rfl
        have hst : storePV s 1 (.ptr b 0) (.str t) = some { s with boxes := s.boxes.set b [.str t] } := by
          simp [storePV, hb, PV.cells, PV.inB, leafOk, setCells, hasTok, tokOf]
        have hn := hS c t s hP hc
        rcases hc with hc | hc
        · simp (maxSteps := 1000000) (disch := omega) only [e1, hld, hne, hi0, eq_true hc, hsl, hst, loopQ_normal, qaaz, qabz, qacz, qadz, qaez, qagz, qajz, qakz, qalz, qamz, qanz, evOp, qaoz, qapz, qarz, qatz, qauz, qavz,
 ↓reduceIte, Nat.reduceEqDiff, Option.map_some, Option.map_none, qazz, qbbz, qbfz, qbhz, qbvz, qccz, beq_false, decide_true, Bool.false_eq_true, Bool.not_true, ne_eq, not_false_eq_true]
          refine ⟨t.length, by simp, ?_⟩
          rw [hI]; exact ⟨t, rfl, by simp at hrl; omega, hn, e0, e1⟩
        · have h32 : ¬ c = 32 := by rw [hc]; decide
          simp (maxSteps := 1000000) (disch := omega) only [e1, hld, hne, hi0, h32, eq_true hc, hsl, hst, loopQ_normal, qaaz, qabz, qacz, qadz, qaez, qagz, qajz, qakz, qalz, qamz, qanz, evOp, qaoz, qapz, qarz, qatz, qauz, qavz,
 ↓reduceIte, Nat.reduceEqDiff, Option.map_some, Option.map_none, qazz, qbbz, qbfz, qbhz, qbvz, qccz, beq_false, decide_true, decide_false,
 Bool.false_eq_true, Bool.not_false, ne_eq, not_false_eq_true]
          refine ⟨t.length, by simp, ?_⟩
          rw [hI]; exact ⟨t, rfl, by simp at hrl; omega, hn, e0, e1⟩
      · have n1 : ¬ c = 32 := fun h => hc (.inl h)
        have n2 : ¬ c = 9 := fun h => hc (.inr h)
        obtain ⟨w, r', hs, hwn, hr'⟩ := word_split (c :: t)
        have hw : w ≠ [] := by
          rintro rfl
          rw [List.nil_append] at hs
          rcases hr' with rfl | ⟨c', r'', rfl, hb'⟩
          · cases hs
          · simp at hs; rw [← hs.1] at hb'; exact hc hb'
        obtain ⟨R, hR⟩ : ∃ R : Bs, R = c :: t := ⟨_, rfl⟩
        rw [← hR] at hs hne hi0 hld hP hrl hb
        simp (maxSteps := 1000000) (disch := omega) only [e1, hld, hne, hi0, n1, n2, qaaz, qabz, qacz, qadz, qaez, qajz, qakz, qalz, qamz, qanz, evOp, qaoz, qapz, qarz, qatz, qavz,
 ↓reduceIte, Nat.reduceEqDiff, Option.map_some, qazz, qbhz, qbvz, qccz, beq_false, decide_true, decide_false,
 Bool.false_eq_true, Bool.not_false, ne_eq, not_false_eq_true]
        have hRl : R.length = w.length + r'.length := by rw [hs]; simp
        refine W_mono (Q := fun xx E S => xx = .exit 2 ∧ S = s ∧ E 0 = .yld k ∧ E 1 = .ptr b 0 ∧ E 3 = .int .i64 (w.length : Int)) ?_ ?_
        · obtain ⟨J, hJ⟩ : ∃ J : Nat → Env → St → Prop, J = fun n E S => ∃ i : Nat, n = w.length - i ∧ i ≤ w.length ∧ S = s ∧ E 0 = .yld k ∧ E 1 = .ptr b 0 ∧ E 3 = .int .i64 (i : Int) := ⟨_, rfl⟩
          refine W_loop J ?_ (n := w.length) (by rw [hJ]; exact ⟨0, rfl, by omega, rfl, e0, e1, rfl⟩)
          intro n E2 S2 h2
          rw [hJ] at h2
          obtain ⟨i, rfl, hi, rfl, f0, f1, f3⟩ := h2
          by_cases hiw : i < w.length
          · have hiR : i < R.length := by omega
            have hg : R.getD i 0 = w.getD i 0 := by
              rw [hs]; simp only [List.getD]; rw [List.getElem?_append_left hiw]
            have hm : w.getD i 0 ∈ w := getD_mem hiw
            obtain ⟨m1, m2⟩ := hwn _ hm
            obtain ⟨x, hx⟩ : ∃ x, x = w.getD i 0 := ⟨_, rfl⟩
            rw [← hx] at hg m1 m2
            simp (maxSteps := 1000000) (disch := omega) only [f1, f3, hld, len_s, hiR, idx_s, hg, m1, m2, add_n, loopQ_normal, qaaz, qabz, qacz, qadz, qaez, qajz, qakz, qalz, qamz, qanz, evOp, qaoz, qapz, qarz, qatz, qavz,
 ↓reduceIte, Nat.reduceEqDiff, Option.map_some, qazz, qbdz, qbhz, qbpz, qbwz, beq_true, decide_true, Int.toNat_natCast, Int.ofNat_lt, Int.reduceToNat, ne_eq, not_false_eq_true]
            refine ⟨w.length - (i + 1), by omega, ?_⟩
            rw [hJ]; exact ⟨i + 1, rfl, by omega, rfl, f0, f1, rfl⟩
          · obtain rfl : i = w.length := by omega
            rcases hr' with rfl | ⟨c', r'', rfl, hb'⟩
            · have hiR : ¬ w.length < R.length := by rw [hRl]; simp
              simp (maxSteps := 1000000) (disch := omega) only [f0, f1, f3, hld, len_s, hiR, qaaz, qabz, qacz, qagz, qajz, qakz, qalz, qamz, qanz, evOp, qaoz, qapz, qarz, qatz, qavz,
 ↓reduceIte, Nat.reduceEqDiff, Option.map_some, qazz, qbbz, qbhz, qbjz, qbpz, beq_true, decide_false,
 Int.ofNat_lt, Bool.false_eq_true, and_true, reduceCtorEq]
            · have hiR : w.length < R.length := by rw [hRl]; simp
              have hg : R.getD w.length 0 = c' := by rw [hs]; simp [List.getD]
              rcases hb' with hb' | hb'
              · simp (maxSteps := 1000000) (disch := omega) only [f0, f1, f3, hld, len_s, hiR, idx_s, hg, eq_true hb', qaaz, qabz, qacz, qagz, qajz, qakz, qalz, qamz, qanz, evOp, qaoz, qapz, qarz, qatz, qavz,
 ↓reduceIte, Nat.reduceEqDiff, Option.map_some, qazz, qbbz, qbhz, qbjz, qbpz, qbwz, beq_true, decide_true, decide_false,
 Int.toNat_natCast, Int.ofNat_lt, Bool.false_eq_true, and_true, reduceCtorEq, ne_eq, not_true_eq_false]
              · have h32 : ¬ c' = 32 := by rw [hb']; decide
                simp (maxSteps := 1000000) (disch := omega) only [f0, f1, f3, hld, len_s, hiR, idx_s, hg, h32, eq_true hb', qaaz, qabz, qacz, qagz, qajz, qakz, qalz, qamz, qanz, evOp, qaoz, qapz, qarz, qatz, qavz,
 ↓reduceIte, Nat.reduceEqDiff, Option.map_some, qazz, qbbz, qbhz, qbjz, qbpz, qbwz, beq_true, decide_true, decide_false,
 Int.toNat_natCast, Int.ofNat_lt, Bool.false_eq_true, and_true, reduceCtorEq, ne_eq, not_true_eq_false, not_false_eq_true]
        · rintro xx E2 S2 ⟨rfl, rfl, f0, f1, f3⟩
          have hsl : slcPV 0 (.str R) none (some (.int .i64 (w.length : Int))) none = some (.str w) := by
            have h2 : (R.take w.length) = w := by rw [hs]; simp
            have h3 : w.length ≤ R.length := by omega
            simp [slcPV, bnd, intOf, h2, h3]
          have hP' := hP
          rw [hs] at hP'
          obtain ⟨q, s', y1, y2, y3⟩ := hY w r' _ hP' hw hwn hr'
          cases q with
          | false =>
            simp (maxSteps := 1000000) (disch := omega) only [f0, f1, f3, hld, hsl, y1, qaaz, qabz, qacz, qaiz, qajz, qalz, evOp, qaoz, qarz, qatz, qavz,
 ↓reduceIte, Nat.reduceEqDiff, List.map_cons, List.map_nil, Option.map_some, Option.map_none, qazz, qbaz, qbez, qbfz, qbhz, qbiz, qcfz, Bool.not_false]
            rw [hQQ]; exact ⟨.inr rfl, y3 rfl⟩
          | true =>
            obtain ⟨z1, z2⟩ := y2 rfl
            rw [← hs] at z1
            have hld' : loadPV s' false 1 (.ptr b 0) = some (.str R) := by simp [loadPV, z1, readCells]
            have hsl2 : slcPV 0 (.str R) (some (.int .i64 (w.length : Int))) none none = some (.str r') := by
              rw [slc_s_lo (by omega) (by omega), Int.toNat_natCast]
              rw [hs]; simp
            have hst : storePV s' 1 (.ptr b 0) (.str r') = some { s' with boxes := s'.boxes.set b [.str r'] } := by
              simp [storePV, z1, PV.cells, PV.inB, leafOk, setCells, hasTok, tokOf]
            simp (maxSteps := 1000000) (disch := omega) only [f0, f1, f3, hld, hsl, y1, hld', hsl2, hst, loopQ_normal, qaaz, qabz, qacz, qaez, qajz, qalz, evOp, qaoz, qarz, qatz, qauz, qavz,
 ↓reduceIte, Nat.reduceEqDiff, List.map_cons, List.map_nil, Option.map_some, Option.map_none, qazz, qbdz, qbfz, qbhz, qcfz, Bool.false_eq_true, Bool.not_true]
            have hwl := List.length_pos_iff.2 hw
            have hcl : (c :: t).length = R.length := by rw [hR]
            refine ⟨r'.length, by rw [hcl]; omega, ?_⟩
            rw [hI]; exact ⟨r', rfl, by omega, z2, f0, f1⟩
  obtain ⟨⟨xx, e1, s1⟩, h1, h2, h3⟩ := key
  refine ⟨s1, h3, ?_⟩
  rw [call_fn prog_395, h1]
  have hr : resOf e1 s1 F_trace_words_c1.results = some (.tup []) := rfl
  rcases h2 with rfl | rfl <;> simp [finish, hr]
end Go.Ab
/-
  A message's people, walked: a map of the addresses that were seen.
-/
namespace Go.Ab
set_option maxRecDepth 20000
variable {st s : St} {e : Env}

end Go.Ab
/-
  A mark is read: the words gathered.
-/
namespace Go.Ab
set_option maxRecDepth 20000
variable {st s : St} {e : Env}

def lstT (s : Bs) : List Bs := (wordsG s []).take 11
def howB (s : Bs) : Bool := decide (s = [115, 109, 116, 112]) || decide (s = [101, 115, 109, 116, 112]) || decide (s = [101, 115, 109, 116, 112, 115])
def nameOf (i : Nat) : Bs := [[102, 114, 111, 109], [98, 121], [119, 105, 116, 104], [105, 100]].getD i []
def namB (l : List Bs) (i : Nat) : Bool := decide (lowOf (l.getD (2 * i) []) = nameOf i)
def namesT (l : List Bs) : Bool := howB (lowOf (l.getD 5 [])) && namB l 0 && namB l 1 && namB l 2 && namB l 3
def forW (l : List Bs) : Bool := if l.length = 10 then (perT (l.getD 9 [])).2 && decide (lowOf (l.getD 8 []) = [102, 111, 114]) else true
def markOf (l : List Bs) (t z : Int) : TM := ⟨l.getD 1 [], l.getD 3 [], l.getD 7 [], if l.length = 10 then (perT (l.getD 9 [])).1 else [], t, z⟩
def numB (l : List Bs) : Bool := decide (l.length = 8) || decide (l.length = 10)
def headR (s : Bs) : Bs := if 0 ≤ Lib.index s [59] then s.take (Lib.index s [59]).toNat else s
def restR (s : Bs) : Bs := if 0 ≤ Lib.index s [59] then s.drop ((Lib.index s [59]).toNat + 1) else []
def readM (s : Bs) : Option TM :=
  let l := lstT (headR s)
  let d := parseD (restR s)
  if 0 ≤ Lib.index s [59] ∧ d.2.2 = 0 ∧ numB l = true then
    (if namesT l = true ∧ forW l = true ∧ rightT (markOf l d.1 d.2.1) = true then some (markOf l d.1 d.2.1) else none)
  else none
def tm0 : TM := ⟨[], [], [], [], 0, 0⟩
def readMV (r : Option TM) : PV := .tup [tV (r.getD tm0), .int .i64 (if r.isSome = true then 0 else 3)]

def Gath (st : St) (ts : List Bool) (lo : Nat) (d : PV) (xs : List Bs) : Prop := (d = .nils ∧ xs = []) ∨ ∃ i, d = rowV (.own i) xs ∧ st.toks.length ≤ i ∧ (st.toks ++ ts)[i]? = some true ∧ lo ≤ st.boxes.length
theorem Gath.vs {st : St} {ts : List Bool} {lo : Nat} {d : PV} {xs : List Bs} (h : Gath st ts lo d xs) : d.vs 1 = some (xs.map .str) := by
  rcases h with ⟨rfl, rfl⟩ | ⟨i, rfl, _⟩ <;> simp [PV.vs, rowV]
theorem Gath.app {st : St} {ts : List Bool} {lo : Nat} {d : PV} {xs : List Bs} {w B : Bs} {rc : List LoopS} (h : Gath st ts lo d xs) (hlo : st.boxes.length ≤ lo) (hxl : xs.length + 1 ≤ 100) :
    ∃ d' ts', appV 1 ⟨(dst st d B ts lo rc).boxes, (dst st d B ts lo rc).toks ++ [true], (dst st d B ts lo rc).loops, (dst st d B ts lo rc).low⟩ d (.sl 1 (.own (st.toks ++ ts).length) [.str w]) = some (d', dst st d B ts' lo rc) ∧
      storePV (dst st d B ts' lo rc) 1 (.ptr st.boxes.length 0) d' = some (dst st d' B ts' st.boxes.length rc) ∧ Gath st ts' st.boxes.length d' (xs ++ [w]) := by
  obtain ⟨i, ts', ha, hi1, hi2⟩ : ∃ i ts', appV 1 ⟨(dst st d B ts lo rc).boxes, (dst st d B ts lo rc).toks ++ [true], (dst st d B ts lo rc).loops, (dst st d B ts lo rc).low⟩ d (.sl 1 (.own (st.toks ++ ts).length) [.str w]) = some (rowV (.own i) (xs ++ [w]), dst st d B ts' lo rc) ∧ st.toks.length ≤ i ∧ (st.toks ++ ts')[i]? = some true := by
    rcases h with ⟨rfl, rfl⟩ | ⟨i, rfl, hi1, hi2, hi3⟩
    · refine ⟨st.toks.length + (ts.length + 1), ts ++ [true, true], ?_, by omega, by rw [get_app, get_app]; rfl⟩
      simp [appV, srcV, freshT, dst, rowV, room]
    · have hlt : i < (st.toks ++ ts).length := (List.getElem?_eq_some_iff.1 hi2).1
      have hg : (st.toks ++ ts ++ [true])[i]? = some true := by rw [List.getElem?_append_left hlt]; exact hi2
      refine ⟨st.toks.length + (ts.length + 1), (ts ++ [true]).set (i - st.toks.length) false ++ [true], ?_, by omega, ?_⟩
      · have hs : (st.toks ++ (ts ++ [true])).set i false = st.toks ++ (ts ++ [true]).set (i - st.toks.length) false := by
          rw [List.set_append_right _ _ hi1]
        have hr : xs.length + 1 ≤ room := by unfold room; omega
        have hg2 : (st.toks ++ (ts ++ [true]))[i]? = some true := by rw [← List.append_assoc]; exact hg
        simp [appV, srcV, rowV, appTok, freshT, dst, hg2, hs, hr, List.append_assoc]
      · have hsl : ((ts ++ [true]).set (i - st.toks.length) false).length = ts.length + 1 := by simp
        rw [get_app, ← hsl]
        exact get_app0
  have hm : min lo st.boxes.length = st.boxes.length := by omega
  refine ⟨_, ts', ha, ?_, .inr ⟨i, rfl, hi1, hi2, Nat.le_refl _⟩⟩
  rw [dst_st tok_row.1 tok_row.2.1 tok_row.2.2]
  simp [hasTok, rowV, tokOf, hm]

theorem kept_dst' {S : St} {d : PV} {B : Bs} {ts : List Bool} {lo : Nat} (hk : Kept st S) (hlo : st.boxes.length ≤ lo) : Kept st (dst S d B ts lo []) := by
  obtain ⟨h1, h2, h3, h4⟩ := hk
  have hb := (congrArg List.length h1)
  have ht := (congrArg List.length h4)
  simp only [List.length_take] at hb ht
  refine ⟨?_, by simp [dst, h2], hlo, ?_⟩
  · show (S.boxes ++ _).take _ = _
    rw [List.take_append_of_le_length (by omega)]; exact h1
  · show (S.toks ++ _).take _ = _
    rw [List.take_append_of_le_length (by omega)]; exact h4

theorem cut59 {s : Bs} : cutAt s [59] = .tup [.str (headR s), .str (restR s), .bool (decide (0 ≤ Lib.index s [59]))] := by
  unfold cutAt headR restR
  by_cases h : 0 ≤ Lib.index s [59]
  · simp [h]
  · simp [h]
theorem headR_len {s : Bs} : (headR s).length ≤ s.length := by unfold headR; split <;> simp; omega
theorem restR_len {s : Bs} : (restR s).length ≤ s.length := by unfold restR; split <;> simp

abbrev z6 : List PV := tC tm0
theorem At.st6 {S : St} {b : Nat} {m m' : TM} (h : At S b (tC m')) : ∃ S', storePV S 6 (.ptr b 0) (tV m) = some S' ∧ Wrote S S' b (tC m) := by
  refine ⟨_, ?_, wrote_set (ds := tC m) (lo := S.low) h (.inl rfl)⟩
  unfold At at h
  simp [storePV, h, tV, tC, PV.cells, setCells, PV.inB, PV.inB.inBAll, leafOk, hasTok, tokOf]
theorem At.ld6 {S : St} {b : Nat} {m : TM} (h : At S b (tC m)) : loadPV S true 6 (.ptr b 0) = some (tV m) := by
  unfold At at h; simp [loadPV, h, readCells, tV, tC]
theorem retRT {S : St} {b : Nat} {r : Option TM} {m : TM} {c : Int} {t1 t2 : Nat} (hk : Kept st S) (hA : At S b (tC m)) (h1 : e t1 = .ptr b 0) (h2 : e t2 = .int .i64 c) (hm : m = r.getD tm0) (hc : c = if r.isSome = true then 0 else 3) :
    ∃ rv, resOf e S [.cell t1 true 6, .tmp t2] = some rv ∧ leave st S rv = (readMV r, st) := by
  subst hm hc
  refine ⟨readMV r, ?_, hk.leave' ⟨fun n => rfl, fun n t => rfl⟩⟩
  simp only [resOf, rvAll, rv1, h1, hA.ld6, h2]
  rfl

theorem perT_len {s : Bs} : (perT s).1.length ≤ s.length := by
  have h1 := cutP_len (a := s)
  have h2 := cutS_len (a := (cutP s).1)
  obtain ⟨i, hi⟩ : ∃ i, i = (cutS (cutP s).1).1 := ⟨_, rfl⟩
  have hp : (perT s).1 = normalA (plainA i).1 := by rw [hi]; rfl
  rw [hp]
  rcases plain_good (s := i) with ⟨h, -, -⟩ | h
  · rw [normal_low h]; simp only [lowOf, List.length_map]; rw [hi]; omega
  · rw [h]
    have : normalA noA = [] := by decide
    simp [this]
def accT (l : List Bs) : Nat → Bool
  | 0 => howB (lowOf (l.getD 5 []))
  | i + 1 => accT l i && namB l i
theorem names_acc {l : List Bs} : namesT l = accT l 4 := rfl
theorem idx_name {i : Nat} (h : i < 4) : idxPV 4 false 1 (.agg [.str [102, 114, 111, 109], .str [98, 121], .str [119, 105, 116, 104], .str [105, 100]]) (.int .i64 (i : Int)) = some (.str (nameOf i)) := by
  match i, h with
  | 0, _ => rfl
  | 1, _ => rfl
  | 2, _ => rfl
  | 3, _ => rfl
theorem two_mul {i : Nat} (h : i < 4) (ek : EK) : binPV .mul ek (.int .i64 2) (.int .i64 (i : Int)) = some (.int .i64 ((2 * i : Nat) : Int)) := by
  match i, h with
  | 0, _ => rfl
  | 1, _ => rfl
  | 2, _ => rfl
  | 3, _ => rfl

set_option maxHeartbeats 16000000 in
theorem tRead_spec25 {l : Bs} (hl : l.length ≤ 100000) : call prog (.fn 359 []) [.str l] st = some (readMV (readM l), st) := by
  refine call_of_W prog_359 ?_
  unfold F_trace_Read; dsimp only
  generalize hQ1 : endQ st _ _ = Q0
  obtain ⟨b0, hb0⟩ : ∃ b0, b0 = st.boxes.length := ⟨_, rfl⟩
  have fin : ∀ (m : TM) (c : Int) (E : Env) (S : St), Kept st S → At S b0 (tC m) → m = (readM l).getD tm0 → c = (if (readM l).isSome = true then 0 else 3) → E 2 = .ptr b0 0 → E 3 = .int .i64 c → Q0 .ret E S := fun m c E S k hA hm hc h2 h3 => by
    rw [← hQ1, qblz]; exact retRT k hA h2 h3 hm hc
  obtain ⟨H, hH⟩ : ∃ H, H = headR l := ⟨_, rfl⟩
  obtain ⟨R, hR⟩ : ∃ R, R = restR l := ⟨_, rfl⟩
  obtain ⟨f, hf⟩ : ∃ f, f = decide (0 ≤ Lib.index l [59]) := ⟨_, rfl⟩
  obtain ⟨tt, htt⟩ : ∃ t, t = (parseD R).1 := ⟨_, rfl⟩
  obtain ⟨zz, hzz⟩ : ∃ z, z = (parseD R).2.1 := ⟨_, rfl⟩
  obtain ⟨ee, hee⟩ : ∃ x, x = (parseD R).2.2 := ⟨_, rfl⟩
  obtain ⟨L, hL⟩ : ∃ L, L = lstT H := ⟨_, rfl⟩
  have hHl : H.length ≤ 100000 := by rw [hH]; exact Nat.le_trans headR_len hl
  have hRl : R.length ≤ 100000 := by rw [hR]; exact Nat.le_trans restR_len hl
  have hread : readM l = if f = true ∧ ee = 0 ∧ numB L = true then (if namesT L = true ∧ forW L = true ∧ rightT (markOf L tt zz) = true then some (markOf L tt zz) else none) else none := by
    rw [hf, hee, htt, hzz, hL, hH, hR]
    unfold readM
    simp only [decide_eq_true_eq]
  have hWl := words_len H []
  simp only [List.length_nil, Nat.zero_add] at hWl
  have hC := fun S : St => Cut_spec (st := S) (a := l) (b := [59]) (by omega) (by simp)
  rw [cut59, ← hH, ← hR, ← hf] at hC
  have hP := fun S : St => dParse_spec (st := S) (l := R) hRl
  rw [← htt, ← hzz, ← hee] at hP
  refine W_cut (fun E S => Kept st S ∧ At S b0 z6 ∧ E 0 = .str l ∧ E 2 = .ptr b0 0) ?_ ?_
  · simp (maxSteps := 1000000) (disch := omega) only [allocPV, ← hb0, qabz, qajz, qalz, evOp, qapz, qarz, qatz, qavz,
 ↓reduceIte, Nat.reduceEqDiff, List.append_nil, qawz, true_and, and_true, reduceCtorEq]
    have h1 := Kept.box1 (st := st) (z := z6)
    have h2 := At.last (s := st) (z := z6) (T := st.toks) (Lp := st.loops) (lo := st.boxes.length)
    rw [← hb0] at h1 h2
    exact ⟨h1, h2⟩
  rintro e S ⟨hk, hA, h0, h2⟩
  refine W_scope1 rfl ?_
  generalize hQ2 : scopeQ _ _ _ Q0 = Q2
  have fin2 : ∀ E S, Q0 .ret E S → Q2 .ret E S := fun E S h => by rw [← hQ2]; exact h
  clear hQ2
  refine W_cut (fun E S => Kept st S ∧ At S b0 z6 ∧ E 2 = .ptr b0 0 ∧ E 4 = .str H ∧ E 5 = .str R ∧ E 6 = .bool f) ?_ ?_
  · simp (maxSteps := 1000000) (disch := omega) only [h0, h2, hC, qabz, qajz, qalz, evOp, qaoz, qapz, qaqz, qarz, qatz, qavz,
 ↓reduceIte, Nat.reduceEqDiff, List.map_cons, List.map_nil, Option.map_some, qcjz, List.getElem?_cons_zero, List.getElem?_cons_succ, true_and, and_true]
    exact ⟨hk, hA⟩
  clear hk hA h0 h2 hC
  rintro e S ⟨hk, hA, h2, h4, h5, h6⟩
  refine W_cut (fun E S => Kept st S ∧ At S b0 z6 ∧ E 2 = .ptr b0 0 ∧ E 4 = .str H ∧ E 6 = .bool f ∧ E 7 = .int .i64 tt ∧ E 8 = .int .i64 zz ∧ E 9 = .int .i64 ee) ?_ ?_
  · simp (maxSteps := 1000000) (disch := omega) only [h2, h4, h5, h6, hP, qabz, qajz, qalz, evOp, qaoz, qaqz, qarz, qatz, qavz,
 ↓reduceIte, Nat.reduceEqDiff, List.map_cons, List.map_nil, Option.map_some, qcjz, List.getElem?_cons_zero, List.getElem?_cons_succ, true_and, and_true]
    exact ⟨hk, hA⟩
  clear hk hA h2 h4 h5 h6 hP
  rintro e S ⟨hk, hA, h2, h4, h6, h7, h8, h9⟩
  -- the words
  have hbl : b0 < S.boxes.length := hA.lt
  refine W_cut (fun E S' => (∃ lo, S' = ⟨S.boxes ++ [[.nils]], S.toks, S.loops, lo⟩ ∧ st.boxes.length ≤ lo) ∧ E 2 = .ptr b0 0 ∧ E 4 = .str H ∧ E 6 = .bool f ∧ E 7 = .int .i64 tt ∧ E 8 = .int .i64 zz ∧ E 9 = .int .i64 ee ∧ E 10 = .ptr S.boxes.length 0) ?_ ?_
  · simp (maxSteps := 1000000) (disch := omega) only [h2, h4, h6, h7, h8, h9, allocPV, qabz, qajz, qalz, evOp, qarz, qatz, qavz,
 ↓reduceIte, Nat.reduceEqDiff, true_and, and_true]
    exact ⟨_, rfl, hk.lw⟩
  clear h2 h4 h6 h7 h8 h9
  rintro e _ ⟨⟨lo0, rfl, hlo0⟩, h2, h4, h6, h7, h8, h9, h10⟩
  refine W_cut (fun E S' => S' = ⟨S.boxes ++ [[.nils]], S.toks, S.loops, lo0⟩ ∧ E 2 = .ptr b0 0 ∧ E 4 = .str H ∧ E 6 = .bool f ∧ E 7 = .int .i64 tt ∧ E 8 = .int .i64 zz ∧ E 9 = .int .i64 ee ∧ E 10 = .ptr S.boxes.length 0) ?_ ?_
  · simp (maxSteps := 1000000) (disch := omega) only [h2, h4, h6, h7, h8, h9, h10, qafz, and_true]
  clear h2 h4 h6 h7 h8 h9 h10
  rintro e _ ⟨rfl, h2, h4, h6, h7, h8, h9, h10⟩
  refine W_cut (fun E S' => (∃ d, d.vs 1 = some (L.map .str) ∧ At S' S.boxes.length [d]) ∧ Kept st S' ∧ At S' b0 z6 ∧ E 2 = .ptr b0 0 ∧ E 6 = .bool f ∧ E 7 = .int .i64 tt ∧ E 8 = .int .i64 zz ∧ E 9 = .int .i64 ee ∧ E 10 = .ptr S.boxes.length 0) ?_ ?_
  · simp (maxSteps := 1000000) (disch := omega) only [h4, twords_spec, List.length_append, List.length_cons, List.length_nil, Nat.zero_add, List.append_assoc, qaaz, qabz, qadz, qajz, qalz, evOp, qaoz, qaqz, qarz, qatz, qavz,
 ↓reduceIte, List.nil_append, List.cons_append, List.map_cons, List.map_nil, qazz]
    refine W_rangeFunc (fid := 395) (caps := [.ptr (S.boxes.length + 1) 0]) rfl prog_395 ?_
    generalize hrec : recOf _ _ _ _ = rec
    have hra := congrArg LoopS.assign hrec.symm
    have hrb := congrArg LoopS.body hrec.symm
    dsimp only [recOf] at hra hrb
    have r0 : rec.status = 0 := by rw [← hrec]; rfl
    have r1 : rec.pend = .normal := by rw [← hrec]; rfl
    have r2 : rec.params = [31] := by rw [← hrec]; rfl
    have r3 : rec.env 10 = .ptr S.boxes.length 0 := by rw [← hrec]; exact h10
    obtain ⟨P, hP⟩ : ∃ P : Bs → St → Prop, P = fun r s => ∃ ts d lo xs, s = dst S d r ts lo [rec] ∧ wordsG H [] = xs ++ wordsG r [] ∧ xs.length ≤ 10 ∧ Gath S ts lo d xs ∧ S.boxes.length ≤ lo := ⟨_, rfl⟩
    obtain ⟨D, hD⟩ : ∃ D : St → Prop, D = fun s => ∃ ts d lo r rec', s = dst S d r ts lo [rec'] ∧ Gath S ts lo d L ∧ S.boxes.length ≤ lo ∧ rec'.status ≠ 1 ∧ (rec'.pend = .normal ∨ rec'.pend = .exit 0) := ⟨_, rfl⟩
    have hasg : ∀ (v : PV) (S : St), ex prog rec.assign (updAll rec.env rec.params [v]) S = some (.normal, upd (upd rec.env 31 v) 11 v, S) := fun v S => by
      refine ex_of_W ?_
      simp (maxSteps := 1000000) (disch := omega) only [hra, r2, updAll, qabz, qajz, qalz, evOp, qaoz, qarz, qatz, qavz,
 ↓reduceIte, true_and, and_true]
    obtain ⟨s1, hs1, hcall⟩ := twords_iter (st := ⟨S.boxes ++ [[.nils], [.str H]], S.toks, S.loops ++ [rec], min lo0 (S.boxes.length + 1)⟩) (l := H) (by omega) (b := S.boxes.length + 1) (k := S.loops.length) (P := P) (D := D)
      (fun r s h => by rw [hP] at h; obtain ⟨ts, d, lo, xs, rfl, _⟩ := h; simp [dst])
      (fun c r s h hc => by
        rw [hP] at h ⊢
        obtain ⟨ts, d, lo, xs, rfl, q1, q2, q3, q4⟩ := h
        exact ⟨ts, d, lo, xs, by simp [dst], by rw [q1, words_bl0 hc], q2, q3, q4⟩)
      (fun w r s h hw hwn hr => by
        rw [hP] at h
        obtain ⟨ts, d, lo, xs, rfl, q1, q2, q3, q4⟩ := h
        rw [words_head hw hwn hr] at q1
        have key : ∃ q s', call prog (.yld S.loops.length) [.str w] (dst S d (w ++ r) ts lo [rec]) = some (.bool q, s') ∧ ((q = true → s'.boxes[S.boxes.length + 1]? = some [.str (w ++ r)] ∧ P r { s' with boxes := s'.boxes.set (S.boxes.length + 1) [.str r] }) ∧ (q = false → D s')) := by
          refine yld_of_W (r := rec) (K := fun q s' => (q = true → s'.boxes[S.boxes.length + 1]? = some [.str (w ++ r)] ∧ P r { s' with boxes := s'.boxes.set (S.boxes.length + 1) [.str r] }) ∧ (q = false → D s')) (args := [.str w]) (by simp [dst]) r0 (by rw [r2]; rfl) (hasg _ _) ?_
          obtain ⟨rec1, hrec1⟩ : ∃ r, r = ({ rec with status := 1 } : LoopS) := ⟨_, rfl⟩
          have hset : ({ dst S d (w ++ r) ts lo [rec] with loops := (dst S d (w ++ r) ts lo [rec]).loops.set S.loops.length { rec with status := 1 } } : St) = dst S d (w ++ r) ts lo [rec1] := by
            rw [← hrec1]; simp [dst]
          rw [hset, hrb]
          obtain ⟨d', ts', ha, hst, hg⟩ := q3.app (w := w) (B := w ++ r) (rc := [rec1]) q4 (by omega)
          have htl : (dst S d (w ++ r) ts lo [rec1]).toks.length = (S.toks ++ ts).length := rfl
          have hvl := len_vs hg.vs
          rw [List.length_map] at hvl
          have hxl : (xs ++ [w]).length = xs.length + 1 := by simp
          rw [hxl] at hvl
          by_cases h10 : 10 < xs.length + 1
          · have e10 : (10 : Int) < ((xs.length + 1 : Nat) : Int) := by omega
            simp (maxSteps := 1000000) (disch := omega) only [r3, dst_ld, lit_s, freshT, htl, ha, hst, hvl, e10, qaaz, qabz, qacz, qadz, qagz, qajz, qalz, evOp, qaoz, qapz, qarz, qatz, qauz, qavz,
 ↓reduceIte, Nat.reduceEqDiff, List.map_cons, List.map_nil, Option.map_some, qazz, qbfz, qbhz, qbrz, decide_true, Bool.false_eq_true, reduceCtorEq]
            refine ⟨rec1, by simp [dst], fun q => by simp at q, fun _ => ?_⟩
            rw [hD]
            refine ⟨ts', d', S.boxes.length, w ++ r, { rec1 with status := 2, pend := .exit 0 }, by simp [dst], ?_, Nat.le_refl _, by simp, .inr rfl⟩
            have hL' : L = xs ++ [w] := by
              rw [hL, lstT, q1]
              have : xs.length = 10 := by omega
              rw [show xs ++ w :: wordsG r [] = (xs ++ [w]) ++ wordsG r [] by simp, List.take_append_of_le_length (by simp; omega), List.take_of_length_le (by simp; omega)]
            rw [hL']; exact hg
          · have e10 : ¬ (10 : Int) < ((xs.length + 1 : Nat) : Int) := by omega
            simp (maxSteps := 1000000) (disch := omega) only [r3, dst_ld, lit_s, freshT, htl, ha, hst, hvl, e10, qaaz, qabz, qacz, qadz, qaez, qajz, qalz, evOp, qaoz, qapz, qarz, qatz, qauz, qavz,
 ↓reduceIte, Nat.reduceEqDiff, List.map_cons, List.map_nil, Option.map_some, qazz, qbdz, qbhz, qbrz, decide_false,
 Bool.false_eq_true]
            refine ⟨rec1, by simp [dst], fun _ => ⟨by simp [dst], ?_⟩, fun q => by simp at q⟩
            rw [hP]
            refine ⟨ts', d', S.boxes.length, xs ++ [w], ?_, by rw [q1]; simp, by simp; omega, hg, Nat.le_refl _⟩
            simp only [dst, hrec1]
            simp
            rw [← r0, ← r1]
        obtain ⟨q, s', c1, c2, c3⟩ := key
        exact ⟨q, s', c1, c2, c3⟩)
      (fun s h => by
        rw [hP] at h; rw [hD]
        obtain ⟨ts, d, lo, xs, rfl, q1, q2, q3, q4⟩ := h
        have hx : L = xs := by
          rw [hL, lstT, q1, wordsG, if_pos rfl, List.append_nil, List.take_of_length_le (by omega)]
        rw [hx]
        exact ⟨ts, d, lo, [], rec, rfl, q3, q4, by rw [r0]; decide, .inl r1⟩)
      (by
        rw [hP]
        exact ⟨[], .nils, S.boxes.length + 2, [], by simp [dst], by simp, by simp, .inl ⟨rfl, rfl⟩, by omega⟩)
    rw [hD] at hs1
    obtain ⟨ts, d, lo, r, rec', rfl, hg, hlo, hs, hpd⟩ := hs1
    obtain ⟨L0, hL0⟩ : ∃ L0, L0 = min lo0 (S.boxes.length + 1) := ⟨_, rfl⟩
    have hL0' : st.boxes.length ≤ L0 := by rw [hL0]; have := hk.bl; omega
    rw [← hL0] at hcall ⊢
    have hleave : ∃ ts2 lo2, leave ⟨S.boxes ++ [[.nils], [.str H]], S.toks, S.loops ++ [rec], L0⟩ (dst S d r ts lo [rec']) (.tup []) = (.tup [], dst S d r ts2 lo2 [rec']) ∧ st.boxes.length ≤ lo2 := by
      have hbS := hk.bl
      by_cases h6 : S.boxes.length + 2 ≤ lo
      · refine ⟨[], L0, ?_, hL0'⟩
        simp [leave, dst, PV.inB, PV.inB.inBAll, keepRes, keepVals, h6]
        exact List.take_of_length_le (by simp)
      · refine ⟨ts, min L0 lo, ?_, by omega⟩
        simp [leave, dst, PV.inB, PV.inB.inBAll, h6]
        exact List.take_of_length_le (by simp)
    obtain ⟨ts2, lo2, hleave, hlo2⟩ := hleave
    rw [hleave] at hcall
    refine ⟨_, _, rec', hcall, by simp [dst], hs, ?_⟩
    have hlp : ({ dst S d r ts2 lo2 [rec'] with loops := (dst S d r ts2 lo2 [rec']).loops.take S.loops.length } : St) = dst S d r ts2 lo2 [] := by simp [dst]
    rw [hlp]
    have hAt1 : At (dst S d r ts2 lo2 []) S.boxes.length [d] := by simp [At, dst]
    have hAt0 : At (dst S d r ts2 lo2 []) b0 z6 := by
      unfold At at hA ⊢
      show (S.boxes ++ _)[b0]? = _
      rw [List.getElem?_append_left hbl]; exact hA
    have hfin := kept_dst' (d := d) (B := r) (ts := ts2) (lo := lo2) hk hlo2
    rcases hpd with hpd | hpd
    · rw [hpd]
      simp (maxSteps := 1000000) (disch := omega) only [h2, h6, h7, h8, h9, h10, qavz,
 ↓reduceIte, Nat.reduceEqDiff, qbdz, true_and, and_true]
      exact ⟨⟨d, hg.vs, hAt1⟩, hfin, hAt0⟩
    · rw [hpd]
      simp (maxSteps := 1000000) (disch := omega) only [h2, h6, h7, h8, h9, h10, qavz,
 ↓reduceIte, Nat.reduceEqDiff, qbfz, true_and, and_true]
      exact ⟨⟨d, hg.vs, hAt1⟩, hfin, hAt0⟩
  clear hk hA h2 h4 h6 h7 h8 h9 h10
  obtain ⟨b1, hb1⟩ : ∃ b1, b1 = S.boxes.length := ⟨_, rfl⟩
  rw [← hb1] at hbl ⊢
  clear hb1 hlo0 lo0 S
  rintro e S ⟨⟨d, hd, hB⟩, hk, hA, h2, h6, h7, h8, h9, h10⟩
  have hvl := len_vs hd
  rw [List.length_map] at hvl
  have hLw : ∀ w ∈ L, w.length ≤ 100000 := fun w hw => by
    rw [hL] at hw
    have := hWl.1 w (List.mem_of_mem_take hw)
    omega
  have hLg : ∀ i, (L.getD i []).length ≤ 100000 := fun i => by
    by_cases hi : i < L.length
    · exact hLw _ (getD_mem hi)
    · rw [List.getD, List.getElem?_eq_none (by omega)]; simp
  have badst : ∀ {S : St} {m' : TM}, Kept st S → At S b0 (tC m') → ∃ S1, storePV S 6 (.ptr b0 0) (.agg [.str [], .str [], .str [], .str [], .int .i64 0, .int .i64 0]) = some S1 ∧ Kept st S1 ∧ At S1 b0 z6 := fun {S m'} hk hA => by
    obtain ⟨S1, a1, w1⟩ := hA.st6 (m := tm0)
    exact ⟨S1, a1, w1.kp st hk (by omega), w1.at_⟩
  have hbz : buildCells [.str [], .str [], .str [], .str [], .int .i64 0, .int .i64 0] [] = some [.str [], .str [], .str [], .str [], .int .i64 0, .int .i64 0] := rfl
  refine W_cutR (fun E S => (f = true ∧ ee = 0 ∧ numB L = true) ∧ At S b1 [d] ∧ Kept st S ∧ At S b0 z6 ∧ E 2 = .ptr b0 0 ∧ E 6 = .bool f ∧ E 7 = .int .i64 tt ∧ E 8 = .int .i64 zz ∧ E 10 = .ptr b1 0) ?_ ?_
  · obtain ⟨S1, a1, a2, a3⟩ := badst hk hA
    have none_of : ¬ (f = true ∧ ee = 0 ∧ numB L = true) → readM l = none := fun h => by rw [hread, if_neg h]
    have out : readM l = none → ∀ E : Env, E 2 = .ptr b0 0 → E 3 = .int .i64 3 → Q2 .ret E S1 := fun h E k2 k3 => fin2 _ _ (fin tm0 3 E S1 a2 a3 (by rw [h]; rfl) (by rw [h]; rfl) k2 k3)
    have hl10 := hB.load (k := 0) rfl
    cases f with
    | false =>
      simp (maxSteps := 1000000) (disch := omega) only [h2, h6, h10, hbz, a1, qaaz, qabz, qacz, qaiz, qajz, qakz, qalz, qamz, qanz, evOp, qaoz, qapz, qarz, qatz, qauz, qavz,
 ↓reduceIte, Nat.reduceEqDiff, List.map_nil, Option.map_some, qazz, qbhz, qcfz, beq_false, Bool.false_eq_true, true_and, and_true, reduceCtorEq, Bool.not_true, Bool.not_false]
      exact .inr (out (none_of (by simp)) _ h2 rfl)
    | true =>
      by_cases he : ee = 0
      · by_cases e8 : L.length = 8
        · have e8' : (L.length : Int) = 8 := by omega
          simp (maxSteps := 1000000) (disch := omega) only [h2, h6, h7, h8, h9, h10, eq_true he, hl10, hvl, eq_true e8', qaaz, qabz, qacz, qaez, qajz, qakz, qalz, qamz, qanz, evOp, qaoz, qapz, qarz, qatz, qavz,
 ↓reduceIte, Nat.reduceEqDiff, Option.map_some, qazz, qbhz, qbuz, qcfz, beq_true, beq_false, decide_false,
 Bool.false_eq_true, true_and, and_true, reduceCtorEq, Bool.not_true, Bool.not_false, ne_eq, not_true_eq_false]
          exact .inl ⟨by simp [numB, e8], hB, hk, hA⟩
        · have e8' : ¬ (L.length : Int) = 8 := by omega
          by_cases e10 : L.length = 10
          · have e10' : (L.length : Int) = 10 := by omega
            simp (maxSteps := 1000000) (disch := omega) only [h2, h6, h7, h8, h9, h10, eq_true he, hl10, hvl, e8', eq_true e10', qaaz, qabz, qacz, qaez, qajz, qakz, qalz, qamz, qanz, evOp, qaoz, qapz, qarz, qatz, qavz,
 ↓reduceIte, Nat.reduceEqDiff, Option.map_some, qazz, qbhz, qbuz, qcfz, beq_true, beq_false, decide_true, decide_false,
 Bool.false_eq_true, true_and, and_true, reduceCtorEq, Bool.not_true, Bool.not_false, ne_eq, not_true_eq_false, not_false_eq_true]
            exact .inl ⟨by simp [numB, e10], hB, hk, hA⟩
          · have e10' : ¬ (L.length : Int) = 10 := by omega
            simp (maxSteps := 1000000) (disch := omega) only [h2, h6, h9, h10, eq_true he, hl10, hvl, e8', e10', hbz, a1, qaaz, qabz, qacz, qaiz, qajz, qakz, qalz, qamz, qanz, evOp, qaoz, qapz, qarz, qatz, qauz, qavz,
 ↓reduceIte, Nat.reduceEqDiff, List.map_nil, Option.map_some, qazz, qbhz, qbuz, qcfz, beq_true, beq_false, decide_true, decide_false,
 Bool.false_eq_true, true_and, and_true, reduceCtorEq, Bool.not_true, Bool.not_false, ne_eq, not_true_eq_false, not_false_eq_true]
            exact .inr (out (none_of (by simp [numB, e8, e10])) _ h2 rfl)
      · simp (maxSteps := 1000000) (disch := omega) only [h2, h6, h9, h10, he, hbz, a1, qaaz, qabz, qacz, qaiz, qajz, qakz, qalz, qamz, qanz, evOp, qaoz, qapz, qarz, qatz, qauz, qavz,
 ↓reduceIte, Nat.reduceEqDiff, List.map_nil, Option.map_some, qazz, qbhz, qbuz, qcfz, beq_false, decide_true, Bool.false_eq_true, true_and, and_true, reduceCtorEq, Bool.not_true, Bool.not_false, ne_eq, not_false_eq_true]
        exact .inr (out (none_of (by simp [he])) _ h2 rfl)
  clear hk hA hB h2 h6 h7 h8 h9 h10
  rintro e S ⟨hgood, hB, hk, hA, h2, h6, h7, h8, h10⟩
  rw [if_pos hgood] at hread
  obtain ⟨hf1, -, hnum⟩ := hgood
  rw [hf1] at h6
  have hnum' : L.length = 8 ∨ L.length = 10 := by simpa [numB] using hnum
  have hia : ∀ c : Int, 0 ≤ c → c.toNat < L.length → iaddrPV 1 d (.int .i64 c) = some (.cp [.str (L.getD c.toNat [])]) := fun c q1 q2 => iaddr_t hd q1 q2
  have i1 := hia 1 (by omega) (by simp; omega); have i3 := hia 3 (by omega) (by simp; omega); have i7 := hia 7 (by omega) (by simp; omega); have i5 := hia 5 (by omega) (by simp; omega)
  simp only [Int.reduceToNat, Int.toNat_one] at i1 i3 i7 i5
  obtain ⟨m1, hm1⟩ : ∃ m1 : TM, m1 = ⟨L.getD 1 [], L.getD 3 [], L.getD 7 [], [], tt, zz⟩ := ⟨_, rfl⟩
  obtain ⟨b2, hb2⟩ : ∃ b2, b2 = S.boxes.length := ⟨_, rfl⟩
  have hlt1 := hB.lt
  have hlt0 := hA.lt
  refine W_cut (fun E S => At S b2 (tC m1) ∧ At S b1 [d] ∧ Kept st S ∧ At S b0 z6 ∧ E 2 = .ptr b0 0 ∧ E 6 = .bool true ∧ E 10 = .ptr b1 0 ∧ E 12 = .ptr b2 0) ?_ ?_
  · have hl10 := hB.load (k := 0) rfl
    have hbd : buildCells [.str [], .str [], .str [], .str [], .int .i64 0, .int .i64 0] [(0, 1, .str (L.getD 1 [])), (1, 1, .str (L.getD 3 [])), (2, 1, .str (L.getD 7 [])), (4, 1, .int .i64 tt), (5, 1, .int .i64 zz)] = some (tC m1) := by rw [hm1]; rfl
    have hA2 := At.last (s := S) (z := z6) (T := S.toks) (Lp := S.loops) (lo := S.low)
    rw [← hb2] at hA2
    obtain ⟨S1, a1, w1⟩ := hA2.st6 (m := m1)
    have a1' : storePV ⟨S.boxes ++ [[.str [], .str [], .str [], .str [], .int .i64 0, .int .i64 0]], S.toks, S.loops, S.low⟩ 6 (.ptr b2 0) (.agg (tC m1)) = some S1 := a1
    simp (maxSteps := 1000000) (disch := omega) only [h2, h6, h7, h8, h10, hl10, i1, i3, i7, hbd, allocPV, ← hb2, a1', qabz, qajz, qalz, evOp, qaoz, qapz, qarz, qatz, qauz, qavz,
 ↓reduceIte, Nat.reduceEqDiff, List.map_cons, List.map_nil, Option.map_some, qciz, true_and, and_true]
    exact ⟨w1.at_, w1.ot _ _ (by omega) hB.alloc, w1.kp st hk.alloc' (by have := hk.bl; omega), w1.ot _ _ (by omega) hA.alloc⟩
  have hle2 : st.boxes.length ≤ b2 := by have := hk.bl; omega
  have hne12 : b1 ≠ b2 := by omega
  have hne02 : b0 ≠ b2 := by omega
  clear hk hA hB h2 h6 h7 h8 h10 hb2 hlt1 hlt0
  rintro e S ⟨hM, hB, hk, hA, h2, h6, h10, h12⟩
  have low : ∀ (i : Nat) (S : St), call prog (.fn 381 []) [.str (L.getD i [])] S = some (.str (lowOf (L.getD i [])), S) := fun i S => tlower_spec (by have := hLg i; omega)
  refine W_cut (fun E S => At S b2 (tC m1) ∧ At S b1 [d] ∧ Kept st S ∧ At S b0 z6 ∧ E 2 = .ptr b0 0 ∧ E 6 = .bool true ∧ E 10 = .ptr b1 0 ∧ E 12 = .ptr b2 0 ∧ E 13 = .str (lowOf (L.getD 5 []))) ?_ ?_
  · have hl10 := hB.load (k := 0) rfl
    simp (maxSteps := 1000000) (disch := omega) only [h2, h6, h10, h12, hl10, i5, low, qabz, qajz, qalz, evOp, qaoz, qapz, qaqz, qarz, qatz, qavz,
 ↓reduceIte, Nat.reduceEqDiff, List.map_cons, List.map_nil, Option.map_some, qciz, true_and, and_true]
    exact ⟨hM, hB, hk, hA⟩
  clear hk hA hB hM h2 h6 h10 h12
  rintro e S ⟨hM, hB, hk, hA, h2, h6, h10, h12, h13⟩
  refine W_cut (fun E S => At S b2 (tC m1) ∧ At S b1 [d] ∧ Kept st S ∧ At S b0 z6 ∧ E 2 = .ptr b0 0 ∧ E 6 = .bool true ∧ E 10 = .ptr b1 0 ∧ E 12 = .ptr b2 0 ∧ E 14 = .bool (accT L 0)) ?_ ?_
  · obtain ⟨q, hq⟩ : ∃ q, q = lowOf (L.getD 5 []) := ⟨_, rfl⟩
    have hac : accT L 0 = howB q := by rw [hq]; rfl
    rw [← hq] at h13
    by_cases c1 : q = [115, 109, 116, 112]
    · have ht : accT L 0 = true := by rw [hac]; simp only [howB, c1, decide_true, Bool.true_or]
      simp (maxSteps := 1000000) (disch := omega) only [h2, h6, h10, h12, h13, eq_true c1, ht, qabz, qajz, qakz, qalz, qamz, qanz, evOp, qaoz, qapz, qarz, qatz, qavz,
 ↓reduceIte, Nat.reduceEqDiff, Option.map_some, qcbz, beq_false, decide_true, Bool.false_eq_true, true_and, and_true, Bool.not_true]
      exact ⟨hM, hB, hk, hA⟩
    by_cases c2 : q = [101, 115, 109, 116, 112]
    · have ht : accT L 0 = true := by rw [hac]; simp only [howB, c2, decide_true, Bool.or_true, Bool.true_or]
      simp (maxSteps := 1000000) (disch := omega) only [h2, h6, h10, h12, h13, c1, eq_true c2, ht, qabz, qajz, qakz, qalz, qamz, qanz, evOp, qaoz, qapz, qarz, qatz, qavz,
 ↓reduceIte, Nat.reduceEqDiff, Option.map_some, qcbz, beq_false, decide_true, decide_false,
 Bool.false_eq_true, true_and, and_true, Bool.not_true, Bool.not_false]
      exact ⟨hM, hB, hk, hA⟩
    by_cases c3 : q = [101, 115, 109, 116, 112, 115]
    · have ht : accT L 0 = true := by rw [hac]; simp only [howB, c3, decide_true, Bool.or_true]
      simp (maxSteps := 1000000) (disch := omega) only [h2, h6, h10, h12, h13, c1, c2, eq_true c3, ht, qabz, qajz, qakz, qalz, qamz, qanz, evOp, qaoz, qapz, qarz, qatz, qavz,
 ↓reduceIte, Nat.reduceEqDiff, Option.map_some, qcbz, beq_false, decide_true, decide_false,
 Bool.false_eq_true, true_and, and_true, Bool.not_false]
      exact ⟨hM, hB, hk, hA⟩
    · have ht : accT L 0 = false := by rw [hac]; simp only [howB, c1, c2, c3, decide_false, Bool.or_false]
      simp (maxSteps := 1000000) (disch := omega) only [h2, h6, h10, h12, h13, c1, c2, c3, ht, qabz, qajz, qakz, qalz, qamz, qanz, evOp, qaoz, qapz, qarz, qatz, qavz,
 ↓reduceIte, Nat.reduceEqDiff, Option.map_some, qcbz, beq_false, decide_false,
 Bool.false_eq_true, true_and, and_true, Bool.not_false]
      exact ⟨hM, hB, hk, hA⟩
  clear hk hA hB hM h2 h6 h10 h12 h13
  rintro e S ⟨hM, hB, hk, hA, h2, h6, h10, h12, h14⟩
  refine W_cut (fun E S => At S b2 (tC m1) ∧ At S b1 [d] ∧ Kept st S ∧ At S b0 z6 ∧ E 2 = .ptr b0 0 ∧ E 6 = .bool true ∧ E 10 = .ptr b1 0 ∧ E 12 = .ptr b2 0 ∧ E 14 = .bool (namesT L)) ?_ ?_
  · have hbn : buildCells [.str [], .str [], .str [], .str []] [(0, 1, .str [102, 114, 111, 109]), (1, 1, .str [98, 121]), (2, 1, .str [119, 105, 116, 104]), (3, 1, .str [105, 100])] = some [.str [102, 114, 111, 109], .str [98, 121], .str [119, 105, 116, 104], .str [105, 100]] := rfl
    simp (maxSteps := 1000000) (disch := omega) only [hbn, qaaz, qabz, qadz, qajz, qalz, evOp, qapz, qarz, qatz, List.map_cons, List.map_nil, Option.map_some, qazz]
    obtain ⟨NM, hNM⟩ : ∃ NM, NM = PV.agg [.str [102, 114, 111, 109], .str [98, 121], .str [119, 105, 116, 104], .str [105, 100]] := ⟨_, rfl⟩
    rw [← hNM]
    obtain ⟨I, hI⟩ : ∃ I : Nat → Env → St → Prop, I = fun k E S => ∃ i : Nat, k = 4 - i ∧ i ≤ 4 ∧ At S b2 (tC m1) ∧ At S b1 [d] ∧ Kept st S ∧ At S b0 z6 ∧ E 2 = .ptr b0 0 ∧ E 6 = .bool true ∧ E 10 = .ptr b1 0 ∧ E 12 = .ptr b2 0 ∧ E 14 = .bool (accT L i) ∧ E 82 = NM ∧ E 83 = .int .i64 (i : Int) := ⟨_, rfl⟩
    refine W_loop I ?_ (n := 4) (by
      rw [hI]; exact ⟨0, rfl, by omega, hM, hB, hk, hA, h2, h6, h10, h12, h14, rfl, rfl⟩)
    clear hk hA hB hM h2 h6 h10 h12 h14
    intro k E S hh
    rw [hI] at hh
    obtain ⟨i, rfl, hi, hM, hB, hk, hA, h2, h6, h10, h12, h14, h82, h83⟩ := hh
    by_cases hlt : i < 4
    · have hlt' : (i : Int) < 4 := by omega
      have hix := idx_name hlt
      rw [← hNM] at hix
      have h2i := hia ((2 * i : Nat) : Int) (by omega) (by rw [Int.toNat_natCast]; omega)
      rw [Int.toNat_natCast] at h2i
      have hl10 := hB.load (k := 0) rfl
      have next : ∀ E : Env, E 2 = .ptr b0 0 → E 6 = .bool true → E 10 = .ptr b1 0 → E 12 = .ptr b2 0 → E 14 = .bool (accT L (i + 1)) → E 82 = NM → E 83 = .int .i64 ((i + 1 : Nat) : Int) → ∃ m, m < 4 - i ∧ I m E S := fun E k1 k2 k3 k4 k5 k6 k7 =>
        ⟨4 - (i + 1), by omega, by rw [hI]; exact ⟨i + 1, rfl, by omega, hM, hB, hk, hA, k1, k2, k3, k4, k5, k6, k7⟩⟩
      cases hac : accT L i with
      | false =>
        rw [hac] at h14
        simp (maxSteps := 1000000) (disch := omega) only [h14, h82, h83, hlt', hix, add_n, loopQ_normal, qaaz, qabz, qacz, qadz, qaez, qajz, qakz, qalz, qamz, qanz, evOp, qaoz, qapz, qarz, qatz, qavz,
 ↓reduceIte, Nat.reduceEqDiff, Option.map_some, qazz, qbdz, qbhz, qbpz, beq_true, decide_true, Bool.false_eq_true, Int.reduceToNat]
        exact next _ h2 h6 h10 h12 (by show _ = PV.bool (accT L i && namB L i); rw [hac]; rfl) h82 rfl
      | true =>
        rw [hac] at h14
        by_cases c1 : lowOf (L.getD (2 * i) []) = nameOf i
        · simp (maxSteps := 1000000) (disch := omega) only [h10, h14, h82, h83, hlt', hix, two_mul hlt, h2i, hl10, low, eq_true c1, add_n, loopQ_normal, qaaz, qabz, qacz, qadz, qaez, qajz, qakz, qalz, qamz, qanz, evOp, qaoz, qapz, qaqz, qarz, qatz, qavz,
 ↓reduceIte, Nat.reduceEqDiff, List.map_cons, List.map_nil, Option.map_some, qazz, qbdz, qbhz, qbpz, qcbz, qciz, beq_true, decide_true, Int.reduceToNat]
          exact next _ h2 h6 h10 h12 (by show _ = PV.bool (accT L i && namB L i); rw [hac, namB, decide_eq_true c1]; rfl) h82 rfl
        · simp (maxSteps := 1000000) (disch := omega) only [h10, h14, h82, h83, hlt', hix, two_mul hlt, h2i, hl10, low, c1, add_n, loopQ_normal, qaaz, qabz, qacz, qadz, qaez, qajz, qakz, qalz, qamz, qanz, evOp, qaoz, qapz, qaqz, qarz, qatz, qavz,
 ↓reduceIte, Nat.reduceEqDiff, List.map_cons, List.map_nil, Option.map_some, qazz, qbdz, qbhz, qbpz, qcbz, qciz, beq_true, decide_true, decide_false,
 Int.reduceToNat]
          exact next _ h2 h6 h10 h12 (by show _ = PV.bool (accT L i && namB L i); rw [hac, namB, decide_eq_false c1]; rfl) h82 rfl
    · obtain rfl : i = 4 := by omega
      have h83' : E 83 = .int .i64 4 := h83
      simp (maxSteps := 1000000) (disch := omega) only [h2, h6, h10, h12, h14, h83', Int.lt_irrefl, names_acc, qaaz, qabz, qacz, qagz, qajz, qalz, evOp, qaoz, qapz, qarz, qatz, qavz,
 ↓reduceIte, Nat.reduceEqDiff, Option.map_some, qazz, qbbz, qbfz, qbhz, qbjz, qbpz, decide_false,
 Bool.false_eq_true, true_and, and_true]
      exact ⟨hM, hB, hk, hA⟩
  clear hk hA hB hM h2 h6 h10 h12 h14
  rintro e S ⟨hM, hB, hk, hA, h2, h6, h10, h12, h14⟩
  refine W_cut (fun E S => At S b2 (tC (markOf L tt zz)) ∧ Kept st S ∧ At S b0 z6 ∧ E 2 = .ptr b0 0 ∧ E 6 = .bool (forW L) ∧ E 12 = .ptr b2 0 ∧ E 14 = .bool (namesT L)) ?_ ?_
  · have hl10 := hB.load (k := 0) rfl
    by_cases e10 : L.length = 10
    · have e10' : (L.length : Int) = 10 := by omega
      have i9 := hia 9 (by omega) (by simp; omega); have i8 := hia 8 (by omega) (by simp; omega)
      simp only [Int.reduceToNat] at i9 i8
      have hper := fun S : St => tperson_spec (st := S) (l := L.getD 9 []) (by have := hLg 9; omega)
      obtain ⟨S1, a1, w1⟩ := hM.st1 (off := 3) (v := .str (perT (L.getD 9 [])).1) ⟨rfl, rfl⟩ rfl (by simp [tC])
      have hw : (tC m1).set 3 (.str (perT (L.getD 9 [])).1) = tC (markOf L tt zz) := by rw [hm1, markOf, if_pos e10]; rfl
      rw [hw] at w1
      have hB1 := w1.ot _ _ hne12 hB
      have hl10' := hB1.load (k := 0) rfl
      obtain ⟨pb, hpb⟩ : ∃ pb, pb = (perT (L.getD 9 [])).2 := ⟨_, rfl⟩
      have hfw : forW L = (pb && decide (lowOf (L.getD 8 []) = [102, 111, 114])) := by rw [hpb, forW, if_pos e10]
      rw [hfw]
      rw [← hpb] at hper
      have hend := And.intro w1.at_ (And.intro (w1.kp st hk hle2) (w1.ot _ _ hne02 hA))
      cases pb with
      | false =>
        simp (maxSteps := 1000000) (disch := omega) only [h2, h10, h12, h14, hl10, hvl, eq_true e10', i9, hper, faP, Nat.zero_add, a1, Bool.false_and, qaaz, qabz, qacz, qajz, qakz, qalz, qamz, qanz, evOp, qaoz, qapz, qaqz, qarz, qatz, qauz, qavz,
 ↓reduceIte, Nat.reduceEqDiff, List.map_cons, List.map_nil, Option.map_some, qazz, qbhz, qbtz, qciz, beq_true, decide_true, Bool.false_eq_true, qcjz, List.getElem?_cons_zero, List.getElem?_cons_succ, true_and, and_true]
        exact hend
      | true =>
        by_cases c1 : lowOf (L.getD 8 []) = [102, 111, 114]
        · simp (maxSteps := 1000000) (disch := omega) only [h2, h10, h12, h14, hl10, hl10', hvl, eq_true e10', i9, i8, hper, faP, Nat.zero_add, a1, low, eq_true c1, Bool.and_self, qaaz, qabz, qacz, qajz, qakz, qalz, qamz, qanz, evOp, qaoz, qapz, qaqz, qarz, qatz, qauz, qavz,
 ↓reduceIte, Nat.reduceEqDiff, List.map_cons, List.map_nil, Option.map_some, qazz, qbhz, qbtz, qcbz, qciz, beq_true, decide_true, qcjz, List.getElem?_cons_zero, List.getElem?_cons_succ, true_and, and_true]
          exact hend
        · simp (maxSteps := 1000000) (disch := omega) only [h2, h10, h12, h14, hl10, hl10', hvl, eq_true e10', i9, i8, hper, faP, Nat.zero_add, a1, low, c1, Bool.and_false, qaaz, qabz, qacz, qajz, qakz, qalz, qamz, qanz, evOp, qaoz, qapz, qaqz, qarz, qatz, qauz, qavz,
 ↓reduceIte, Nat.reduceEqDiff, List.map_cons, List.map_nil, Option.map_some, qazz, qbhz, qbtz, qcbz, qciz, beq_true, decide_true, decide_false,
 qcjz, List.getElem?_cons_zero, List.getElem?_cons_succ, true_and, and_true]
          exact hend
    · have e10' : ¬ (L.length : Int) = 10 := by omega
      have hfw : forW L = true := by rw [forW, if_neg e10]
      have hmk : markOf L tt zz = m1 := by rw [hm1, markOf, if_neg e10]
      simp (maxSteps := 1000000) (disch := omega) only [h2, h6, h10, h12, h14, hl10, hvl, e10', hfw, hmk, qaaz, qabz, qacz, qaez, qajz, qalz, evOp, qaoz, qapz, qarz, qatz, qavz,
 ↓reduceIte, Nat.reduceEqDiff, Option.map_some, qazz, qbhz, qbtz, decide_false,
 Bool.false_eq_true, true_and, and_true]
      exact ⟨hM, hk, hA⟩
  clear hk hA hB hM h2 h6 h10 h12 h14
  rintro e S ⟨hM, hk, hA, h2, h6, h12, h14⟩
  obtain ⟨M, hMk⟩ : ∃ M, M = markOf L tt zz := ⟨_, rfl⟩
  rw [← hMk] at hM hread
  have hok : okT M := by
    rw [hMk]
    refine ⟨by have := hLg 1; show (L.getD 1 []).length ≤ _; omega, by have := hLg 3; show (L.getD 3 []).length ≤ _; omega, by have := hLg 7; show (L.getD 7 []).length ≤ _; omega, ?_⟩
    show (if L.length = 10 then (perT (L.getD 9 [])).1 else []).length ≤ _
    split
    · have := perT_len (s := L.getD 9 []); have := hLg 9; omega
    · simp
  have hR := fun S : St => tRight_spec25 (st := S) hok
  obtain ⟨S1, a1, a2, a3⟩ := badst hk hA
  have out : readM l = none → ∀ E : Env, E 2 = .ptr b0 0 → E 3 = .int .i64 3 → Q2 .ret E S1 := fun h E k2 k3 => fin2 _ _ (fin tm0 3 E S1 a2 a3 (by rw [h]; rfl) (by rw [h]; rfl) k2 k3)
  cases n1 : namesT L with
  | false =>
    rw [n1] at h14
    simp (maxSteps := 1000000) (disch := omega) only [h2, h14, hbz, a1, qaaz, qabz, qacz, qaiz, qajz, qakz, qalz, qamz, qanz, evOp, qaoz, qapz, qarz, qatz, qauz, qavz,
 ↓reduceIte, Nat.reduceEqDiff, List.map_nil, Option.map_some, qazz, qbaz, qbhz, qcfz, beq_false, Bool.false_eq_true, Bool.not_true, Bool.not_false]
    exact out (by rw [hread, if_neg (by simp [n1])]) _ h2 rfl
  | true =>
  rw [n1] at h14
  cases n2 : forW L with
  | false =>
    rw [n2] at h6
    simp (maxSteps := 1000000) (disch := omega) only [h2, h6, h14, hbz, a1, qaaz, qabz, qacz, qaiz, qajz, qakz, qalz, qamz, qanz, evOp, qaoz, qapz, qarz, qatz, qauz, qavz,
 ↓reduceIte, Nat.reduceEqDiff, List.map_nil, Option.map_some, qazz, qbaz, qbhz, qcfz, beq_false, Bool.false_eq_true, Bool.not_true, Bool.not_false]
    exact out (by rw [hread, if_neg (by simp [n2])]) _ h2 rfl
  | true =>
  rw [n2] at h6
  cases n3 : rightT M with
  | false =>
    rw [n3] at hR
    simp (maxSteps := 1000000) (disch := omega) only [h2, h6, h12, h14, hM.ld6, hR, hbz, a1, qaaz, qabz, qacz, qaiz, qajz, qakz, qalz, qamz, qanz, evOp, qaoz, qapz, qaqz, qarz, qatz, qauz, qavz,
 ↓reduceIte, Nat.reduceEqDiff, List.map_cons, List.map_nil, Option.map_some, qazz, qbaz, qbhz, qcfz, beq_false, Bool.false_eq_true, Bool.not_true, Bool.not_false]
    exact out (by rw [hread, if_neg (by simp [n3])]) _ h2 rfl
  | true =>
  rw [n3] at hR
  obtain ⟨S2, c1, w2⟩ := hA.st6 (m := M)
  simp (maxSteps := 1000000) (disch := omega) only [h2, h6, h12, h14, hM.ld6, hR, c1, qaaz, qabz, qacz, qaez, qaiz, qajz, qakz, qalz, qamz, qanz, evOp, qaoz, qapz, qaqz, qarz, qatz, qauz, qavz,
 ↓reduceIte, Nat.reduceEqDiff, List.map_cons, List.map_nil, Option.map_some, qazz, qbhz, qcfz, beq_false, Bool.false_eq_true, Bool.not_true, Bool.not_false]
  have hs : readM l = some M := by rw [hread, if_pos ⟨n1, n2, n3⟩]
  exact fin2 _ _ (fin M 0 _ S2 (w2.kp st hk (by omega)) w2.at_ (by rw [hs]; rfl) (by rw [hs]; rfl) h2 rfl)
end Go.Ab
/-
  What must come of fixed calls of trace, reckoned.
-/
namespace Go.Ab
set_option maxRecDepth 100000 in
theorem al25_0 : evV prog 4000 (.fn 347 []) [] ⟨[], [], [], 0⟩ = some (.bool true, ⟨[], [], [], 0⟩) := by kernel_rfl
theorem alive25 : callpV (call prog) (.fn 347 []) [] = some (.bool true) := callp_of rfl rfl rfl (call_of al25_0)
end Go.Ab
/-
  Marks go there and back, plain; the law TraceBack.
-/
namespace Go.Ab
set_option maxRecDepth 20000
variable {st s : St} {e : Env} {m : TM}

def okC (c : UInt8) : Prop := c ≠ 32 ∧ c ≠ 9 ∧ c ≠ 59
theorem alnC_ok {c : UInt8} (h : alnC c = true) : okC c := by
  have := all8 (p := fun c => !alnC c || (c != 32 && c != 9 && c != 59)) (by kernel_rfl) c
  rw [h] at this
  simpa [okC, and_assoc] using this
theorem labC_ok {c : UInt8} (h : labC c = true) : okC c := by
  have := all8 (p := fun c => !labC c || (c != 32 && c != 9 && c != 59)) (by kernel_rfl) c
  rw [h] at this
  simpa [okC, and_assoc] using this
theorem atC_ok {c : UInt8} (h : atC c = true) : okC c := by
  have := all8 (p := fun c => !atC c || (c != 32 && c != 9 && c != 59)) (by kernel_rfl) c
  rw [h] at this
  simpa [okC, and_assoc] using this
def okW (w : Bs) : Prop := w ≠ [] ∧ ∀ c ∈ w, okC c
theorem okW.no {w : Bs} (h : okW w) : noBl w := fun c hc => ⟨(h.2 c hc).1, (h.2 c hc).2.1⟩
theorem dom_ok {d : Bs} (h : domB d = true) : okW d ∧ d.length ≤ 253 := by
  simp only [domB, Bool.and_eq_true, decide_eq_true_eq] at h
  refine ⟨⟨(parts_ends rfl h.2).1, fun c hc => ?_⟩, h.1⟩
  rcases parts_chars (fun x hx c hc => (lab_ne hx).2 c hc) h.2 c hc with h | rfl
  · exact labC_ok h
  · exact ⟨by decide, by decide, by decide⟩
theorem id_ok {l : Bs} (h : idB l = true) : okW l ∧ l.length ≤ 64 := by
  simp only [idB, Bool.and_eq_true, decide_eq_true_eq, List.all_eq_true] at h
  exact ⟨⟨fun q => by rw [q] at h; simp at h, fun c hc => alnC_ok (h.1.1 c hc)⟩, h.2⟩
theorem person_ok {p : Bs} (h : personB p = true) : okW p ∧ p.length ≤ 318 ∧ (plainA p).2 = 0 ∧ lowOf p = p := by
  simp only [personB, Bool.and_eq_true, decide_eq_true_eq] at h
  obtain ⟨h1, h2, h3⟩ := plain_at0 h.1
  have hf := right_facts h3
  refine ⟨⟨fun q => ?_, fun c hc => ?_⟩, ?_, h.1, h.2⟩
  · rw [q] at h2; simp [atA] at h2
  · rw [← h2] at hc
    simp only [atA, List.mem_append, List.mem_cons] at hc
    rcases hc with hc | rfl | hc
    · rcases hf.lc c hc with h | rfl
      · exact atC_ok h
      · exact ⟨by decide, by decide, by decide⟩
    · exact ⟨by decide, by decide, by decide⟩
    · rcases hf.dc c hc with h | rfl
      · exact labC_ok h
      · exact ⟨by decide, by decide, by decide⟩
  · rw [← h2]
    have := hf.ll; have := hf.dl
    simp [atA]; omega
theorem per_back {p : Bs} (h : personB p = true) : perT (60 :: (p ++ [62])) = (p, true) := by
  obtain ⟨h1, h2, h3, h4⟩ := person_ok h
  have c1 : cutP (60 :: (p ++ [62])) = (p ++ [62], true) := by unfold cutP; simp
  have c2 : cutS (p ++ [62]) = (p, true) := by
    unfold cutS; rw [if_pos (List.suffix_append _ _)]; simp
  unfold perT
  rw [c1]; simp only; rw [c2]; simp only
  rw [normal_low h3, h4, h3]; rfl

structure GoodT (m : TM) : Prop where
  ok : okP m.at_ m.sh
  fr : okW m.fr
  by_ : okW m.by_
  id : okW m.id
  fl : m.fr.length ≤ 253
  bl : m.by_.length ≤ 253
  il : m.id.length ≤ 64
  fo : m.for_ = [] ∨ personB m.for_ = true
theorem good_of (h : rightT m = true) : GoodT m := by
  obtain ⟨h1, h2, h3, h4, h5⟩ := rightT_ok h
  obtain ⟨f1, f2⟩ := dom_ok h2
  obtain ⟨b1, b2⟩ := dom_ok h3
  obtain ⟨i1, i2⟩ := id_ok h4
  exact ⟨h1, f1, b1, i1, f2, b2, i2, by simpa [forB] using h5⟩
theorem GoodT.pl (h : GoodT m) : m.for_.length ≤ 318 := by
  rcases h.fo with h | h
  · rw [h]; simp
  · exact (person_ok h).2.1
theorem GoodT.okT (h : GoodT m) : okT m := ⟨by have := h.fl; omega, by have := h.bl; omega, by have := h.il; omega, by have := h.pl; omega⟩
theorem head_len (h : GoodT m) : (headT m).length ≤ 940 := by
  have h1 := h.fl; have h2 := h.bl; have h3 := h.il; have h4 := h.pl
  have : (forT m.for_).length ≤ 325 := by unfold forT; split <;> simp [sFor]; omega
  simp [headT, sFrom, sBy, sWith]; omega
theorem text_len (h : GoodT m) : (textT m).length ≤ 980 := by
  have h1 := head_len h
  have h2 := (datX_ok h.ok).1
  simp [textT, h2]; omega
def wordsT (m : TM) : List Bs := [[102, 114, 111, 109], m.fr, [98, 121], m.by_, [119, 105, 116, 104], [69, 83, 77, 84, 80], [105, 100], m.id] ++ (if m.for_ = [] then [] else [[102, 111, 114], 60 :: (m.for_ ++ [62])])
theorem head_words (h : GoodT m) : wordsG (headT m) [] = wordsT m := by
  have cl : ∀ w : Bs, (w.all fun c => c != 32 && c != 9) = true → noBl w := fun w hw c hc => by
    have := List.all_eq_true.1 hw c hc
    simpa using this
  have step : ∀ (w r : Bs), noBl w → w ≠ [] → wordsG (w ++ 32 :: r) [] = w :: wordsG r [] := fun w r h1 h2 => words_one h1 h2
  have e1 : headT m = [102, 114, 111, 109] ++ 32 :: (m.fr ++ 32 :: ([98, 121] ++ 32 :: (m.by_ ++ 32 :: ([119, 105, 116, 104] ++ 32 :: ([69, 83, 77, 84, 80] ++ 32 :: ([105, 100] ++ 32 :: (m.id ++ forT m.for_))))))) := by
    simp [headT, sFrom, sBy, sWith]
  rw [e1, step _ _ (cl _ rfl) (by simp), step _ _ h.fr.no h.fr.1, step _ _ (cl _ rfl) (by simp), step _ _ h.by_.no h.by_.1, step _ _ (cl _ rfl) (by simp), step _ _ (cl _ rfl) (by simp), step _ _ (cl _ rfl) (by simp)]
  unfold wordsT
  by_cases hf : m.for_ = []
  · rw [if_pos hf, forT, if_pos hf, List.append_nil, words_last h.id.no h.id.1]; rfl
  · rw [if_neg hf, forT, if_neg hf]
    have hp := (h.fo.resolve_left hf)
    obtain ⟨p1, -⟩ := person_ok hp
    have e2 : m.id ++ (sFor ++ m.for_ ++ [62]) = m.id ++ 32 :: ([102, 111, 114] ++ 32 :: (60 :: (m.for_ ++ [62]))) := by simp [sFor]
    have hw : noBl (60 :: (m.for_ ++ [62])) := fun c hc => by
      simp only [List.mem_cons, List.mem_append, List.not_mem_nil, or_false] at hc
      rcases hc with rfl | hc | rfl
      · decide
      · exact p1.no c hc
      · decide
    rw [e2, step _ _ h.id.no h.id.1, step _ _ (cl _ rfl) (by simp), words_last hw (by simp)]; rfl
theorem head_59 (h : GoodT m) : ∀ c ∈ headT m, c ≠ 59 := by
  have cl : ∀ w : Bs, (w.all fun c => c != 59) = true → ∀ c ∈ w, c ≠ 59 := fun w hw c hc => by
    have := List.all_eq_true.1 hw c hc
    simpa using this
  intro c hc
  unfold headT at hc
  simp only [List.mem_append] at hc
  rcases hc with (((((hc | hc) | hc) | hc) | hc) | hc) | hc
  · exact cl _ (by decide) c hc
  · exact (h.fr.2 c hc).2.2
  · exact cl _ (by decide) c hc
  · exact (h.by_.2 c hc).2.2
  · exact cl _ (by decide) c hc
  · exact (h.id.2 c hc).2.2
  · unfold forT at hc
    split at hc
    · cases hc
    · rename_i hf
      obtain ⟨p1, -⟩ := person_ok (h.fo.resolve_left hf)
      simp only [List.mem_append] at hc
      rcases hc with (hc | hc) | hc
      · exact cl _ (by decide) c hc
      · exact (p1.2 c hc).2.2
      · exact cl _ (by decide) c hc

theorem read_write (hr : rightT m = true) : readM (textT m) = some m := by
  have h := good_of hr
  have hix : Lib.index (textT m) [59] = ((headT m).length : Int) := by
    have : textT m = headT m ++ 59 :: (32 :: datX m.at_ m.sh) := by simp [textT]
    rw [this]; exact index_chr _ _ (head_59 h)
  have h0 : (0 : Int) ≤ Lib.index (textT m) [59] := by rw [hix]; omega
  have hh : headR (textT m) = headT m := by
    unfold headR; rw [if_pos h0, hix, Int.toNat_natCast]; simp [textT]
  have hrr : restR (textT m) = 32 :: datX m.at_ m.sh := by
    unfold restR; rw [if_pos h0, hix, Int.toNat_natCast]
    have : textT m = (headT m ++ [59]) ++ (32 :: datX m.at_ m.sh) := by simp [textT]
    rw [this, List.drop_append_of_le_length (by simp), List.drop_of_length_le (by simp)]; rfl
  have hl : lstT (headT m) = wordsT m := by
    unfold lstT; rw [head_words h, List.take_of_length_le]
    unfold wordsT; split <;> simp
  unfold readM
  rw [hh, hrr, hl, datX_32 h.ok]
  simp only
  have hnum : numB (wordsT m) = true := by unfold numB wordsT; split <;> rfl
  rw [if_pos ⟨h0, trivial, hnum⟩]
  have hnm : namesT (wordsT m) = true := by
    have : ∀ r, namesT ([[102, 114, 111, 109], m.fr, [98, 121], m.by_, [119, 105, 116, 104], [69, 83, 77, 84, 80], [105, 100], m.id] ++ r) = true := fun r => by
      simp [namesT, namB, nameOf]; decide
    exact this _
  by_cases hf : m.for_ = []
  · have hm : markOf (wordsT m) m.at_ m.sh = m := by
      obtain ⟨f, b, i, p, a, z⟩ := m
      simp only at hf; subst hf
      simp [markOf, wordsT]
    have hfw : forW (wordsT m) = true := by unfold forW wordsT; rw [if_pos hf]; rfl
    rw [hm, if_pos ⟨hnm, hfw, hr⟩]
  · have hp := per_back (h.fo.resolve_left hf)
    have hm : markOf (wordsT m) m.at_ m.sh = m := by
      obtain ⟨f, b, i, p, a, z⟩ := m
      simp only at hf hp
      simp [markOf, wordsT, hf, hp]
    have hfw : forW (wordsT m) = true := by
      unfold forW wordsT; rw [if_neg hf]
      simp [hp]; decide
    rw [hm, if_pos ⟨hnm, hfw, hr⟩]
theorem readM_right {s : Bs} {y : TM} (h : readM s = some y) : rightT y = true := by
  unfold readM at h
  simp only at h
  split at h
  · split at h
    · rename_i h2; cases h; exact h2.2.2
    · cases h
  · cases h

theorem eq_tt {m : TM} : binPV .eql (.struct [.s, .s, .s, .s, .i, .i]) (tV m) (tV m) = some (.bool true) ∧ binPV .neq (.struct [.s, .s, .s, .s, .i, .i]) (tV m) (tV m) = some (.bool false) := by
  constructor <;> simp [binPV, tV, tC, eqPV, eqCells, eqLeaf]

set_option maxHeartbeats 8000000 in
theorem law_TraceBack {l : Bs} (hr : rwT m) (hl : l.length ≤ 9223372036854775807) : ∃ s', call prog (.fn 361 []) [tV m, .str l] ⟨[], [], [], 0⟩ = some (.bool true, s') := by
  refine law_of_W prog_361 rfl ?_
  unfold F_posthornlaw25_TraceBack; dsimp only
  have hG := fun S : St => Great25_spec (st := S) hr
  refine W_cut (fun E S => E 1 = .str l ∧ E 2 = .cp (tC m)) ?_ ?_
  · simp (maxSteps := 1000000) (disch := omega) only [strip_t, cells_t, qabz, qajz, qalz, evOp, qaoz, qapz, qarz, qatz, qavz,
 ↓reduceIte, Nat.reduceEqDiff, qawz, qaxz, Option.map_some, true_and, and_true]
  rintro e S ⟨h1, h2⟩
  cases hg : greatT25 m with
  | true =>
    rw [hg] at hG
    simp (maxSteps := 1000000) (disch := omega) only [h2, ltA, hG, alive25, qaaz, qabz, qacz, qaiz, qajz, qakz, qalz, qamz, qanz, evOp, qaoz, qapz, qaqz, qarz, qatz, qavz,
 ↓reduceIte, Nat.reduceEqDiff, List.map_cons, List.map_nil, Option.map_some, qazz, qbaz, qbhz, beq_false, Bool.false_eq_true, and_true, reduceCtorEq, or_true, Bool.not_true]
  | false =>
  rw [hg] at hG
  have ok := greatT_ok hg
  by_cases c1 : 2000 < l.length
  · have e1 : (2000 : Int) < (l.length : Int) := by omega
    simp (maxSteps := 1000000) (disch := omega) only [h1, h2, ltA, hG, len_s, e1, alive25, qaaz, qabz, qacz, qaiz, qajz, qakz, qalz, qamz, qanz, evOp, qaoz, qapz, qaqz, qarz, qatz, qavz,
 ↓reduceIte, Nat.reduceEqDiff, List.map_cons, List.map_nil, Option.map_some, qazz, qbaz, qbhz, qbrz, beq_false, decide_true, Bool.false_eq_true, and_true, reduceCtorEq, or_true, Bool.not_false]
  have e1 : ¬ (2000 : Int) < (l.length : Int) := by omega
  refine W_cut (fun E S => E 1 = .str l ∧ E 2 = .cp (tC m)) ?_ ?_
  · simp (maxSteps := 1000000) (disch := omega) only [h1, h2, ltA, hG, len_s, e1, qaaz, qabz, qacz, qaez, qajz, qakz, qalz, qamz, qanz, evOp, qaoz, qapz, qaqz, qarz, qatz, qavz,
 ↓reduceIte, Nat.reduceEqDiff, List.map_cons, List.map_nil, Option.map_some, qazz, qbhz, qbrz, beq_false, decide_false,
 Bool.false_eq_true, and_true, Bool.not_false]
  clear h1 h2 hG
  rintro e S ⟨h1, h2⟩
  have hW := fun S : St => tWrite_spec25 (st := S) ok
  refine W_cut (fun E S => E 1 = .str l ∧ E 2 = .cp (tC m) ∧ E 5 = .str (writeT m).1 ∧ E 6 = .int .i64 (writeT m).2) ?_ ?_
  · simp (maxSteps := 1000000) (disch := omega) only [h1, h2, ltA, hW, qabz, qajz, qalz, evOp, qaoz, qaqz, qarz, qatz, qavz,
 ↓reduceIte, Nat.reduceEqDiff, List.map_cons, List.map_nil, Option.map_some, qcjz, List.getElem?_cons_zero, List.getElem?_cons_succ, true_and, and_true]
  clear h1 h2 hW
  rintro e S ⟨h1, h2, h5, h6⟩
  have hbx : ∀ (S : St) (y : TM), ∃ S1, storePV ⟨S.boxes ++ [[.str [], .str [], .str [], .str [], .int .i64 0, .int .i64 0]], S.toks, S.loops, S.low⟩ 6 (.ptr S.boxes.length 0) (tV y) = some S1 ∧ At S1 S.boxes.length (tC y) ∧ ∀ b ds, At S b ds → At S1 b ds := fun S y => by
    obtain ⟨S1, a1, w1⟩ := (At.last (s := S) (z := z6) (T := S.toks) (Lp := S.loops) (lo := S.low)).st6 (m := y)
    exact ⟨S1, a1, w1.at_, fun b ds h => w1.ot _ _ (by have := h.lt; omega) h.alloc⟩
  have hRs := fun S : St => tRight_spec25 (st := S) ok
  obtain ⟨q1, q2⟩ := eq_tt (m := m)
  refine W_cut (fun E S => E 1 = .str l ∧ E 2 = .cp (tC m) ∧ E 6 = .int .i64 (writeT m).2) ?_ ?_
  · cases hrt : rightT m with
    | false =>
      have hw : writeT m = ([], 3) := by rw [writeT, if_neg (by simp [hrt])]
      rw [hw] at h5 h6
      simp (maxSteps := 1000000) (disch := omega) only [h1, h2, h6, hw, qaaz, qabz, qacz, qaez, qajz, qalz, evOp, qaoz, qapz, qarz, qatz, qavz,
 ↓reduceIte, Nat.reduceEqDiff, Option.map_some, qazz, qbhz, qbtz, decide_false,
 Bool.false_eq_true, and_true, Int.reduceEq]
    | true =>
      have hw : writeT m = (textT m, 0) := by rw [writeT, if_pos hrt]
      rw [hw] at h5 h6
      have hRd := fun S : St => tRead_spec25 (st := S) (l := textT m) (by have := text_len (good_of hrt); omega)
      rw [read_write hrt] at hRd
      simp only [readMV, Option.getD_some, Option.isSome_some, if_true] at hRd
      obtain ⟨S1, a1, a2, -⟩ := hbx S m
      simp (maxSteps := 1000000) (disch := omega) only [h1, h2, h5, h6, hw, hRd, allocPV, a1, a2.ld6, ltA, q2, qaaz, qabz, qacz, qaez, qajz, qakz, qalz, qamz, qanz, evOp, qaoz, qapz, qaqz, qarz, qatz, qauz, qavz,
 ↓reduceIte, Nat.reduceEqDiff, List.map_cons, List.map_nil, Option.map_some, qazz, qbhz, qbtz, qbuz, beq_false, decide_true, decide_false,
 Bool.false_eq_true, qcjz, List.getElem?_cons_zero, List.getElem?_cons_succ, and_true, Bool.not_false, ne_eq, not_true_eq_false]
  clear h1 h2 h5 h6
  rintro e S ⟨h1, h2, h6⟩
  have hRd := fun S : St => tRead_spec25 (st := S) (l := l) (by omega)
  cases hy : readM l with
  | none =>
    rw [hy] at hRd
    have hRd' : ∀ S : St, call prog (.fn 359 []) [.str l] S = some (.tup [tV tm0, .int .i64 3], S) := hRd
    obtain ⟨S1, a1, a2, -⟩ := hbx S tm0
    cases hrt : rightT m with
    | false =>
      have hw : writeT m = ([], 3) := by rw [writeT, if_neg (by simp [hrt])]
      rw [hw] at h6
      rw [hrt] at hRs
      have hbb : binPV .eql .bool (.bool false) (.bool false) = some (.bool true) := rfl
      simp (maxSteps := 1000000) (disch := omega) only [h1, h2, h6, hRd', allocPV, a1, alive25, ltA, hRs, hbb, qaaz, qabz, qacz, qaiz, qajz, qakz, qalz, qamz, qanz, evOp, qaoz, qapz, qaqz, qarz, qatz, qauz, qavz,
 ↓reduceIte, Nat.reduceEqDiff, List.map_cons, List.map_nil, Option.map_some, qazz, qbaz, qbhz, qbtz, qbuz, beq_true, decide_true, decide_false,
 qcjz, List.getElem?_cons_zero, List.getElem?_cons_succ, and_true, reduceCtorEq, or_true, ne_eq, Int.reduceEq, not_false_eq_true]
    | true =>
      have hw : writeT m = (textT m, 0) := by rw [writeT, if_pos hrt]
      rw [hw] at h6
      rw [hrt] at hRs
      have hbb : binPV .eql .bool (.bool true) (.bool true) = some (.bool true) := rfl
      simp (maxSteps := 1000000) (disch := omega) only [h1, h2, h6, hRd', allocPV, a1, alive25, ltA, hRs, hbb, qaaz, qabz, qacz, qaiz, qajz, qakz, qalz, qamz, qanz, evOp, qaoz, qapz, qaqz, qarz, qatz, qauz, qavz,
 ↓reduceIte, Nat.reduceEqDiff, List.map_cons, List.map_nil, Option.map_some, qazz, qbaz, qbhz, qbtz, qbuz, beq_true, decide_true, qcjz, List.getElem?_cons_zero, List.getElem?_cons_succ, and_true, reduceCtorEq, or_true, ne_eq, Int.reduceEq, not_false_eq_true]
  | some y =>
    rw [hy] at hRd
    have hRd' : ∀ S : St, call prog (.fn 359 []) [.str l] S = some (.tup [tV y, .int .i64 0], S) := hRd
    have hry := readM_right hy
    have gy := good_of hry
    have hW := fun S : St => tWrite_spec25 (st := S) gy.okT
    rw [writeT, if_pos hry] at hW
    have hR2 := fun S : St => tRead_spec25 (st := S) (l := textT y) (by have := text_len gy; omega)
    rw [read_write hry] at hR2
    simp only [readMV, Option.getD_some, Option.isSome_some, if_true] at hR2
    have hRy := fun S : St => tRight_spec25 (st := S) gy.okT
    rw [hry] at hRy
    obtain ⟨q3, -⟩ := eq_tt (m := y)
    obtain ⟨b9, hb9⟩ : ∃ b9, b9 = S.boxes.length := ⟨_, rfl⟩
    refine W_cut (fun E S => At S b9 (tC y) ∧ E 9 = .ptr b9 0 ∧ E 10 = .int .i64 0) ?_ ?_
    · obtain ⟨S1, a1, a2, -⟩ := hbx S y
      rw [← hb9] at a1 a2
      simp (maxSteps := 1000000) (disch := omega) only [h1, hRd', allocPV, ← hb9, a1, qabz, qajz, qalz, evOp, qaoz, qaqz, qarz, qatz, qauz, qavz,
 ↓reduceIte, Nat.reduceEqDiff, List.map_cons, List.map_nil, Option.map_some, qcjz, List.getElem?_cons_zero, List.getElem?_cons_succ, true_and, and_true]
      exact a2
    clear h1 h2 h6 hb9
    rintro e S ⟨hA, h9, h10⟩
    refine W_cut (fun E S => At S b9 (tC y) ∧ E 9 = .ptr b9 0) ?_ ?_
    · simp (maxSteps := 1000000) (disch := omega) only [h9, h10, qaaz, qabz, qacz, qaez, qajz, qalz, evOp, qaoz, qapz, qarz, qatz, qavz,
 ↓reduceIte, Nat.reduceEqDiff, Option.map_some, qazz, qbhz, qbuz, decide_false,
 Bool.false_eq_true, true_and, and_true, ne_eq, not_true_eq_false]
      exact hA
    clear h9 h10 hA
    rintro e S ⟨hA, h9⟩
    refine W_cut (fun E S => At S b9 (tC y) ∧ E 9 = .ptr b9 0 ∧ E 5 = .str (textT y) ∧ E 11 = .int .i64 0) ?_ ?_
    · simp (maxSteps := 1000000) (disch := omega) only [h9, hA.ld6, hW, qabz, qajz, qalz, evOp, qaoz, qaqz, qarz, qatz, qavz,
 ↓reduceIte, Nat.reduceEqDiff, List.map_cons, List.map_nil, Option.map_some, qcjz, List.getElem?_cons_zero, List.getElem?_cons_succ, true_and, and_true]
      exact hA
    clear h9 hA
    rintro e S ⟨hA, h9, h5, h11⟩
    obtain ⟨b12, hb12⟩ : ∃ b, b = S.boxes.length := ⟨_, rfl⟩
    refine W_cut (fun E S => At S b9 (tC y) ∧ At S b12 (tC y) ∧ E 9 = .ptr b9 0 ∧ E 11 = .int .i64 0 ∧ E 12 = .ptr b12 0 ∧ E 13 = .int .i64 0) ?_ ?_
    · obtain ⟨S1, a1, a2, a3⟩ := hbx S y
      rw [← hb12] at a1 a2
      simp (maxSteps := 1000000) (disch := omega) only [h9, h5, h11, hR2, allocPV, ← hb12, a1, qabz, qajz, qalz, evOp, qaoz, qaqz, qarz, qatz, qauz, qavz,
 ↓reduceIte, Nat.reduceEqDiff, List.map_cons, List.map_nil, Option.map_some, qcjz, List.getElem?_cons_zero, List.getElem?_cons_succ, true_and, and_true]
      exact ⟨a3 _ _ hA, a2⟩
    clear h9 h5 h11 hA hb12
    rintro e S ⟨hA, hB, h9, h11, h12, h13⟩
    simp (maxSteps := 1000000) (disch := omega) only [h9, h11, h12, h13, alive25, hA.ld6, hB.ld6, hRy, q3, qaaz, qabz, qaiz, qajz, qakz, qalz, qamz, qanz, evOp, qaoz, qapz, qaqz, qarz, qatz, qavz,
 ↓reduceIte, Nat.reduceEqDiff, List.map_cons, List.map_nil, Option.map_some, qazz, qbtz, beq_true, decide_true, and_true, reduceCtorEq, or_true]
end Go.Ab
/-
  Trees that may be.
-/
namespace Go.Ab
set_option maxRecDepth 20000
variable {st s : St} {e : Env}

end Go.Ab
/-
  Messages as values; which may be: event.Right walked; what is too much for a statement.
-/
namespace Go.Ab
set_option maxRecDepth 20000
variable {st s : St} {e : Env}

variable {m : MD} {av u : PV}
structure okMD (m : MD) : Prop where
  me : m.me.length ≤ 9223372036854775807
  uid : m.uid.length ≤ 1000000
  org : m.org.length ≤ 1000000
  sum : m.sum.length ≤ 1000000
  com : m.com.length ≤ 1000000
  n : m.att.length ≤ 1000000
  a : ∀ p ∈ m.att, p.1.length ≤ 1000000

structure rwM (m : MD) : Prop where
  me : m.me.length ≤ 4000000000000000000
  uid : m.uid.length ≤ 4000000000000000000
  org : m.org.length ≤ 9223372036854775807
  sum : m.sum.length ≤ 4000000000000000000
  com : m.com.length ≤ 4000000000000000000
  n : m.att.length ≤ 9223372036854775807
  a : ∀ p ∈ m.att, p.1.length ≤ 4000000000000000000 ∧ p.2.length ≤ 4000000000000000000
end Go.Ab
/-
  Messages and marks that come as arguments.
-/
namespace Go.Ab
set_option maxRecDepth 20000

def isI64 (P : Program) (t : TypeId) : Bool := match P.underlying t with
  | some (.int .i64) => true
  | _ => false
theorem isI64_eq {P : Program} {t : TypeId} (h : isI64 P t = true) : P.underlying t = some (.int .i64) := by
  unfold isI64 at h
  split at h
  · rename_i h'; exact h'
  · cases h
def markT (P : Program) (t : TypeId) : Bool := match fieldsT P t with
  | some fs => match fs.toList with
    | [f0, f1] => isI64 P f0.type && isI64 P f1.type
    | _ => false
  | none => false
theorem HasTy.mark {P : Program} {t : TypeId} {q : PV} (h : HasTy P t q) (hs0 : markT P t = true) : ∃ a b : Int, q = mkV a b := by
  unfold markT fieldsT at hs0
  obtain ⟨fs, ht⟩ : ∃ fs, P.underlying t = some (.struct fs) := by
    cases ht : P.underlying t with
    | none => simp [ht] at hs0
    | some d => cases d <;> first | exact ⟨_, rfl⟩ | (simp [ht] at hs0; done)
  simp only [ht] at hs0
  obtain ⟨fl⟩ := fs
  match fl, hs0, ht with
  | [f0, f1], hs0, ht =>
    simp only [Bool.and_eq_true] at hs0
    obtain ⟨s0, s1⟩ := hs0
    cases h with
    | agg xs ht' hl hx =>
      rw [ht] at ht'; cases ht'
      match xs, hl, hx with
      | [x0, x1], _, hx =>
        obtain ⟨a0, rfl, -⟩ := HasTy.int' (hx 0 f0 x0 rfl rfl) (isI64_eq s0) (by decide)
        obtain ⟨a1, rfl, -⟩ := HasTy.int' (hx 1 f1 x1 rfl rfl) (isI64_eq s1) (by decide)
        exact ⟨a0, a1, rfl⟩
    | bool _ ht' => rw [ht] at ht'; cases ht'
    | int _ ht' => rw [ht] at ht'; cases ht'
    | u8 _ ht' => rw [ht] at ht'; cases ht'
    | str _ ht' => rw [ht] at ht'; cases ht'
    | nils ht' => rw [ht] at ht'; cases ht'
    | bys _ ht' => rw [ht] at ht'; cases ht'
    | sl _ ht' => rw [ht] at ht'; cases ht'
end Go.Ab
/-
  Marks that come as arguments.
-/
namespace Go.Ab
set_option maxRecDepth 20000

def tmT (P : Program) (t : TypeId) : Bool := match fieldsT P t with
  | some fs => match fs.toList with
    | [f0, f1, f2, f3, f4, f5] => isStrT P f0.type && isStrT P f1.type && isStrT P f2.type && isStrT P f3.type && isI64 P f4.type && isI64 P f5.type
    | _ => false
  | none => false
theorem HasTy.tm {P : Program} {t : TypeId} {q : PV} (h : HasTy P t q) (hs0 : tmT P t = true) : ∃ m : TM, q = tV m ∧ rwT m := by
  unfold tmT fieldsT at hs0
  obtain ⟨fs, ht⟩ : ∃ fs, P.underlying t = some (.struct fs) := by
    cases ht : P.underlying t with
    | none => simp [ht] at hs0
    | some d => cases d <;> first | exact ⟨_, rfl⟩ | (simp [ht] at hs0; done)
  simp only [ht] at hs0
  obtain ⟨fl⟩ := fs
  match fl, hs0, ht with
  | [f0, f1, f2, f3, f4, f5], hs0, ht =>
    simp only [Bool.and_eq_true] at hs0
    obtain ⟨⟨⟨⟨⟨s0, s1⟩, s2⟩, s3⟩, s4⟩, s5⟩ := hs0
    have hR : reachBytes ≤ 4000000000000000000 := by decide
    cases h with
    | agg xs ht' hl hx =>
      rw [ht] at ht'; cases ht'
      match xs, hl, hx with
      | [x0, x1, x2, x3, x4, x5], _, hx =>
        obtain ⟨a0, rfl, g0⟩ := HasTy.strR (hx 0 f0 x0 rfl rfl) (isStrT_eq s0)
        obtain ⟨a1, rfl, g1⟩ := HasTy.strR (hx 1 f1 x1 rfl rfl) (isStrT_eq s1)
        obtain ⟨a2, rfl, g2⟩ := HasTy.strR (hx 2 f2 x2 rfl rfl) (isStrT_eq s2)
        obtain ⟨a3, rfl, g3⟩ := HasTy.strR (hx 3 f3 x3 rfl rfl) (isStrT_eq s3)
        obtain ⟨a4, rfl, -⟩ := HasTy.int' (hx 4 f4 x4 rfl rfl) (isI64_eq s4) (by decide)
        obtain ⟨a5, rfl, -⟩ := HasTy.int' (hx 5 f5 x5 rfl rfl) (isI64_eq s5) (by decide)
        exact ⟨⟨a0, a1, a2, a3, a4, a5⟩, rfl, by simp only; omega, by simp only; omega, by simp only; omega, by simp only; omega⟩
    | bool _ ht' => rw [ht] at ht'; cases ht'
    | int _ ht' => rw [ht] at ht'; cases ht'
    | u8 _ ht' => rw [ht] at ht'; cases ht'
    | str _ ht' => rw [ht] at ht'; cases ht'
    | nils ht' => rw [ht] at ht'; cases ht'
    | bys _ ht' => rw [ht] at ht'; cases ht'
    | sl _ ht' => rw [ht] at ht'; cases ht'
theorem arg_TraceBack {P : Program} {t : TypeId} {q : PV} {x : Bs} (h : HasTy P t q) (hs : tmT P t = true) (hx : x.length ≤ maxLen) : ∃ s', call prog (.fn 361 []) [q, .str x] ⟨[], [], [], 0⟩ = some (.bool true, s') := by
  obtain ⟨m, rfl, hr⟩ := HasTy.tm h hs
  exact law_TraceBack hr (Nat.le_trans hx (by decide))
end Go.Ab
/-
  The library's searches as primitives, out of the shelf's contracts.
-/
namespace Go.Ab
open Go.Shelf Go.Proofs
variable {P : Program} {g : GMap} {ρ : Go.Shelf.Ren}

def numsOf (a : List UInt8) : List Int := a.map fun b => (b.toNat : Int)
theorem bytesOf_nums (a : List UInt8) : Lib.bytesOf (numsOf a) = a := by
  simp [Lib.bytesOf, numsOf, Function.comp_def]
theorem nums_range (a : List UInt8) : ∀ x ∈ numsOf a, 0 ≤ x ∧ x < 256 := by
  intro x hx
  simp only [numsOf, List.mem_map] at hx
  obtain ⟨b, _, rfl⟩ := hx
  have := b.toNat_lt
  omega
theorem nums_getD (a : List UInt8) {i : Nat} (h : i < a.length) : (numsOf a).getD i 0 = ((a[i]).toNat : Int) := by
  simp [numsOf, List.getD, h]

theorem cells_of {κ : K} {w : World} (hC : ∀ b i u, κ.C b i = some u → w.cell? ⟨b, i, none⟩ = some u) {blk off : Nat} {a : List UInt8} (hb : ∀ (i : Nat) (b : UInt8), a[i]? = some b → κ.C blk (off + i) = some (.int .u8 b.toNat)) :
    ∀ i, i < a.length → w.cell? ((⟨blk, off, none⟩ : Addr).add i) = some (.int .u8 ((numsOf a).getD i 0)) := by
  intro i hi
  rw [add_eq, nums_getD a hi]
  exact hC _ _ _ (hb i _ (by simp [hi]))

theorem primIndex (L : Lays.n185 P ρ) (hm : ∀ κ, g.inv κ → ∃ m, κ.C (ρ.g 1) 0 = some (.int .i64 m)) {pf : Func} (hpf : P.funcs[ρ.f 185]? = some pf) (hb : pf.body.isSome = true) (hn : pf.name ≠ "runtime.NumGoroutine") : PrimOK P g (ρ.f 185) pBytesIndex := by
  refine prim_of_calls hpf hb hn (fun κ w args ps v hi hC hsz hargs hp => ?_)
  obtain ⟨m, hm⟩ := hm κ hi
  have hmc := hC _ _ _ hm
  match ps, hp with
  | [x, y], hp =>
    simp only [pBytesIndex] at hp
    cases hx : x.by with
    | none => simp [hx] at hp
    | some a =>
      cases hy : y.by with
      | none => simp [hx, hy] at hp
      | some b =>
        simp only [hx, hy] at hp
        split at hp
        · rename_i hlen
          cases hp
          obtain ⟨u1, u2, rfl⟩ : ∃ u1 u2, args = #[u1, u2] := by
            obtain ⟨l⟩ := args
            match l, hsz with
            | [u1, u2], _ => exact ⟨u1, u2, rfl⟩
          have r1 := hargs 0 u1 x rfl rfl
          have r2 := hargs 1 u2 y rfl rfl
          have post : ∀ (n : Int), n = Lib.index a b → ∀ (e : Ending) (w' : World), (e = .returned (.int .i64 n) ∧ ∃ q, w' = w.drewN q) → ∃ z, e = .returned z ∧ (∀ κ', R g κ' z (.int .i64 (Lib.index a b))) ∧ w'.heap = w.heap ∧ w'.os = w.os ∧ w'.tape = w.tape ∧ w'.output = w.output := by
            rintro n rfl e w' ⟨rfl, q, rfl⟩
            exact ⟨_, rfl, fun κ' => .int .i64 _ (by decide), rfl, rfl, rfl, rfl⟩
          have post0 : ∀ (n : Int), n = Lib.index a b → ∀ (e : Ending) (w' : World), (e = .returned (.int .i64 n) ∧ w' = w) → ∃ z, e = .returned z ∧ (∀ κ', R g κ' z (.int .i64 (Lib.index a b))) ∧ w'.heap = w.heap ∧ w'.os = w.os ∧ w'.tape = w.tape ∧ w'.output = w.output := by
            rintro n rfl e w' ⟨rfl, rfl⟩
            exact ⟨_, rfl, fun κ' => .int .i64 _ (by decide), rfl, rfl, rfl, rfl⟩
          rcases by_cases' hx with ⟨rfl, rfl⟩ | ⟨t, rfl⟩
          · cases r1
            rcases by_cases' hy with ⟨rfl, rfl⟩ | ⟨t2, rfl⟩
            · cases r2
              exact (Any.bytes_Index_none L none none 0 0 0 w).mono (post0 0 (by simp [Lib.index]))
            · cases r2 with
              | bys blk off n c _ _ h1 h2 h3 h4 _ =>
                subst h1
                refine (Any.bytes_Index_nil L (some ⟨blk, off, none⟩) b.length c w (by omega) (fun h1 => ?_)).mono (post0 _ ?_)
                · have := cells_of hC h3 0 (by omega)
                  rw [add_eq] at this
                  exact ⟨blk, off, _, rfl, this⟩
                · cases b <;> simp [Lib.index]
          · cases r1 with
            | bys blk off n c _ _ h1 h2 h3 h4 _ =>
              subst h1
              rcases by_cases' hy with ⟨rfl, rfl⟩ | ⟨t2, rfl⟩
              · cases r2
                exact (Any.bytes_Index_none L (some ⟨blk, off, none⟩) none a.length c 0 w).mono (post0 0 (Lib.index_empty a).symm)
              · cases r2 with
                | bys blk2 off2 n2 c2 _ _ k1 k2 k3 k4 _ =>
                  subst k1
                  refine (Any.bytes_Index_at L ⟨blk, off, none⟩ ⟨blk2, off2, none⟩ a.length c b.length c2 (numsOf a) (numsOf b) m w (by simp [numsOf]) (by simp [numsOf]) (nums_range a) (nums_range b) (cells_of hC h3) (cells_of hC k3) h2 hlen.1 (by omega) hmc).mono (post _ ?_)
                  rw [bytesOf_nums, bytesOf_nums]
        · cases hp
  | [], hp => simp [pBytesIndex] at hp
  | [_], hp => simp [pBytesIndex] at hp
  | _ :: _ :: _ :: _, hp => simp [pBytesIndex] at hp
end Go.Ab
/-
  A Builder's text: the walk of the library's function, its end said whole (after the shelf's own proof).
-/
namespace Go.Proofs
open Go.Shelf Go.RowKit
variable {P : Program} {ρ : Ren}

set_option maxHeartbeats 2000000 in
set_option maxRecDepth 100000 in
theorem bstring_walk (L : Lays.n169 P ρ) (X : Builder.Extra P ρ) (b g cap cells : Nat) (l : List UInt8) (w : World) (h0 : l ≠ []) (hcap : l.length ≤ cap) (hcc : l.length ≤ cells) (hmax : l.length ≤ 9223372036854775807)
    (hb : w.cell? ⟨b, 1, none⟩ = some (.slice (some ⟨g, 0, none⟩) l.length cap)) (hsh : w.shape? g = some (ρ.t 5, cells)) (hcell : ∀ j x, l[j]? = some x → w.cell? ⟨g, j, none⟩ = some (.int .u8 x.toNat)) :
    Calls P (ρ.f 169) #[.pointer (some ⟨b, 0, none⟩)] w fun e w' => e = .returned (.string ⟨l.toArray⟩) ∧ w' = w.drew.freeze ⟨g, 0, none⟩ l.length := by
  have hl0 : l.length ≠ 0 := by simpa using h0
  have c1 : w.drew.cell? ⟨b, 1, none⟩ = some (.slice (some ⟨g, 0, none⟩) l.length cap) := hb
  have hSD : (Builtin.unsafeSliceData_ #[(ρ.t 37)] (ρ.t 127) #[.slice (some ⟨g, 0, none⟩) l.length cap]).run P w.drew = .ok (.pointer (some ⟨g, 0, none⟩)) w.drew :=
    Lib.run_unsafeSliceData_row _ _ _ _ _ _ (by omega)
  have hUS : (Builtin.unsafeString_ #[(ρ.t 127), (ρ.t 3)] (ρ.t 9) #[.pointer (some ⟨g, 0, none⟩), .int .i64 l.length]).run P w.drew = .ok (.string ⟨l.toArray⟩) (w.drew.freeze ⟨g, 0, none⟩ l.length) := by
    refine Lib.run_unsafeString_row w.drew (ρ.t 127) (ρ.t 3) (ρ.t 9) (ρ.t 5) L.t127 X.cellsByte g cells hsh l h0 hcc hmax ?_
    intro j x hx
    have := hcell j x hx
    simp only [Addr.add]
    split
    · rename_i h; subst h; exact this
    · simpa using this
  clear hcell hsh hb
  have mixed := L.mixed
  have t72 := L.t72; have a72 := L.a72; have z72 := L.z72; have v72 := L.v72; have u72 := run_underlying L.t72
  have t70 := L.t70; have a70 := L.a70; have z70 := L.z70; have v70 := L.v70; have u70 := run_underlying L.t70
  have t37 := L.t37; have a37 := L.a37; have z37 := L.z37; have v37 := L.v37; have u37 := run_underlying L.t37
  have t127 := L.t127; have a127 := L.a127; have z127 := L.z127; have v127 := L.v127; have u127 := run_underlying L.t127
  have t3 := L.t3; have a3 := L.a3; have z3 := L.z3; have v3 := L.v3; have u3 := run_underlying L.t3
  have t9 := L.t9; have a9 := L.a9; have z9 := L.z9; have v9 := L.v9; have u9 := run_underlying L.t9
  have t5 := X.t5; have a5 := X.a5; have z5 := X.z5; have v5 := X.v5; have u5 := run_underlying X.t5
  go_enter L.f169, Body.n169_ntmps ρ
  go_wp2
  go_region_o
  all_goals (go_wp2; go_ret; exact ⟨rfl, rfl⟩)

set_option maxHeartbeats 2000000 in
set_option maxRecDepth 100000 in
theorem bstring_nil (L : Lays.n169 P ρ) (X : Builder.Extra P ρ) (b : Nat) (w : World) (hb : w.cell? ⟨b, 1, none⟩ = some (.slice none 0 0)) :
    Calls P (ρ.f 169) #[.pointer (some ⟨b, 0, none⟩)] w fun e w' => e = .returned (.string ⟨#[]⟩) ∧ w' = w.drew := by
  have hUS := Any.unsafeString_none L X
  have hSD : (Builtin.unsafeSliceData_ #[(ρ.t 37)] (ρ.t 127) #[.slice none 0 0]).run P w.drew = .ok (.pointer none) w.drew := rfl
  have c1 : w.drew.cell? ⟨b, 1, none⟩ = some (.slice none 0 0) := hb
  have mixed := L.mixed
  have t72 := L.t72; have a72 := L.a72; have z72 := L.z72; have v72 := L.v72; have u72 := run_underlying L.t72
  have t70 := L.t70; have a70 := L.a70; have z70 := L.z70; have v70 := L.v70; have u70 := run_underlying L.t70
  have t37 := L.t37; have a37 := L.a37; have z37 := L.z37; have v37 := L.v37; have u37 := run_underlying L.t37
  have t127 := L.t127; have a127 := L.a127; have z127 := L.z127; have v127 := L.v127; have u127 := run_underlying L.t127
  have t3 := L.t3; have a3 := L.a3; have z3 := L.z3; have v3 := L.v3; have u3 := run_underlying L.t3
  have t9 := L.t9; have a9 := L.a9; have z9 := L.z9; have v9 := L.v9; have u9 := run_underlying L.t9
  have t5 := X.t5; have a5 := X.a5; have z5 := X.z5; have v5 := X.v5; have u5 := run_underlying X.t5
  go_enter L.f169, Body.n169_ntmps ρ
  go_wp2
  go_region_o
  all_goals (go_wp2; go_ret; exact ⟨rfl, rfl⟩)

structure CCLay (P : Program) (ρ : Ren) : Prop where
  mixed : P.follows .mixedOrders = true
  f240 : P.funcs[ρ.f 240]? = some (Body.n240 ρ)
  f276 : P.funcs[ρ.f 276]? = some (Body.n276 ρ)
  t4 : P.underlying (ρ.t 4) = some (TypeDesc.bool)
  a4 : ∀ w, (isAgg (ρ.t 4)).run P w = .ok false w
  z4 : ∀ w, (Go.sizeOf (ρ.t 4)).run P w = .ok 1 w
  v4 : ∀ w, (zeroValue (ρ.t 4)).run P w = .ok (Value.bool false) w
  t70 : P.underlying (ρ.t 70) = some (TypeDesc.pointer (ρ.t 72))
  a70 : ∀ w, (isAgg (ρ.t 70)).run P w = .ok false w
  z70 : ∀ w, (Go.sizeOf (ρ.t 70)).run P w = .ok 1 w
  v70 : ∀ w, (zeroValue (ρ.t 70)).run P w = .ok (Value.pointer none) w
  t72 : P.underlying (ρ.t 72) = some (TypeDesc.struct #[{ name := "addr", type := ρ.t 70, offset := 0, embedded := false, tag := "", pkgPath := "strings", byteOffset := 0 }, { name := "buf", type := ρ.t 37, offset := 1, embedded := false, tag := "", pkgPath := "strings", byteOffset := 8 }])
  a72 : ∀ w, (isAgg (ρ.t 72)).run P w = .ok true w
  z72 : ∀ w, (Go.sizeOf (ρ.t 72)).run P w = .ok 2 w
  v72 : ∀ w, (zeroValue (ρ.t 72)).run P w = .ok (Value.agg #[Value.pointer none, Value.slice none 0 0]) w
  t164 : P.underlying (ρ.t 164) = some (TypeDesc.unsafePointer)
  a164 : ∀ w, (isAgg (ρ.t 164)).run P w = .ok false w
  z164 : ∀ w, (Go.sizeOf (ρ.t 164)).run P w = .ok 1 w
  v164 : ∀ w, (zeroValue (ρ.t 164)).run P w = .ok (Value.pointer none) w

set_option maxHeartbeats 1000000 in
set_option maxRecDepth 100000 in
theorem cc_used (L : CCLay P ρ) (X : Builder.X72 P ρ) (b : Nat) (w : World) (h0 : w.cell? ⟨b, 0, none⟩ = some (.pointer (some ⟨b, 0, none⟩))) :
    Calls P (ρ.f 240) #[.pointer (some ⟨b, 0, none⟩)] w fun e w' => e = .returned (.tuple #[]) ∧ w' = w := by
  obtain ⟨j, hj, _⟩ := Option.map_eq_some_iff.1 X.sizeBuilder
  have mixed := L.mixed
  have t72 := L.t72; have a72 := L.a72; have z72 := L.z72; have v72 := L.v72; have u72 := run_underlying L.t72
  have t70 := L.t70; have a70 := L.a70; have z70 := L.z70; have v70 := L.v70; have u70 := run_underlying L.t70
  have t4 := L.t4; have a4 := L.a4; have z4 := L.z4; have v4 := L.v4; have u4 := run_underlying L.t4
  have t164 := L.t164; have a164 := L.a164; have z164 := L.z164; have v164 := L.v164; have u164 := run_underlying L.t164
  go_enter L.f240, Body.n240_ntmps ρ
  go_wp2
  rw [Lib.run_neq_ptr_same w _ L.t70 hj]
  go_wp2
  go_end0
  exact ⟨rfl, rfl⟩

set_option maxHeartbeats 1000000 in
set_option maxRecDepth 100000 in
theorem cc_fresh (L : CCLay P ρ) (X : Builder.X72 P ρ) (b : Nat) (w : World) (h0 : w.cell? ⟨b, 0, none⟩ = some (.pointer none)) (hsh : w.shape? b = some ((ρ.t 72), 2)) (hfz : w.frozen? ⟨b, 0, none⟩ = false) :
    Calls P (ρ.f 240) #[.pointer (some ⟨b, 0, none⟩)] w fun e w' => e = .returned (.tuple #[]) ∧ w' = w.setCell ⟨b, 0, none⟩ (.pointer (some ⟨b, 0, none⟩)) := by
  obtain ⟨j, hj, hjs⟩ := Option.map_eq_some_iff.1 X.sizeBuilder
  have mixed := L.mixed
  have t72 := L.t72; have a72 := L.a72; have z72 := L.z72; have v72 := L.v72; have u72 := run_underlying L.t72
  have t70 := L.t70; have a70 := L.a70; have z70 := L.z70; have v70 := L.v70; have u70 := run_underlying L.t70
  have t4 := L.t4; have a4 := L.a4; have z4 := L.z4; have v4 := L.v4; have u4 := run_underlying L.t4
  have t164 := L.t164; have a164 := L.a164; have z164 := L.z164; have v164 := L.v164; have u164 := run_underlying L.t164
  go_enter L.f240, Body.n240_ntmps ρ
  go_wp2
  rw [Lib.run_to_unsafe w ⟨b, 0, none⟩ L.t70 L.t164 hj (by rw [hjs]; decide) hsh (Nat.zero_lt_succ 1)]
  simp only [Result.andThen]
  rw [Oper.upon_value]
  go_wp2
  rw [run_callFunc_extern L.f276 (by kernel_rfl) (by kernel_rfl) (by kernel_rfl) (e := Extern.AbiNoEscape.same) (by kernel_rfl)]
  rw [Lib.run_noEscape]
  simp only [Result.andThen]
  rw [Oper.upon_value]
  go_wp2
  rw [Lib.run_from_unsafe w ⟨b, 0, none⟩ L.t164 L.t70 hj hsh X.liesBuilder]
  simp only [Result.andThen]
  rw [Oper.upon_value]
  go_wp2
  go_end0
  exact ⟨rfl, rfl⟩
end Go.Proofs
/-
  The library's functions on texts as primitives, out of the shelf's contracts.
-/
namespace Go.Ab
open Go.Shelf Go.Proofs
variable {P : Program} {g : GMap} {ρ : Go.Shelf.Ren}

theorem primStrIndex (L : Lays.n219 P ρ) (hm : ∀ κ, g.inv κ → ∃ m, κ.C (ρ.g 1) 0 = some (.int .i64 m)) {pf : Func} (hpf : P.funcs[ρ.f 219]? = some pf) (hb : pf.body.isSome = true) (hn : pf.name ≠ "runtime.NumGoroutine") : PrimOK P g (ρ.f 219) pStrIndex := by
  refine prim_of_calls hpf hb hn (fun κ w args ps v hi hC hsz hargs hp => ?_)
  obtain ⟨m, hm⟩ := hm κ hi
  have hmc := hC _ _ _ hm
  unfold pStrIndex at hp
  split at hp
  · rename_i a b
    split at hp
    · rename_i hlen
      cases hp
      obtain ⟨u1, u2, rfl⟩ : ∃ u1 u2, args = #[u1, u2] := by
        obtain ⟨l⟩ := args
        match l, hsz with
        | [u1, u2], _ => exact ⟨u1, u2, rfl⟩
      have r1 := hargs 0 u1 _ rfl rfl
      have r2 := hargs 1 u2 _ rfl rfl
      cases r1 with | str sa _ ha => cases r2 with | str sb _ hb =>
      refine (Any.stringslite_Index L sa sb m w (by rw [← ha] at hlen; simpa using hlen) hmc).mono ?_
      rintro e w' ⟨rfl, rfl⟩
      exact ⟨_, rfl, fun κ' => by rw [ha, hb]; exact .int .i64 _ (by decide), rfl, rfl, rfl, rfl⟩
    · cases hp
  · cases hp

theorem primStrIndexByte (L : Lays.n137 P ρ) {pf : Func} (hpf : P.funcs[ρ.f 137]? = some pf) (hb : pf.body.isSome = true) (hn : pf.name ≠ "runtime.NumGoroutine") : PrimOK P g (ρ.f 137) pStrIndexByte := by
  refine prim_of_calls hpf hb hn (fun κ w args ps v hi hC hsz hargs hp => ?_)
  unfold pStrIndexByte at hp
  split at hp
  · rename_i a c
    cases hp
    obtain ⟨u1, u2, rfl⟩ : ∃ u1 u2, args = #[u1, u2] := by
      obtain ⟨l⟩ := args
      match l, hsz with
      | [u1, u2], _ => exact ⟨u1, u2, rfl⟩
    have r1 := hargs 0 u1 _ rfl rfl
    have r2 := hargs 1 u2 _ rfl rfl
    cases r1 with | str sa _ ha => cases r2 with | b8 _ n hn =>
    refine (Any.strings_IndexByte L sa n w).mono ?_
    rintro e w' ⟨rfl, rfl⟩
    refine ⟨_, rfl, fun κ' => ?_, rfl, rfl, rfl, rfl⟩
    have : n.toNat.toUInt8 = c := by rw [hn]; simp
    rw [ha, this]; exact .int .i64 _ (by decide)
  · cases hp

theorem primS_of_calls {f' : FuncId} {p : List PV → List (List PV) → Option (PV × Upd)} {pf : Func} (hpf : P.funcs[f']? = some pf) (hb : pf.body.isSome = true) (hn : pf.name ≠ "runtime.NumGoroutine")
    (h : ∀ (base : Nat) (κ : K) (w : World) (st : St) (args : Array Value) (ps : List PV) (v : PV) (u : Upd) (st' : St), SR P g base κ w st → args.size = ps.length → (∀ (i : Nat) (u : Value) (q : PV), args[i]? = some u → ps[i]? = some q → R g κ u q) → p ps st.boxes = some (v, u) → updS st u = some st' →
      Calls P f' args w fun e w' => ∃ z, e = .returned z ∧ R g κ z v ∧ SR P g base κ w' st' ∧ Fr base κ.lam w w') : PrimSOK P g f' p := by
  intro base κ w st args ps v u st' hsr hsz hargs hp hu F hF nn o a next Q hnext
  have hrun : (callFunc f' args).run P w = .ok (.enter f' args) w := by
    have hb2 : pf.body.isNone = false := by
      cases hbb : pf.body with
      | none => rw [hbb] at hb; cases hb
      | some c => rfl
    have hn2 : (pf.name == "runtime.NumGoroutine") = false := by simpa using hn
    unfold callFunc
    simp only [Sem.run_bind, Go.program, Sem.run, Result.andThen, hpf, hn2, hb2]
    rfl
  rw [hrun]
  refine ⟨hF.deep, callsIn_of_calls hF ?_⟩
  refine (h base κ w st args ps v u st' hsr hsz hargs hp hu).mono ?_
  rintro e w' ⟨z, rfl, hz, hs, hf⟩
  exact hnext κ z w' (K.le.refl κ) rfl hs hz hf

theorem setCell_eq {w : World} {blk off : Nat} {v : Value} {rs : Array Value} {el : TypeId} {fz : Nat × Nat} (hw : w.heap[blk]? = some (.cells rs el fz)) : w.setCell ⟨blk, off, none⟩ v = setBlk w blk (setA rs off [v]) el fz := by
  have hlt := (Array.getElem?_eq_some_iff.1 hw).1
  simp only [World.setCell, setBlk]
  congr 1
  apply Array.ext_getElem?
  intro j
  rw [Array.getElem?_modify]
  by_cases hj : blk = j
  · subst hj
    rw [if_pos rfl, hw]
    simp [hlt, setA]
  · rw [if_neg hj, Array.getElem?_setIfInBounds_ne hj]

theorem primCopyCheck (L : CCLay P ρ) (X : Builder.X72 P ρ) (htB : g.tB = ρ.t 72) {pf : Func} (hpf : P.funcs[ρ.f 240]? = some pf) (hb : pf.body.isSome = true) (hn : pf.name ≠ "runtime.NumGoroutine") : PrimSOK P g (ρ.f 240) pCopyCheck := by
  refine primS_of_calls hpf hb hn (fun base κ w st args ps v u st' hsr hsz hargs hp hu => ?_)
  unfold pCopyCheck at hp
  split at hp
  · rename_i bs b
    obtain ⟨u1, rfl⟩ : ∃ u1, args = #[u1] := by
      obtain ⟨l⟩ := args
      match l, hsz with
      | [u1], _ => exact ⟨u1, rfl⟩
    have r1 := hargs 0 u1 _ rfl rfl
    cases r1 with | ptr _ _ blk hφ hμ =>
    split at hp
    · -- fresh
      rename_i x hbx
      simp only [Option.some.injEq, Prod.mk.injEq] at hp
      obtain ⟨rfl, rfl⟩ := hp
      have hB := hsr.bx b blk _ hbx hφ hμ
      obtain ⟨rs, ⟨el, lo, hi, hw, hf⟩, hl, hr⟩ := hB.ex
      obtain ⟨v0, h0, hr0⟩ := hr 0 .bslot rfl
      cases hr0
      have hsh := hB.sb (by simp)
      rw [htB] at hsh
      have hc0 : w.cell? ⟨blk, 0, none⟩ = some (.pointer none) := by simp [World.cell?, hw, h0]
      have hrs : rs.size = 2 := by
        simp only [World.shape?, hw, Option.some.injEq, Prod.mk.injEq] at hsh; exact hsh.2
      have hfz : w.frozen? ⟨blk, 0, none⟩ = false := by
        simp only [World.frozen?, hw, Bool.and_eq_false_iff, decide_eq_false_iff_not]
        rcases hf with h | h
        · subst h; omega
        · left; omega
      refine (cc_fresh L X blk w hc0 hsh hfz).mono ?_
      rintro e w' ⟨rfl, rfl⟩
      -- the store's own law
      have hst : storePV st 1 (.ptr b 0) (.ptr b 0) = some st' := hu
      simp only [storePV, hbx] at hst
      split at hst
      · cases hst
        refine ⟨_, rfl, .tup #[] [] rfl rfl (fun i v p a => by simp at a), ?_, ?_⟩
        · rw [setCell_eq hw]
          have := hsr.setBox (rs' := setA rs 0 [.pointer (some ⟨blk, 0, none⟩)]) (cs' := setCells [.bslot, x] 0 [.ptr b 0]) (if hasTok [PV.ptr b 0] then min st.low b else st.low) hbx hφ hμ hw hf (setA_size _ _ _) (by rw [setCells_length]; exact hl) (fun i c hc => ?_) ?_ (fun c hc => ?_) (fun hm => ?_)
          · exact this (fun hz => by cases hz)
          · simp only [setCells, List.set_cons_zero] at hc
            match i with
            | 0 =>
              simp at hc; subst hc
              exact ⟨.pointer (some ⟨blk, 0, none⟩), by simp [setA, hrs], .ptr b 0 blk hφ hμ⟩
            | i + 1 =>
              have hc' : [PV.bslot, x][i + 1]? = some c := by simpa using hc
              obtain ⟨v1, h1, hr1⟩ := hr (i + 1) c hc'
              refine ⟨v1, ?_, hr1⟩
              simp [setA]; exact h1
          · have := hB.lf
            simp only [setCells, List.set_cons_zero, List.all_cons, leafB] at this ⊢
            simpa using this
          · simp only [setCells, List.set_cons_zero, List.mem_cons, List.not_mem_nil, or_false] at hc
            rcases hc with rfl | rfl
            · simp [PV.inB]
            · exact hB.lw _ (by simp)
          · simp
        · rw [setCell_eq hw]
          exact Fr.setBlk hw hB.ge
      · cases hst
    · -- used
      rename_i b' x hbx
      split at hp
      · rename_i hbb
        subst hbb
        simp only [Option.some.injEq, Prod.mk.injEq] at hp
        obtain ⟨rfl, rfl⟩ := hp
        simp only [updS, Option.some.injEq] at hu
        subst hu
        have hB := hsr.bx b' blk _ hbx hφ hμ
        obtain ⟨rs, ⟨el, lo, hi, hw, hf⟩, hl, hr⟩ := hB.ex
        obtain ⟨v0, h0, hr0⟩ := hr 0 _ rfl
        cases hr0 with | ptr _ _ blk' hφ' _ =>
        rw [hφ] at hφ'; cases hφ'
        have hc0 : w.cell? ⟨blk, 0, none⟩ = some (.pointer (some ⟨blk, 0, none⟩)) := by simp [World.cell?, hw, h0]
        refine (cc_used L X blk w hc0).mono ?_
        rintro e w' ⟨rfl, rfl⟩
        exact ⟨_, rfl, .tup #[] [] rfl rfl (fun i v p a => by simp at a), hsr, Fr.refl _ _⟩
      · cases hp
    · cases hp
  · cases hp


theorem SR.kill {base : Nat} {κ : K} {w w' : World} {st : St} (h : SR P g base κ w st) {i blk e ce : Nat} {rs : Array Value} {el : TypeId} {fz fz' : Nat × Nat} (hi : st.toks[i]? = some true) (hτ : κ.τ[i]? = some (blk, e, ce))
    (hw : w.heap[blk]? = some (.cells rs el fz)) (hw' : w'.heap = (setBlk w blk rs el fz').heap) : SR P g base κ w' { st with toks := st.toks.set i false } := by
  have hk := h.tk i blk e ce hi hτ
  suffices hs : SR P g base κ (setBlk w blk rs el fz') { st with toks := st.toks.set i false } from hs.heap hw'
  have hcell : ∀ b i, (setBlk w blk rs el fz').cell? ⟨b, i, none⟩ = w.cell? ⟨b, i, none⟩ := fun b i => by
    by_cases hb : b = blk
    · subst hb
      have hlt := (Array.getElem?_eq_some_iff.1 hw).1
      have h2 : (setBlk w b rs el fz').heap[b]? = some (.cells rs el fz') := by simp [setBlk, hlt]
      simp only [World.cell?]
      rw [h2, hw]
    · exact cell_setBlk_other hb
  have hobj : ∀ (k : Nat) (o : Obj), w.heap[k]? = some o → isCells o = false → (setBlk w blk rs el fz').heap[k]? = some o := fun k o ho hc => by
    rw [setBlk_other]
    · exact ho
    · rintro rfl; rw [hw] at ho; cases ho; simp [isCells] at hc
  have hset : ∀ j : Nat, (st.toks.set i false)[j]? = some true → st.toks[j]? = some true ∧ j ≠ i := fun j hj => by
    by_cases hji : j = i
    · subst hji
      rw [List.getElem?_set] at hj
      simp at hj
    · rw [List.getElem?_set_ne (fun h => hji h.symm)] at hj
      exact ⟨hj, hji⟩
  refine { cC := fun b i v hc => by rw [hcell]; exact h.cC b i v hc, sh := fun b t hb => (h.sh b t hb).imp fun n hn => (by rw [shape_setBlk hw rfl]; exact hn), bl := h.bl, bn := h.bn, mx := fun b k cs h1 h2 hm => (h.mx b k cs h1 h2 hm).setBlk hw, mz := h.mz, bx := fun b k cs h1 h2 hm => ?_, tl := by simp [h.tl], tk := fun j k e ce h1 h2 => ?_,
           td := fun a b ba ea ca bb eb cb h1 h2 h3 h4 h5 => h.td a b ba ea ca bb eb cb (hset a h1).1 (hset b h2).1 h3 h4 h5, ll := h.ll, ln := h.ln, lb := h.lb, lp := fun k l D r h1 h2 => (h.lp k l D r h1 h2).mono (K.le.refl _) hobj, hb := by simpa [setBlk] using h.hb, gv := h.gv }
  · have hx := h.bx b k cs h1 h2 hm
    have hne : k ≠ blk := by rintro rfl; exact hk.nb (List.mem_of_getElem? h2)
    obtain ⟨rs', hc, h3, h4⟩ := hx.ex
    exact ⟨hx.ge, hx.nc, ⟨rs', hc.congr (setBlk_other hne), h3, h4⟩, hx.lf, hx.lw, fun hm => by rw [← hx.sb hm]; exact shape_congr (setBlk_other hne)⟩
  · obtain ⟨q1, q2⟩ := hset j h1
    have hx := h.tk j k e ce q1 h2
    have hne : k ≠ blk := h.td j i k e ce blk _ _ q1 hi h2 hτ q2
    obtain ⟨rs', hc, h3⟩ := hx.ex
    exact ⟨hx.ge, hx.nb, hx.nc, ⟨rs', hc.congr (setBlk_other hne), h3⟩⟩

theorem primBuilderString (L : Lays.n169 P ρ) (X : Builder.Extra P ρ) (htU : g.tU = ρ.t 5) {pf : Func} (hpf : P.funcs[ρ.f 169]? = some pf) (hb : pf.body.isSome = true) (hn : pf.name ≠ "runtime.NumGoroutine") : PrimSOK P g (ρ.f 169) pBuilderString := by
  refine primS_of_calls hpf hb hn (fun base κ w st args ps v u st' hsr hsz hargs hp hu => ?_)
  unfold pBuilderString at hp
  split at hp
  · rename_i bs b
    obtain ⟨u1, rfl⟩ : ∃ u1, args = #[u1] := by
      obtain ⟨l⟩ := args
      match l, hsz with
      | [u1], _ => exact ⟨u1, rfl⟩
    have r1 := hargs 0 u1 _ rfl rfl
    cases r1 with | ptr _ _ blk hφ hμ =>
    split at hp
    · -- nothing was written
      rename_i c0 hbx
      simp only [Option.some.injEq, Prod.mk.injEq] at hp
      obtain ⟨rfl, rfl⟩ := hp
      simp only [updS, Option.some.injEq] at hu
      subst hu
      have hB := hsr.bx b blk _ hbx hφ hμ
      obtain ⟨rs, ⟨el, lo, hi, hw, hf⟩, hl, hr⟩ := hB.ex
      obtain ⟨v0, h0, hr0⟩ := hr 1 .nils rfl
      cases hr0
      have hc : w.cell? ⟨blk, 1, none⟩ = some (.slice none 0 0) := by simp [World.cell?, hw, h0]
      refine (bstring_nil L X blk w hc).mono ?_
      rintro e w' ⟨rfl, rfl⟩
      exact ⟨_, rfl, .str _ _ rfl, hsr.heap rfl, Fr.same rfl rfl rfl rfl⟩
    · rename_i c0 i l hbx
      split at hp
      · cases hp
      · rename_i hne0
        obtain ⟨hne, hrm⟩ : l ≠ [] ∧ l.length ≤ room := by simpa [not_or] using hne0
        simp only [Option.some.injEq, Prod.mk.injEq] at hp
        obtain ⟨rfl, rfl⟩ := hp
        simp only [updS] at hu
        split at hu
        · rename_i hti
          cases hu
          have hB := hsr.bx b blk _ hbx hφ hμ
          obtain ⟨rs, ⟨el, lo, hi, hw, hf⟩, hl, hr⟩ := hB.ex
          obtain ⟨v0, h0, hr0⟩ := hr 1 _ rfl
          cases hr0 with
          | bys blk' off n c _ _ hn2 hc hbb ht hz =>
            obtain ⟨rfl, hS⟩ := hz i rfl
            subst hn2
            obtain ⟨n', hsh⟩ := hsr.sh blk' _ hS
            obtain ⟨e', ce, hτ, hroom⟩ := ht
            have hTK := hsr.tk i blk' e' ce hti hτ
            obtain ⟨rs', ⟨el', lo', hi', hw', hf'⟩, hce⟩ := hTK.ex
            have hn' : n' = rs'.size ∧ el' = g.tU := by
              simp only [World.shape?, hw', Option.some.injEq, Prod.mk.injEq] at hsh
              exact ⟨hsh.2.symm, hsh.1⟩
            have hcl : ∀ j x, l[j]? = some x → w.cell? ⟨blk', j, none⟩ = some (.int .u8 x.toNat) := fun j x hx => by
              have := hsr.cC _ _ _ (hbb j x hx)
              simpa using this
            have hcells : l.length ≤ n' := by
              rcases Nat.lt_or_ge n' l.length with h1 | h1
              · exfalso
                have h2 := hcl n' l[n'] (by simp [h1])
                simp only [World.cell?, hw'] at h2
                simp [hn'.1] at h2
              · exact h1
            have hmax : l.length ≤ 9223372036854775807 := by have e : room = 68719476736 := rfl; omega
            have hcell : w.cell? ⟨blk, 1, none⟩ = some (.slice (some ⟨blk', 0, none⟩) l.length c) := by simp [World.cell?, hw, h0]
            refine (bstring_walk L X blk blk' c n' l w hne hc hcells hmax hcell (by rw [hsh, htU]) hcl).mono ?_
            rintro e w1 ⟨rfl, rfl⟩
            have hlt := (Array.getElem?_eq_some_iff.1 hw').1
            have hfr : ∃ fz, (w.drew.freeze ⟨blk', 0, none⟩ l.length).heap = (setBlk w blk' rs' el' fz).heap := by
              refine ⟨if lo' == hi' then (0, 0 + l.length) else (min lo' 0, max hi' (0 + l.length)), ?_⟩
              simp only [World.freeze, setBlk, World.drew]
              rw [if_neg (by simpa using hne)]
              apply Array.ext_getElem?
              intro j
              rw [Array.getElem?_modify]
              by_cases hj : blk' = j
              · subst hj; rw [if_pos rfl, hw']; simp [hlt]
              · rw [if_neg hj, Array.getElem?_setIfInBounds_ne hj]
            obtain ⟨fz, hfr⟩ := hfr
            refine ⟨_, rfl, .str _ _ rfl, hsr.kill hti hτ hw' hfr, ?_⟩
            refine Fr.of ⟨?_, ?_, ?_, ?_, fun k hk => ?_⟩ fun k o ho hc => ?_
            · simp only [World.freeze]; split <;> rfl
            · simp only [World.freeze]; split <;> rfl
            · simp only [World.freeze]; split <;> rfl
            · rw [hfr]; simp [setBlk]
            · rw [hfr]; exact setBlk_other (by have := hTK.ge; omega)
            · rw [hfr, setBlk_other]
              · exact ho
              · rintro rfl; rw [hw'] at ho; cases ho; simp [isCells] at hc
        · cases hu
    · cases hp
  · cases hp
end Go.Ab
/-
  slices.Clone, a primitive that makes a box, out of the shelf's contract.
-/
namespace Go.Ab
open Go.Proofs Go.Shelf Go.RowKit

variable {P : Program} {g : GMap} {ρ : Go.Shelf.Ren} {base : Nat} {κ : K} {w : World} {st : St}

theorem SR.adopt (h : SR P g base κ w st) {blk : Nat} {rs : Array Value} {el : TypeId} {fz : Nat × Nat} {cs : List PV} (hb : base ≤ blk) (hw : w.heap[blk]? = some (.cells rs el fz)) (hfz : fz.1 = fz.2 ∨ rs.size ≤ fz.1)
    (hn : ∀ i, κ.C blk i = none) (hp : blk ∉ κ.φ) (ht : ∀ (i b e ce : Nat), st.toks[i]? = some true → κ.τ[i]? = some (b, e, ce) → b ≠ blk) (hl : cs.length ≤ rs.size)
    (hr : ∀ (i : Nat) (c : PV), cs[i]? = some c → ∃ v, rs[i]? = some v ∧ R g κ v c) (hz : cs.all zeroLeaf = true) :
    K.le κ { κ with φ := κ.φ ++ [blk] } ∧ SR P g base { κ with φ := κ.φ ++ [blk] } w { st with boxes := st.boxes ++ [cs] } := by
  have hle : K.le κ { κ with φ := κ.φ ++ [blk] } := ⟨fun _ _ _ h => h, fun i x hx => by
    have := (List.getElem?_eq_some_iff.1 hx).1
    simp [List.getElem?_append_left this, hx], fun _ _ h => h, fun _ _ h => h, fun _ _ h => h, fun _ _ => rfl⟩
  refine ⟨hle, ?_⟩
  refine { cC := h.cC, sh := h.sh, bl := by simp [h.bl], bn := ?_, bx := ?_, mx := ?_, mz := fun b hb => h.mz b (by simp at hb; omega), tl := h.tl, tk := ?_, td := h.td, ll := h.ll, ln := h.ln, lb := h.lb, lp := ?_, hb := h.hb, gv := g.mono _ _ hle.C h.gv }
  · rw [List.nodup_append]
    refine ⟨h.bn, by simp, fun a ha b hb => ?_⟩
    simp at hb
    subst hb
    rintro rfl; exact hp ha
  · intro b blk' cs' h1 h2 hm
    by_cases hb' : b < st.boxes.length
    · simp only [List.getElem?_append_left hb'] at h1
      simp only [List.getElem?_append_left (show b < κ.φ.length by rw [h.bl]; exact hb')] at h2
      have hx := h.bx b blk' cs' h1 h2 hm
      obtain ⟨rs', hc, h3, h4⟩ := hx.ex
      exact ⟨hx.ge, hx.nc, ⟨rs', hc, h3, fun i c hi => by
        obtain ⟨v, hv, hr'⟩ := h4 i c hi
        exact ⟨v, hv, hr'.mono hle⟩⟩, hx.lf, hx.lw, hx.sb⟩
    · have hbe : b = st.boxes.length := by
        have := (List.getElem?_eq_some_iff.1 h1).1
        simp at this; omega
      subst hbe
      simp only [List.getElem?_concat_length, Option.some.injEq] at h1
      simp only [← h.bl, List.getElem?_concat_length, Option.some.injEq] at h2
      subst h1 h2
      have hzz : ∀ q ∈ cs, zeroLeaf q = true := fun q hq => List.all_eq_true.1 hz q hq
      refine ⟨hb, fun _ i => hn i, ⟨rs, ⟨el, fz.1, fz.2, hw, hfz⟩, hl, fun i c hi => ?_⟩, ?_, fun c hc => ?_, fun hm => ?_⟩
      · obtain ⟨v, hv, hr'⟩ := hr i c hi
        exact ⟨v, hv, hr'.mono hle⟩
      · rw [List.all_eq_true]; exact fun q hq => leafB_of (zeroLeaf_ok (hzz q hq)).1
      · have := hzz c hc
        cases c <;> simp_all [zeroLeaf, PV.inB]
      · have := hzz _ hm; simp [zeroLeaf] at this
  · intro b blk' cs' h1 h2 hm
    have hb' : b < st.boxes.length := by
      rcases Nat.lt_or_ge b st.boxes.length with hlt | hge
      · exact hlt
      · have := h.mz b (by rw [h.bl]; exact hge)
        simp only at hm; rw [this] at hm; cases hm
    simp only [List.getElem?_append_left hb'] at h1
    simp only [List.getElem?_append_left (show b < κ.φ.length by rw [h.bl]; exact hb')] at h2
    exact h.mx b blk' cs' h1 h2 hm
  · intro i blk' e ce h1 h2
    have hx := h.tk i blk' e ce h1 h2
    refine ⟨hx.ge, ?_, hx.nc, hx.ex⟩
    simp only [List.mem_append, List.mem_singleton, not_or]
    exact ⟨hx.nb, ht i blk' e ce h1 h2⟩
  · intro k l D r h1 h2
    exact (h.lp k l D r h1 h2).mono hle (fun k o ho _ => ho)

theorem primS_of_callsK {f' : FuncId} {p : List PV → List (List PV) → Option (PV × Upd)} {pf : Func} (hpf : P.funcs[f']? = some pf) (hb : pf.body.isSome = true) (hn : pf.name ≠ "runtime.NumGoroutine")
    (h : ∀ (base : Nat) (κ : K) (w : World) (st : St) (args : Array Value) (ps : List PV) (v : PV) (u : Upd) (st' : St), SR P g base κ w st → args.size = ps.length → (∀ (i : Nat) (u : Value) (q : PV), args[i]? = some u → ps[i]? = some q → R g κ u q) → p ps st.boxes = some (v, u) → updS st u = some st' →
      Calls P f' args w fun e w' => ∃ z κ', e = .returned z ∧ K.le κ κ' ∧ κ'.lam = κ.lam ∧ R g κ' z v ∧ SR P g base κ' w' st' ∧ Fr base κ.lam w w') : PrimSOK P g f' p := by
  intro base κ w st args ps v u st' hsr hsz hargs hp hu F hF nn o a next Q hnext
  have hrun : (callFunc f' args).run P w = .ok (.enter f' args) w := by
    have hb2 : pf.body.isNone = false := by
      cases hbb : pf.body with
      | none => rw [hbb] at hb; cases hb
      | some c => rfl
    have hn2 : (pf.name == "runtime.NumGoroutine") = false := by simpa using hn
    unfold callFunc
    simp only [Sem.run_bind, Go.program, Sem.run, Result.andThen, hpf, hn2, hb2]
    rfl
  rw [hrun]
  refine ⟨hF.deep, callsIn_of_calls hF ?_⟩
  refine (h base κ w st args ps v u st' hsr hsz hargs hp hu).mono ?_
  rintro e w' ⟨z, κ', rfl, hle, hlam, hz, hs, hf⟩
  exact hnext κ' z w' hle hlam hs hz hf

theorem oneCell'_of {v : Value} {p : PV} (h : R g κ v p) (hz : zeroLeaf p = true) : v.oneCell' = true := by
  cases h <;> first | rfl | simp [zeroLeaf] at hz

theorem primClone {esz by_ : Nat} (L : SlLaysE0.n41 P ρ) (hinfo : (P.info? (ρ.t 23)).map (fun i => (i.zero.map (fun z => z.cells.size), i.size, i.bytes)) = some (some esz, esz, by_)) (h0 : 0 < esz) (hby : by_ ≤ 256)
    {pf : Func} (hpf : P.funcs[ρ.f 41]? = some pf) (hb : pf.body.isSome = true) (hn : pf.name ≠ "runtime.NumGoroutine") : PrimSOK P g (ρ.f 41) (pClone esz) := by
  obtain ⟨i0, hi0⟩ : ∃ i0, P.info? (ρ.t 23) = some i0 := by
    cases hi : P.info? (ρ.t 23) with
    | none => simp [hi] at hinfo
    | some i0 => exact ⟨i0, rfl⟩
  rw [hi0] at hinfo
  simp only [Option.map_some, Option.some.injEq, Prod.mk.injEq] at hinfo
  obtain ⟨hz0, hsz0, hb0⟩ := hinfo
  obtain ⟨z0, hz1, hz2⟩ : ∃ z0, i0.zero = some z0 ∧ z0.cells.size = esz := by
    cases hz : i0.zero with
    | none => simp [hz] at hz0
    | some z0 => rw [hz] at hz0; simp at hz0; exact ⟨z0, rfl, hz0⟩
  refine primS_of_callsK hpf hb hn ?_
  intro base κ w st args ps v u st' hsr hsz hargs hp hu
  unfold pClone at hp
  split at hp
  · cases hp
    obtain ⟨a, rfl⟩ : ∃ a, args = #[a] := by
      obtain ⟨l⟩ := args
      match l, hsz with
      | [a], _ => exact ⟨a, rfl⟩
    have r1 := hargs 0 a _ rfl rfl
    cases r1
    simp only [updS, Option.some.injEq] at hu
    subst hu
    refine (AnyE.slices_Clone_nil L 0 0 w).mono ?_
    rintro e w' ⟨rfl, rfl⟩
    exact ⟨_, κ, rfl, K.le.refl κ, rfl, .nils, hsr, Fr.refl _ _⟩
  · rename_i e t xs
    split at hp
    · rename_i hc
      obtain ⟨rfl, hne, hroom, hzl⟩ := hc
      cases hp
      obtain ⟨a, rfl⟩ : ∃ a, args = #[a] := by
        obtain ⟨l⟩ := args
        match l, hsz with
        | [a], _ => exact ⟨a, rfl⟩
      have r1 := hargs 0 a _ rfl rfl
      cases r1 with
      | sl0 a esz t ht => exact absurd rfl hne
      | sl blk off n c esz t xs vs hn' hc he hl hv hr hd hlf htok =>
      have hzl' : ∀ q ∈ flat xs, zeroLeaf q = true := fun q hq => List.all_eq_true.1 hzl q hq
      have hfl : (flat xs).length = xs.length * e := flat_length he
      have hzu : (flat xs).all zeroLeaf = true := hzl
      simp only [updS] at hu
      rw [if_pos hzl] at hu
      cases hu
      have hmax : room ≤ maxLen := by decide
      have hroom' : room = 68719476736 := rfl
      refine (AnyE.slices_Clone L i0 z0 e by_ hi0 hz1 hsz0 hb0 hz2 h0 (fun w => by
          have : sizeT P (ρ.t 23) = some e := by simp [sizeT, hi0, hsz0]
          exact run_sizeOf this) blk off n c vs w (by rw [hl, hfl, hn']) (by rw [hn']; omega) (by
          rw [hn']
          have := Nat.mul_le_mul hroom hby
          rw [hroom'] at this; omega) (fun j u hj => hsr.cC _ _ _ (hv j u hj)) (fun u hu => by
          obtain ⟨i, hi⟩ := List.getElem?_of_mem hu
          have hlt : i < (flat xs).length := by rw [← hl]; exact (List.getElem?_eq_some_iff.1 hi).1
          exact oneCell'_of (hr i u (flat xs)[i] hi (by simp [hlt])) (hzl' _ (List.getElem_mem _)))).mono ?_
      rintro ee w' ⟨v', rfl, how, hnn, hbel⟩
      obtain ⟨hol, ho⟩ := how
      rcases ho with ⟨rfl, _⟩ | ⟨gb, cap, cur, rfl, hgb, hgw, hnc, hcm, hcs, hct⟩
      · exact absurd rfl hnn
      have hs1 := hsr.below hbel
      have hcl : (flat xs).length ≤ cur.size := by rw [hcs, hfl, ← hn']; exact Nat.mul_le_mul_right _ hnc
      obtain ⟨k1, k2⟩ := hs1.adopt (cs := flat xs) (Nat.le_trans hsr.hb hgb) hgw (.inl rfl) (fun i => by
          cases hci : κ.C gb i with
          | none => rfl
          | some u => have := hsr.C_lt hci; omega) (fun hmem => by
          obtain ⟨i, hi⟩ := List.getElem?_of_mem hmem
          have := hsr.phi_lt hi; omega) (fun i b e ce h1 h2 => by
          obtain ⟨rs, hcx, _⟩ := (hsr.tk i b e ce h1 h2).ex
          have := hcx.lt; omega) hcl (fun i c hi => by
          have hlt := (List.getElem?_eq_some_iff.1 hi).1
          have hvi : vs[i]? = some (vs[i]'(by rw [hl]; exact hlt)) := by simp [show i < vs.length by rw [hl]; exact hlt]
          refine ⟨_, ?_, hr i _ c hvi hi⟩
          have hct' : (cur.toList.take (n * e))[i]? = some (vs[i]'(by rw [hl]; exact hlt)) := by rw [hct]; exact hvi
          rw [List.getElem?_take, if_pos (by rw [hn', ← hfl]; exact hlt)] at hct'
          simpa using hct') hzu
      refine ⟨_, _, rfl, k1, rfl, ?_, k2, fr_below hsr.hb hbel⟩
      rw [← hn']
      refine .ms _ _ _ _ _ gb ?_ hnc (.inr rfl) (hsr.mz _ (by rw [hsr.bl]; exact Nat.le_refl _))
      show (κ.φ ++ [gb])[st.boxes.length]? = _
      rw [← hsr.bl]; simp
    · cases hp
  · cases hp
end Go.Ab
/-
  strings.Split as a primitive: a new row of texts.
-/
namespace Go.Ab
open Go.Shelf Go.Proofs
variable {P : Program} {g : GMap} {ρ : Go.Shelf.Ren} {base : Nat}

theorem prim_of_lays {f' : FuncId} {p : List PV → Option PV} {pf : Func} (hpf : P.funcs[f']? = some pf) (hb : pf.body.isSome = true) (hn : pf.name ≠ "runtime.NumGoroutine")
    (h : ∀ (κ : K) (w : World) (args : Array Value) (ps : List PV) (v : PV), g.inv κ → (∀ b i v, κ.C b i = some v → w.cell? ⟨b, i, none⟩ = some v) → args.size = ps.length → (∀ (i : Nat) (u : Value) (q : PV), args[i]? = some u → ps[i]? = some q → R g κ u q) → p ps = some v →
      ∃ (z : Value) (rs : Array Value) (el : TypeId), Calls P f' args w (fun e w' => e = .returned z ∧ w' = w.alloc (.cells rs el)) ∧ R g (κ.addC w.heap.size fun i => rs[i]?) z v) : PrimOK P g f' p := by
  intro base κ w st args ps v hsr hsz hargs hp F hF nn o a next Q hnext
  have hrun : (callFunc f' args).run P w = .ok (.enter f' args) w := by
    have hb2 : pf.body.isNone = false := by
      cases hbb : pf.body with
      | none => rw [hbb] at hb; cases hb
      | some c => rfl
    have hn2 : (pf.name == "runtime.NumGoroutine") = false := by simpa using hn
    unfold callFunc
    simp only [Sem.run_bind, Go.program, Sem.run, Result.andThen, hpf, hn2, hb2]
    rfl
  rw [hrun]
  refine ⟨hF.deep, callsIn_of_calls hF ?_⟩
  obtain ⟨z, rs, el, hc, hr⟩ := h κ w args ps v hsr.gv hsr.cC hsz hargs hp
  refine hc.mono ?_
  rintro e w' ⟨rfl, rfl⟩
  obtain ⟨hle, hs⟩ := hsr.addC (w' := w.alloc (.cells rs el)) rs el (0, 0) rfl
  exact hnext _ z _ hle rfl hs hr (Fr.push hsr.hb rfl rfl rfl rfl)

theorem occ_one {c : UInt8} {s : List UInt8} {j : Nat} : Lib.occAt s [c] j = true → s[j]? = some c := fun h => Lib.occAt_head rfl h
theorem index_one_cases (c : UInt8) (s : List UInt8) : (c ∉ s ∧ Lib.index s [c] = -1) ∨ ∃ n r, s = n ++ c :: r ∧ c ∉ n ∧ Lib.index s [c] = n.length := by
  rcases Lib.index_spec s [c] with ⟨h1, h2⟩ | ⟨i, h1, h2, h3, h4⟩
  · refine .inl ⟨fun hm => ?_, h1⟩
    obtain ⟨j, hj, e⟩ := List.mem_iff_getElem.1 hm
    have := h2 j (by omega)
    rw [Lib.occAt_iff_take _ _ _ (by simp; omega)] at this
    rw [List.drop_eq_getElem_cons hj] at this
    simp [e] at this
  · have hi := occ_one h3
    have hlt := (List.getElem?_eq_some_iff.1 hi).1
    have he := (List.getElem?_eq_some_iff.1 hi).2
    refine .inr ⟨s.take i, s.drop (i + 1), ?_, fun hm => ?_, ?_⟩
    · rw [← he, ← List.drop_eq_getElem_cons hlt, List.take_append_drop]
    · obtain ⟨j, hj, e⟩ := List.mem_iff_getElem.1 hm
      simp only [List.length_take] at hj
      simp only [List.getElem_take] at e
      have := h4 j (by omega)
      rw [Lib.occAt_iff_take _ _ _ (by simp; omega)] at this
      rw [List.drop_eq_getElem_cons (show j < s.length by omega)] at this
      simp [e] at this
    · rw [h1]; simp; omega
theorem splitOn_none {c : UInt8} : ∀ (n acc : List UInt8), c ∉ n → splitOn c acc n = [acc ++ n] := by
  intro n
  induction n with
  | nil => intro acc _; simp [splitOn]
  | cons d n ih =>
    intro acc h
    simp only [List.mem_cons, not_or] at h
    rw [splitOn, if_neg (fun e => h.1 e.symm), ih _ h.2]; simp
theorem splitOn_hit {c : UInt8} {r : List UInt8} : ∀ (n acc : List UInt8), c ∉ n → splitOn c acc (n ++ c :: r) = (acc ++ n) :: splitOn c [] r := by
  intro n
  induction n with
  | nil => intro acc _; simp [splitOn]
  | cons d n ih =>
    intro acc h
    simp only [List.mem_cons, not_or] at h
    rw [List.cons_append, splitOn, if_neg (fun e => h.1 e.symm), ih _ h.2]; simp
theorem splitK_on {c : UInt8} : ∀ (f : Nat) (s : List UInt8), s.length < f → Lib.splitK [c] 0 (Lib.countFrom [c] f s) s = splitOn c [] s := by
  intro f
  induction f with
  | zero => intro s h; omega
  | succ f ih =>
    intro s h
    rcases index_one_cases c s with ⟨h1, h2⟩ | ⟨n, r, h1, h2, h3⟩
    · rw [splitOn_none s [] h1]
      simp [Lib.countFrom, h2, Lib.splitK]
    · have hne : (Lib.index s [c] == -1) = false := by rw [h3, beq_eq_false_iff_ne]; omega
      have hd : s.drop (n.length + 1) = r := by rw [h1, ← List.drop_drop, List.drop_left]; rfl
      have ht : s.take n.length = n := by rw [h1, List.take_left]
      have hc : Lib.countFrom [c] (f + 1) s = Lib.countFrom [c] f r + 1 := by
        simp only [Lib.countFrom, hne]
        rw [h3]
        simp only [Int.toNat_natCast, List.length_singleton, hd]
        simp; omega
      have hl := congrArg List.length h1
      simp only [List.length_append, List.length_cons] at hl
      rw [hc, Lib.splitK, hne, h3]
      simp only [Int.toNat_natCast, List.length_singleton, Nat.add_zero, ht, hd]
      rw [ih r (by omega), h1, splitOn_hit n [] h2]
      simp
theorem primStrSplit (L : Lays.n146 P ρ) (hi9 : (P.info? (ρ.t 9)).map (fun i => (i.zero, i.size, i.bytes)) = some (some (.string ByteArray.empty), 1, 16)) (hm : ∀ κ, g.inv κ → ∃ m, κ.C (ρ.g 1) 0 = some (.int .i64 m)) {pf : Func} (hpf : P.funcs[ρ.f 146]? = some pf) (hb : pf.body.isSome = true) (hn : pf.name ≠ "runtime.NumGoroutine") : PrimOK P g (ρ.f 146) pStrSplit := by
  refine prim_of_lays hpf hb hn (fun κ w args ps v hi hC hsz hargs hp => ?_)
  obtain ⟨m, hm⟩ := hm κ hi
  have hmc := hC _ _ _ hm
  unfold pStrSplit at hp
  split at hp
  · rename_i a c
    split at hp
    · rename_i hlen
      cases hp
      obtain ⟨u1, u2, rfl⟩ : ∃ u1 u2, args = #[u1, u2] := by
        obtain ⟨l⟩ := args
        match l, hsz with
        | [u1, u2], _ => exact ⟨u1, u2, rfl⟩
      have r1 := hargs 0 u1 _ rfl rfl
      have r2 := hargs 1 u2 _ rfl rfl
      cases r1 with | str sa _ ha => cases r2 with | str sb _ hb2 =>
      have hsa : sa.size = a.length := by rw [← ha]; simp
      have hsb : sb.size = 1 := by
        have := congrArg List.length hb2
        simpa using this
      refine ⟨_, _, _, Any.strings_Split L hi9 sa sb m w (by omega) hmc (by omega), ?_⟩
      -- the pieces
      obtain ⟨bs, hbs⟩ : ∃ bs, bs = Lib.splitB sb 0 (Lib.countB sa sb) sa := ⟨_, rfl⟩
      have hdat : bs.map (·.data.toList) = splitOn c [] a := by
        rw [hbs, Lib.splitB_data, hb2, ha]
        have hcnt : Lib.countB sa sb = Lib.countFrom [c] (a.length + 1) a := by
          show Lib.count sa.data.toList sb.data.toList = _
          rw [hb2, ha]; rfl
        rw [hcnt]
        exact splitK_on _ _ (by omega)
      have hlenb : bs.length = Lib.countB sa sb + 1 := by rw [hbs]; exact Lib.splitB_all sb (by omega) 0 _ sa rfl
      have hlen2 : (splitOn c [] a).length = bs.length := by rw [← hdat]; simp
      rw [← hbs, ← hlenb]
      have hflat : flat ((splitOn c [] a).map PV.str) = (splitOn c [] a).map PV.str := by
        generalize splitOn c [] a = xs
        induction xs with
        | nil => rfl
        | cons x xs ih => simp only [List.map_cons, flat, List.flatMap_cons, PV.cells] at ih ⊢; rw [ih]; rfl
      have hgetR : ∀ (i : Nat) (v : Value) (p : PV), (bs.map Value.string)[i]? = some v → ((splitOn c [] a).map PV.str)[i]? = some p → ∀ κ', R g κ' v p := by
        intro i v p h1 h2 κ'
        rw [← hdat] at h2
        simp only [List.getElem?_map, Option.map_eq_some_iff] at h1 h2
        obtain ⟨b, e1, rfl⟩ := h1
        obtain ⟨y, ⟨b2, e2, rfl⟩, rfl⟩ := h2
        rw [e1] at e2; cases e2
        exact .str b _ rfl
      refine .sl w.heap.size 0 bs.length bs.length 1 .no _ (bs.map Value.string) (by simp [hlen2]) (Nat.le_refl _) (fun x hx => ?_) (by rw [hflat]; simp [hlen2]) (fun i v hv => ?_) (fun i v p h1 h2 => ?_) ?_ ?_ trivial
      · obtain ⟨y, _, rfl⟩ := List.mem_map.1 hx; rfl
      · have hne : (bs.map Value.string).toArray[i]? = some v := by simpa using hv
        simp only [K.addC, Nat.zero_add, if_pos]
        rw [hne]
      · rw [hflat] at h2; exact hgetR i v p h1 h2 _
      · generalize splitOn c [] a = xs
        induction xs with
        | nil => rfl
        | cons x xs ih => simp [dataAll, PV.data, ih]
      · rw [hflat, List.all_eq_true]
        intro x hx
        obtain ⟨y, _, rfl⟩ := List.mem_map.1 hx; rfl
    · cases hp
  · cases hp
end Go.Ab
/-
  A row that lists variables: the wrap, the world's shape and what the listed variables hold kept.
-/
namespace Go.Ab
open Go
variable {H : Type} {enc : TypeId × Value → H}

theorem returns_laid_shaped {a : Assume} {C : Checked} {os : Os} {f : FuncId} {fn : Func} {s : ChangeSpec} {conds : List PathCond} {apart fresh handsOn again : Bool} (X : World → Prop) (hX : ∀ w w' : World, w.heap = w'.heap → X w → X w')
    (own : ownKnob C.prog.godebug = none) (started : os.Started) (noInit : C.prog.inits.idxOf? f = none) (hfn : C.prog.funcs[f]? = some fn)
    (witness : ∃ (w : World) (tape : Tape) (i : Input), w.os = os ∧ (w.forCall tape i).Shaped C.prog ∧ i.vars = [] ∧ Input.okWide C.prog (w.forCall tape i) .any w.heap.size f i ∧
      ((s.pre enc C.prog fn conds apart (w.forCall tape i).memory i.args ∧ X (w.forCall tape i).memory) ∧ sizedMet enc C.prog fn (OpenSpec.ofChange s) apart (w.forCall tape i).memory i.args) ∧ a.holds C.prog (lone (Frame.enter C.prog f i.args .normal) [] (w.forCall tape i)))
    (contract : ∀ (W : World) (base : Nat) (args : Array Value) (ds gs : List (DataW H)) (before : List MemPlace),
      (∀ (j : Nat) t v, fn.params[j]? = some t → args[j]? = some v → Value.okWide C.prog W .any base t v) →
      DataW.Whole enc C.prog fn.params.toList s.vars apart W args.toList ds gs before →
      X W →
      (DataW.weightsEach C.prog (fn.params.toList ++ s.plain.varTypes C.prog) (ds ++ gs)).all (· ≤ reachBytes) = true →
      W.ShapedOpen C.prog →
      a.holds C.prog (lone (Frame.enter C.prog f args .normal) [] W) →
      Calls C.prog f args W fun e W' => ∃ v, e = .returned v ∧ s.post enc C.prog fn apart fresh handsOn again W args v W') :
    ReturnsInHanded a C os f .any (fun w args => (s.pre enc C.prog fn conds apart w args ∧ X w) ∧ sizedMet enc C.prog fn (OpenSpec.ofChange s) apart w args) (s.post enc C.prog fn apart fresh handsOn again) := by
  refine returnsInHanded_of_calls own started noInit witness ?_
  intro w tape i _ hshape _ hok hpre hholds
  obtain ⟨_, _, _, fn2, hfn2, _, _, _, _, hval⟩ := hok
  obtain rfl : fn2 = fn := Option.some.inj (hfn2.symm.trans hfn)
  obtain ⟨⟨⟨ds, gs, before, hwhole, _⟩, hlaid⟩, hsized⟩ := hpre
  have hlaid2 : X (w.forCall tape i) := hX _ _ (by rfl) hlaid
  have hwhole2 := DataW.Whole.of_heap (w' := w.forCall tape i) (by rfl) hwhole
  have hrun := contract _ w.heap.size i.args ds gs before hval hwhole2 hlaid2 (hsized.weights hwhole) hshape hholds
  refine hrun.mono ?_
  rintro e W2 ⟨v, rfl, hpost⟩
  exact ChangeSpec.post_blind hpost
end Go.Ab
