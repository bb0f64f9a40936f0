/-
  What may be an address; its normal form; an address without a name.
-/
import Derived.Test.YtomocanaidhnlaaDoorA3
import Derived.KernelRfl
import Derived.Shelf.Bytes.SlIndexWhole
import Derived.Shelf.Bytes.IndexByte
import Derived.Shelf.Strings.Builder1
import Derived.Shelf.Strings.Search2
import Derived.Shelf.Small.Strs
import Derived.Shelf.Strings.Split
import Derived.HandedShaped
import Derived.LaidLaws
import Derived.Lay
set_option linter.unusedVariables false
set_option linter.unusedSimpArgs false
namespace Go.Ab
variable {st s : St} {e : Env}

theorem split_len {sep : UInt8} : ∀ (l acc : Bs), ∀ x ∈ splitOn sep acc l, x.length ≤ acc.length + l.length := by
  intro l
  induction l with
  | nil => intro acc x hx; simp [splitOn] at hx; subst hx; simp
  | cons d r ih =>
    intro acc x hx
    simp only [splitOn] at hx
    split at hx
    · rcases List.mem_cons.1 hx with rfl | hx
      · simp
      · have := ih [] x hx; simp at this ⊢; omega
    · have := ih (acc ++ [d]) x hx; simp at this ⊢; omega
theorem split_num {sep : UInt8} : ∀ (l acc : Bs), (splitOn sep acc l).length ≤ l.length + 1 := by
  intro l
  induction l with
  | nil => intro acc; simp [splitOn]
  | cons d r ih =>
    intro acc
    simp only [splitOn]
    split
    · have := ih []; simp; omega
    · have := ih (acc ++ [d]); simp; omega
theorem Split_spec {l : Bs} {c : UInt8} (hl : l.length ≤ 100000000) : call prog (.fn 133 []) [.str l, .str [c]] st = some (.sl 1 .no ((splitOn c [] l).map .str), st) := by
  rw [call_prim prog_133]
  simp [pStrSplit]
  omega
theorem iaddr_t {x : PV} {xs : List Bs} {k : IntKind} {c : Int} (h : x.vs 1 = some (xs.map .str)) (h1 : 0 ≤ c) (h2 : c.toNat < xs.length) : iaddrPV 1 x (.int k c) = some (.cp [.str (xs.getD c.toNat [])]) := by
  rw [iaddr_vs h h1 (by simpa using h2)]
  simp [List.getD, h2, PV.cells]
theorem all_getD' {p : Bs → Bool} {xs : List Bs} (h : ∀ j, j < xs.length → p (xs.getD j []) = true) : xs.all p = true := by
  rw [List.all_eq_true]
  intro x hx
  obtain ⟨i, hi, rfl⟩ := List.mem_iff_getElem.1 hx
  have := h i hi
  simpa [List.getD, hi] using this
theorem all_bad' {p : Bs → Bool} {xs : List Bs} {j : Nat} (hj : j < xs.length) (h : p (xs.getD j []) = false) : xs.all p = false := by
  rw [List.all_eq_false]
  exact ⟨xs.getD j [], by simp [List.getD, hj], by rw [h]; simp⟩

theorem parts_spec {l : Bs} {c : UInt8} {f : Nat} {p : Bs → Bool} (hl : l.length ≤ 100000000) (hf : ∀ (S : St) (x : Bs), x.length ≤ 100000000 → call prog (.fn f []) [.str x] S = some (.bool (p x), S)) :
    call prog (.fn 124 []) [.str l, .str [c], .fn f []] st = some (.bool (partsB c p l), st) := by
  refine call_of_W prog_124 ?_
  unfold F_addr_parts; dsimp only
  obtain ⟨xs, hxs⟩ : ∃ xs, xs = splitOn c [] l := ⟨_, rfl⟩
  have hsp : ∀ S : St, call prog (.fn 133 []) [.str l, .str [c]] S = some (.sl 1 .no (xs.map .str), S) := fun S => by rw [hxs]; exact Split_spec hl
  have hlen : lenPV false (.sl 1 .no (xs.map .str)) = some (.int .i64 (xs.length : Int)) := by simp [lenPV]
  have hvs : (PV.sl 1 .no (xs.map .str)).vs 1 = some (xs.map .str) := by simp [PV.vs]
  have hp : partsB c p l = xs.all p := by rw [hxs]; rfl
  have hxl : ∀ j, j < xs.length → (xs.getD j []).length ≤ 100000000 := fun j hj => by
    have hm : xs.getD j [] ∈ splitOn c [] l := by rw [← hxs]; simp [List.getD, hj]
    have := split_len l [] _ hm
    simp at this ⊢; omega
  have hnum : xs.length ≤ 100000001 := by
    have := split_num (sep := c) l []
    rw [← hxs] at this; omega
  rw [hp]
  simp (maxSteps := 1000000) (disch := omega) only [hsp, hlen, qaaz, qabz, qadz, qajz, qalz, evOp, qaoz, qapz, qaqz, qarz, qatz, qavz,
 ↓reduceIte, Nat.reduceEqDiff, List.append_nil, List.map_cons, List.map_nil, qawz, qaxz, Option.map_some, qazz, reduceCtorEq]
  obtain ⟨I, hI⟩ : ∃ I : Nat → Env → St → Prop, I = fun k e s' => ∃ (i : Nat), k = xs.length - i ∧ i ≤ xs.length ∧ Kept st s' ∧ (∀ j, j < i → p (xs.getD j []) = true) ∧ e 2 = .fn f [] ∧ e 11 = .sl 1 .no (xs.map .str) ∧ e 12 = .int .i64 (xs.length : Int) ∧ e 13 = .int .i64 (i : Int) := ⟨_, rfl⟩
  refine W_loop I ?_ (n := xs.length) (by
    rw [hI]
    exact ⟨0, rfl, by omega, Kept.start, fun j h => by omega, rfl, rfl, rfl, rfl⟩)
  intro k e s' hh
  rw [hI] at hh
  obtain ⟨i, rfl, hi, hk, hall, h2, h11, h12, h13⟩ := hh
  by_cases hlt : i < xs.length
  · obtain ⟨x, hx⟩ : ∃ x, x = xs.getD i [] := ⟨_, rfl⟩
    have hfx := fun S : St => hf S x (by rw [hx]; exact hxl i hlt)
    cases hpx : p x with
    | false =>
      rw [hpx] at hfx
      simp (maxSteps := 1000000) (disch := omega) only [h2, h11, h12, h13, hlt, iaddr_t hvs, ← hx, qciz, hfx, qaaz, qabz, qacz, qadz, qaez, qagz, qaiz, qajz, qcrz, qcwz, forall_const, qalz, evOp, qaoz, qapz, qarz, qatz, qavz,
 ↓reduceIte, Nat.reduceEqDiff, List.map_cons, List.map_nil, Option.map_some, qazz, qbaz, qbbz, qbdz, qbez, qbfz, qbiz, qbjz, qblz, qbpz, qcfz, qciz, decide_true, Int.toNat_natCast, Int.ofNat_lt, Bool.true_eq_false, and_true, Bool.not_false]
      exact retB rfl hk (all_bad' hlt (by rw [← hx]; exact hpx)).symm
    | true =>
      rw [hpx] at hfx
      simp (maxSteps := 1000000) (disch := omega) only [h2, h11, h12, h13, hlt, iaddr_t hvs, ← hx, qciz, hfx, add_n, qaaz, qabz, qacz, qadz, qaez, qagz, qaiz, qajz, qcrz, qcwz, forall_const, qalz, evOp, qaoz, qapz, qarz, qatz, qavz,
 ↓reduceIte, Nat.reduceEqDiff, List.map_cons, List.map_nil, Option.map_some, qazz, qbaz, qbbz, qbdz, qbez, qbfz, qbiz, qbjz, qblz, qbpz, qcfz, qciz, decide_true, Int.toNat_natCast, Int.ofNat_lt, Bool.false_eq_true, Bool.true_eq_false, Int.reduceToNat, true_and, and_true, Bool.not_true]
      refine loopQ_intro (m := xs.length - (i + 1)) (by omega) ?_
      rw [hI]
      refine ⟨i + 1, rfl, by omega, hk, fun j hj => ?_, h2, h11, h12, rfl⟩
      by_cases hji : j = i
      · subst hji; rw [← hx]; exact hpx
      · exact hall j (by omega)
  · obtain rfl : i = xs.length := by omega
    simp (maxSteps := 1000000) (disch := omega) only [h11, h12, h13, hlt, qaaz, qabz, qacz, qadz, qaez, qagz, qaiz, qajz, qcrz, qcwz, forall_const, qalz, evOp, qaoz, qapz, qarz, qatz, qavz,
 ↓reduceIte, Nat.reduceEqDiff, Option.map_some, qazz, qbbz, qbfz, qbjz, qblz, qbpz, decide_false,
 Int.ofNat_lt, Bool.false_eq_true, true_and]
    exact retB rfl hk (all_getD' hall).symm

theorem atoms_spec {l : Bs} {c : UInt8} (hl : l.length ≤ 100000000) : call prog (.fn 124 []) [.str l, .str [c], .fn 125 []] st = some (.bool (partsB c atomB l), st) :=
  parts_spec hl (fun S x hx => isAtom_spec hx)
theorem labels_spec {l : Bs} {c : UInt8} (hl : l.length ≤ 100000000) : call prog (.fn 124 []) [.str l, .str [c], .fn 126 []] st = some (.bool (partsB c labB l), st) :=
  parts_spec hl (fun S x hx => isLabel_spec hx)

variable {B : List (List PV)} {T : List Bool} {L : List LoopS} {lo : Nat} {a b c : Bs}
abbrev cA (a b c : Bs) : List PV := [.str a, .str b, .str c]
theorem inB_a {m : Nat} : (PV.agg [.str a, .str b, .str c]).inB m = true := rfl
theorem all_a : List.all [PV.str a, .str b, .str c] leafOk = true := rfl
theorem ld_a0 : loadPV ⟨B ++ [cA a b c], T, L, lo⟩ false 1 (.ptr B.length 0) = some (.str a) := by simp [loadPV, readCells]
theorem ld_a1 : loadPV ⟨B ++ [cA a b c], T, L, lo⟩ false 1 (.ptr B.length 1) = some (.str b) := by simp [loadPV, readCells]
theorem ld_a2 : loadPV ⟨B ++ [cA a b c], T, L, lo⟩ false 1 (.ptr B.length 2) = some (.str c) := by simp [loadPV, readCells]
theorem ld_aa : loadPV ⟨B ++ [cA a b c], T, L, lo⟩ true 3 (.ptr B.length 0) = some (.agg (cA a b c)) := by simp [loadPV, readCells]
theorem st_aa {a' b' c' : Bs} : storePV ⟨B ++ [cA a b c], T, L, lo⟩ 3 (.ptr B.length 0) (.agg (cA a' b' c')) = some ⟨B ++ [cA a' b' c'], T, L, lo⟩ := by
  simp [storePV, PV.cells, PV.inB, PV.inB.inBAll, setCells, hasTok, tokOf, leafOk]
theorem cells_agg {cs : List PV} : (PV.agg cs).cells = cs := rfl
theorem Kept.box1 {z : List PV} : Kept st ⟨st.boxes ++ [z], st.toks, st.loops, st.boxes.length⟩ := Kept.start.alloc

structure okA (a : Adr) : Prop where
  n : a.1.length ≤ 100000000
  l : a.2.1.length ≤ 100000000
  d : a.2.2.length ≤ 100000000

theorem Right_spec {a : Adr} (h : okA a) : call prog (.fn 111 []) [aV a] st = some (.bool (rightA a), st) := by
  refine call_of_W prog_111 ?_
  unfold F_addr_Right; dsimp only
  obtain ⟨n, l, d⟩ := a
  have hn := h.n; have hl := h.l; have hd := h.d
  simp only at hn hl hd
  have e64 : ((l.length : Int) ≤ 64) = (l.length ≤ 64) := by apply propext; omega
  have e253 : ((d.length : Int) ≤ 253) = (d.length ≤ 253) := by apply propext; omega
  have hA := fun S : St => atoms_spec (st := S) (c := 46) hl
  have hD := fun S : St => labels_spec (st := S) (c := 46) hd
  have hN := fun S : St => isNm_spec (st := S) hn
  simp (maxSteps := 1000000) (disch := omega) only [aV, inB_a, all_a, allocPV, cells_agg, faP, Nat.zero_add, ld_a0, ld_a1, ld_a2, len_s, e64, e253, hA, hD, hN, qaaz, qabz, qaiz, qajz, qclz, qcmz, qcnz, qcqz, qcwz, forall_const, and_self, qalz, evOp, qaoz, qapz, qaqz, qarz, qatz, qavz,
 ↓reduceIte, Nat.reduceEqDiff, List.append_nil, List.map_cons, List.map_nil, qawz, Option.map_some, qazz, qblz, qbqz, decide_eq_true_eq, decide_eq_false_iff_not, Bool.false_eq_true, Bool.true_eq_false, true_and, and_true]
  clear hA hD hN
  repeat' (first | refine And.intro ?_ ?_ | intro q)
  all_goals exact retB rfl Kept.box1 (by simp only [rightA, *, decide_true, decide_false, Bool.and_true, Bool.true_and, Bool.and_false, Bool.false_and])

def bst2 (st : St) (z : List PV) (l : Bs) : St := ⟨(st.boxes ++ [z]) ++ [l.map PV.b8], st.toks, st.loops, st.boxes.length⟩
theorem load_bst2 {z : List PV} {l : Bs} {i : Nat} (h : i < l.length) : loadPV (bst2 st z l) false 1 (.ptr (st.boxes.length + 1) i) = some (.b8 (l.getD i 0)) := by
  have hg : (st.boxes ++ [z] ++ [l.map PV.b8])[st.boxes.length + 1]? = some (l.map PV.b8) := by
    rw [List.getElem?_append_right (by simp)]; simp
  simp only [loadPV, bst2, hg]
  rw [← List.map_drop, drop_getD h]; rfl
theorem store_bst2 {z : List PV} {l : Bs} {i : Nat} {c : UInt8} (h : i < l.length) : storePV (bst2 st z l) 1 (.ptr (st.boxes.length + 1) i) (.b8 c) = some (bst2 st z (l.set i c)) := by
  have hg : (st.boxes ++ [z] ++ [l.map PV.b8])[st.boxes.length + 1]? = some (l.map PV.b8) := by
    rw [List.getElem?_append_right (by simp)]; simp
  have hs : ∀ y, (st.boxes ++ [z] ++ [l.map PV.b8]).set (st.boxes.length + 1) y = st.boxes ++ [z] ++ [y] := fun y => by
    rw [List.set_append_right _ _ (by simp)]; simp
  have h2 : i + 1 ≤ l.length := by omega
  simp only [storePV, bst2, hg, PV.cells]
  simp [h2, PV.inB, leafOk, setCells, hasTok, tokOf, List.map_set]
theorem b2s_bst2 {z : List PV} {l : Bs} {n : Nat} (h : n = l.length) : b2s true (bst2 st z l) (.ms (st.boxes.length + 1) 0 n) = some l := by
  subst h
  have hg : (st.boxes ++ [z] ++ [l.map PV.b8])[st.boxes.length + 1]? = some (l.map PV.b8) := by
    rw [List.getElem?_append_right (by simp)]; simp
  simp only [b2s, if_true, src8, bst2, hg]
  rw [if_pos (by simp), List.drop_zero, List.take_of_length_le (by simp), bytesOf_map]
theorem Kept.bst2 {z : List PV} {l : Bs} : Kept st (bst2 st z l) := by
  have := (Kept.box1 (st := st) (z := z)).alloc (z := l.map PV.b8)
  exact this

theorem aPlain_spec {s : Bs} (h : s.length ≤ 100000000) : call prog (.fn 115 []) [.str s] st = some (.tup [aV (plainA s).1, .int .i64 (plainA s).2], st) := by
  refine call_of_W prog_115 ?_
  unfold F_addr_Plain; dsimp only
  have hcut : ∀ S : St, call prog (.fn 128 []) [.str s, .str [64]] S = some (cutAt s [64], S) := fun S => Cut_spec (by omega) (by simp)
  obtain ⟨a, ha⟩ : ∃ a, a = cutA s := ⟨_, rfl⟩
  obtain ⟨t, hct⟩ : ∃ t, cutAt s [64] = .tup [.str a.2.1, .str a.2.2, .bool t] := by
    rw [ha]
    unfold cutAt cutA
    split
    · exact ⟨true, rfl⟩
    · exact ⟨false, rfl⟩
  have ha1 : a.1 = [] := by rw [ha]; unfold cutA; split <;> rfl
  have hok : okA a := by
    rw [ha]
    unfold cutA
    split
    · exact ⟨by simp, by simp; omega, by simp; omega⟩
    · exact ⟨by simp, h, by simp⟩
  rw [hct] at hcut
  obtain ⟨n, l, d⟩ := a
  simp only at ha1 hcut
  subst ha1
  have hR := fun S : St => Right_spec (st := S) hok
  simp only [aV] at hR
  have hbuild : buildCells [.str [], .str [], .str []] [(1, 1, .str l), (2, 1, .str d)] = some (cA [] l d) := rfl
  have hb0 : buildCells [.str [], .str [], .str []] [] = some (cA [] [] []) := rfl
  have hlen1 : (st.boxes ++ [cA [] [] []]).length = st.boxes.length + 1 := by simp
  have hs2 : ∀ T L lo, storePV ⟨st.boxes ++ [cA [] [] []] ++ [cA [] [] []], T, L, lo⟩ 3 (.ptr (st.boxes.length + 1) 0) (.agg (cA [] l d)) = some ⟨st.boxes ++ [cA [] [] []] ++ [cA [] l d], T, L, lo⟩ := fun T L lo => by
    have := st_aa (B := st.boxes ++ [cA [] [] []]) (T := T) (L := L) (lo := lo) (a := []) (b := []) (c := []) (a' := []) (b' := l) (c' := d)
    rw [hlen1] at this; exact this
  have hl2 : ∀ x T L lo, loadPV ⟨st.boxes ++ [x] ++ [cA [] l d], T, L, lo⟩ true 3 (.ptr (st.boxes.length + 1) 0) = some (.agg (cA [] l d)) := fun x T L lo => by
    have := ld_aa (B := st.boxes ++ [x]) (T := T) (L := L) (lo := lo) (a := []) (b := l) (c := d)
    simpa using this
  have hs0 : ∀ (x y z : Bs) (w : List PV) T L lo, storePV ⟨st.boxes ++ [cA [] [] []] ++ [w], T, L, lo⟩ 3 (.ptr st.boxes.length 0) (.agg (cA x y z)) = some ⟨st.boxes ++ [cA x y z] ++ [w], T, L, lo⟩ := fun x y z w T L lo => by
    simp [storePV, PV.cells, PV.inB, PV.inB.inBAll, setCells, hasTok, tokOf, leafOk]
  have fin : ∀ (E : Env) (x y z : Bs) (w : List PV) (c : Int), E 2 = .ptr st.boxes.length 0 → E 3 = .int .i64 c → plainA s = ((x, y, z), c) →
      ∃ rv, resOf E ⟨st.boxes ++ [cA x y z] ++ [w], st.toks, st.loops, st.boxes.length⟩ [.cell 2 true 3, .tmp 3] = some rv ∧ leave st ⟨st.boxes ++ [cA x y z] ++ [w], st.toks, st.loops, st.boxes.length⟩ rv = (.tup [aV (plainA s).1, .int .i64 (plainA s).2], st) := by
    intro E x y z w c k2 k3 hp
    have hk : Kept st ⟨st.boxes ++ [cA x y z] ++ [w], st.toks, st.loops, st.boxes.length⟩ := (Kept.box1 (st := st) (z := cA x y z)).alloc
    refine ⟨.tup [.agg (cA x y z), .int .i64 c], ?_, ?_⟩
    · simp [resOf, rvAll, rv1, k2, k3, loadPV, readCells, notTup, packRes]
    · rw [hp]; exact hk.leave rfl (fun _ _ => rfl)
  cases hr : rightA ([], l, d) with
  | true =>
    rw [hr] at hR
    simp (maxSteps := 1000000) (disch := omega) only [allocPV, hcut, hbuild, hlen1, hs2, hl2, hR, hs0, qaaz, qabz, qacz, qaez, qaiz, qajz, qcrz, qcwz, forall_const, qalz, evOp, qaoz, qapz, qaqz, qarz, qatz, qauz, qavz,
 ↓reduceIte, Nat.reduceEqDiff, List.append_nil, List.map_cons, List.map_nil, qawz, Option.map_some, qazz, qblz, qcfz, Bool.false_eq_true, qcjz, List.getElem?_cons_zero, List.getElem?_cons_succ, true_and, reduceCtorEq, Bool.not_true]
    exact fin _ [] l d _ 0 rfl rfl (by simp [plainA, ← ha, hr])
  | false =>
    rw [hr] at hR
    simp (maxSteps := 1000000) (disch := omega) only [allocPV, hcut, hbuild, hb0, hlen1, hs2, hl2, hR, hs0, qaaz, qabz, qacz, qaez, qaiz, qajz, qcrz, qcwz, forall_const, qalz, evOp, qaoz, qapz, qaqz, qarz, qatz, qauz, qavz,
 ↓reduceIte, Nat.reduceEqDiff, List.append_nil, List.map_cons, List.map_nil, qawz, Option.map_some, qazz, qbaz, qblz, qcfz, Bool.true_eq_false, qcjz, List.getElem?_cons_zero, List.getElem?_cons_succ, and_true, reduceCtorEq, Bool.not_false]
    exact fin _ [] [] [] _ 60 rfl rfl (by simp [plainA, ← ha, hr, noA])
end Go.Ab
/-
  Layer 20: what must come of fixed calls; weekdays.
-/
namespace Go.Ab
set_option maxRecDepth 20000
variable {st s : St} {e : Env}

end Go.Ab
/-
  Ids are written.
-/
namespace Go.Ab
set_option maxRecDepth 20000
variable {st s : St} {e : Env}

theorem Right_w {t : Int} : call prog (.fn 199 []) [.int .i64 t] st = some (.bool (decide (0 ≤ t ∧ t ≤ 253402300799)), st) := by
  refine call_of_W prog_199 ?_
  unfold F_when_Right; dsimp only
  by_cases h1 : 0 ≤ t
  · by_cases h2 : t ≤ 253402300799
    · simp (maxSteps := 1000000) (disch := omega) only [h1, h2, qaaz, qabz, qaiz, qajz, qakz, qalz, qamz, qanz, evOp, qaoz, qapz, qarz, qatz, qavz,
 ↓reduceIte, Nat.reduceEqDiff, List.append_nil, qawz, Option.map_some, qazz, qblz, qbqz, qbsz, beq_true, decide_true, and_true, reduceCtorEq]
      exact retB rfl Kept.start (by simp [])
    · simp (maxSteps := 1000000) (disch := omega) only [h1, h2, qaaz, qabz, qaiz, qajz, qakz, qalz, qamz, qanz, evOp, qaoz, qapz, qarz, qatz, qavz,
 ↓reduceIte, Nat.reduceEqDiff, List.append_nil, qawz, Option.map_some, qazz, qblz, qbqz, qbsz, beq_true, decide_true, decide_false,
 true_and, reduceCtorEq]
      exact retB rfl Kept.start (by simp [])
  · simp (maxSteps := 1000000) (disch := omega) only [h1, qaaz, qabz, qaiz, qajz, qakz, qalz, qamz, qanz, evOp, qaoz, qapz, qarz, qatz, qavz,
 ↓reduceIte, Nat.reduceEqDiff, List.append_nil, qawz, Option.map_some, qazz, qblz, qbsz, beq_true, decide_false,
 Bool.false_eq_true, reduceCtorEq]
    exact retB rfl Kept.start (by simp [])

end Go.Ab
/-
  Rows of one's own in a state that keeps what the caller has.
-/
namespace Go.Ab
variable {st s : St} {e : Env}

theorem Kept.appV {esz : Nat} {v u w : PV} {xs : List PV} (hk : Kept st s) (h : Own st s esz v xs) (hl : xs.length + 1 ≤ room) :
    ∃ v' s', Ab.appV esz s.tok1 v (.sl esz (.own s.toks.length) [u]) = some (v', s') ∧ Kept st s' ∧ Own st s' esz v' (xs ++ [u]) ∧ s'.boxes = s.boxes := by
  have hk1 := hk.tok1
  have hg : GrewAt s.tok1.boxes st.toks s.tok1.loops s.tok1.low s.tok1 := ⟨rfl, rfl, rfl, hk1.tk⟩
  have h1 := h.tok1
  obtain ⟨g2, o2⟩ := Own.app (ys := xs ++ [u]) hg h1
  refine ⟨_, _, appV_own h1 hl, ⟨?_, ?_, ?_, g2.tk⟩, o2, g2.bx⟩
  · rw [g2.bx]; exact hk1.bx
  · rw [g2.lp]; exact hk1.lp
  · rw [g2.lw]; exact hk1.lw
theorem Kept.leaveOwn1 {esz : Nat} {v : PV} {xs : List PV} (hk : Kept st s) (h : Own st s esz v xs) (hne : xs = [] → v = .nils) : Ab.leave st s v = (newSl st esz xs, newS st xs.isEmpty) := by
  have e1 := hk.bx; have e2 := hk.lp; have e3 := hk.tk
  rcases h with ⟨rfl, rfl⟩ | ⟨i, rfl, h2, h3⟩
  · simp [Ab.leave, PV.inB, hk.lw, keepRes, keepVal, keepLeaf, newSl, newS, e1, e2, e3]
  · by_cases hx : xs = []
    · have := hne hx; cases this
    · simp [Ab.leave, PV.inB, hk.lw, keepRes, keepVal, keepLeaf, keepTok, newSl, newS, hx, h3, show ¬ i < st.toks.length by omega, e1, e2, e3, St.tok1]
end Go.Ab
/-
  Ids are read; the law DateUnlike.
-/
namespace Go.Ab
set_option maxRecDepth 20000
variable {st s : St} {e : Env}

end Go.Ab
/-
  The document's addresses: parts, letters, atoms, domains.
-/
namespace Go.Ab
set_option maxRecDepth 20000
variable {st s : St} {e : Env}

end Go.Ab
/-
  The document's addresses: domains, plain addresses.
-/
namespace Go.Ab
set_option maxRecDepth 20000
variable {st s : St} {e : Env}

end Go.Ab
/-
  The calendar: plain.
-/
namespace Go.Ab
set_option maxRecDepth 20000

def lpY (y : Nat) : Bool := (y % 4 == 0 && y % 100 != 0) || y % 400 == 0
def befY (y : Nat) : Nat := 365 * (y - 1970) + (y - 1) / 4 + (y - 1) / 400 - ((y - 1) / 100 + 477)
def mdY (y m : Nat) : Nat := if m = 2 then (if lpY y then 29 else 28) else if m = 4 ∨ m = 6 ∨ m = 9 ∨ m = 11 then 30 else 31
def cumY (y : Nat) : Nat → Nat
  | 0 => 0
  | m + 1 => cumY y m + if m = 0 then 0 else mdY y m

structure Ci (n y m d : Nat) : Prop where
  y1 : 1970 ≤ y
  y2 : y ≤ 9999
  m1 : 1 ≤ m
  m2 : m ≤ 12
  d1 : 1 ≤ d
  d2 : d ≤ mdY y m
  eq : n + 1 = befY y + cumY y m + d

end Go.Ab
/-
  Dates: two digits, names, the calendar's walk (the program's).
-/
namespace Go.Ab
set_option maxRecDepth 20000
variable {st s : St} {e : Env}

end Go.Ab
/-
  A day's year, month and day: both walks.
-/
namespace Go.Ab
set_option maxRecDepth 20000
variable {st s : St} {e : Env}

end Go.Ab
/-
  Dates are written, both ways; the law DatePrints.
-/
namespace Go.Ab
set_option maxRecDepth 20000
variable {st s : St} {e : Env}

end Go.Ab
/-
  The document's plain addresses and ids.
-/
namespace Go.Ab
set_option maxRecDepth 20000
variable {st s : St} {e : Env}

end Go.Ab
/-
  Methods, signs of a message and notes that may be: both walked.
-/
namespace Go.Ab
set_option maxRecDepth 20000
variable {st s : St} {e : Env}

theorem isMethod_spec {l : Bs} (hl : l.length ≤ 9223372036854775807) : call prog (.fn 201 []) [.str l] st = some (.bool (methB l), st) := by
  refine call_of_W prog_201 ?_
  unfold F_event_isMethod; dsimp only
  simp (maxSteps := 1000000) (disch := omega) only [len_s, qaaz, qabz, qadz, qajz, qalz, evOp, qaoz, qapz, qarz, qatz, qavz,
 ↓reduceIte, List.append_nil, qawz, Option.map_some, qazz, reduceCtorEq]
  obtain ⟨I, hI⟩ : ∃ I : Nat → Env → St → Prop, I = fun k e s' => ∃ (i : Nat), k = l.length - i ∧ i ≤ l.length ∧ Kept st s' ∧ (∀ j, j < i → mtC (l.getD j 0) = true) ∧ e 0 = .str l ∧ e 5 = .int .i64 (l.length : Int) ∧ e 6 = .int .i64 (i : Int) := ⟨_, rfl⟩
  refine W_loop I ?_ (n := l.length) (by
    rw [hI]
    exact ⟨0, rfl, by omega, Kept.start, fun j h => by omega, rfl, rfl, rfl⟩)
  intro k e s' hh
  rw [hI] at hh
  obtain ⟨i, rfl, hi, hk, hall, h0, h5, h6⟩ := hh
  by_cases hlt : i < l.length
  · obtain ⟨c, hc⟩ : ∃ c, c = l.getD i 0 := ⟨_, rfl⟩
    have bad : mtC c = false → ∀ E : Env, E 2 = .bool false → ∃ rv, resOf E s' [.tmp 2] = some rv ∧ leave st s' rv = (.bool (methB l), st) := fun h E k2 =>
      retB k2 hk (by simp only [methB, all_bad (p := mtC) hlt (by rw [← hc]; exact h), Bool.false_and])
    have next : mtC c = true → ∀ E : Env, E 0 = .str l → E 5 = .int .i64 (l.length : Int) → E 6 = .int .i64 ((i + 1 : Nat) : Int) → ∃ m, m < l.length - i ∧ I m E s' := fun h E k0 k5 k6 =>
      ⟨l.length - (i + 1), by omega, by
        rw [hI]
        refine ⟨i + 1, rfl, by omega, hk, fun j hj => ?_, k0, k5, k6⟩
        by_cases hji : j = i
        · subst hji; rw [← hc]; exact h
        · exact hall j (by omega)⟩
    simp (maxSteps := 1000000) (disch := omega) only [h0, h5, h6, hlt, idx_s, ← hc, add_n, loopQ_normal, qaaz, qabz, qacz, qadz, qaez, qagz, qaiz, qajz, qclz, qcmz, qcnz, qcoz, qcpz, qcqz, qcrz, qcwz, Decidable.not_not, forall_const, qalz, evOp, qaoz, qapz, qarz, qatz, qavz,
 ↓reduceIte, Nat.reduceEqDiff, Option.map_some, qazz, qbaz, qbbz, qbdz, qbez, qbfz, qbiz, qbjz, qblz, qbpz, qbxz, qbzz, qccz, decide_eq_true_eq, decide_eq_false_iff_not, decide_true, Int.toNat_natCast, Int.ofNat_lt, Bool.false_eq_true, Bool.true_eq_false, Int.reduceToNat, true_and, and_true, reduceCtorEq, ne_eq]
    clear hc hall hI
    repeat' (first | refine And.intro ?_ ?_ | intro q)
    all_goals first | contradiction | exact bad (by simp only [mtC, *, decide_true, decide_false, Bool.and_true, Bool.and_false, Bool.false_and, Bool.not_true, Bool.not_false] <;> decide) _ rfl | exact next (by simp only [mtC, *, decide_false, Bool.and_true, Bool.not_false] <;> decide) _ h0 h5 rfl | (exfalso; subst_vars; first | (simp_all; done) | (revert q; decide))
  · obtain rfl : i = l.length := by omega
    have ha := all_getD (p := mtC) hall
    by_cases g1 : l = []
    · simp (maxSteps := 1000000) (disch := omega) only [h0, h5, h6, hlt, len_s, eq_true g1, qaaz, qabz, qacz, qadz, qaez, qagz, qaiz, qajz, qclz, qcmz, qcnz, qcqz, qcrz, qcwz, forall_const, qalz, evOp, qaoz, qapz, qarz, qatz, qavz,
 ↓reduceIte, Nat.reduceEqDiff, Option.map_some, qazz, qbbz, qbfz, qbjz, qblz, qbpz, qbqz, qccz, decide_false,
 Int.ofNat_lt, Bool.false_eq_true, Bool.true_eq_false, true_and, and_true, reduceCtorEq, ne_eq, not_true_eq_false]
      exact retB rfl hk (by simp [methB, g1])
    · have hp := List.length_pos_iff.2 g1
      have e1 : (1 : Int) ≤ (l.length : Int) := by omega
      have d1 : 1 ≤ l.length := by omega
      by_cases g2 : l.length ≤ 32
      · have e2 : (l.length : Int) ≤ 32 := by omega
        simp (maxSteps := 1000000) (disch := omega) only [h0, h5, h6, hlt, len_s, g1, e2, qaaz, qabz, qacz, qadz, qaez, qagz, qaiz, qajz, qclz, qcmz, qcnz, qcqz, qcrz, qcwz, forall_const, qalz, evOp, qaoz, qapz, qarz, qatz, qavz,
 ↓reduceIte, Nat.reduceEqDiff, Option.map_some, qazz, qbbz, qbfz, qbjz, qblz, qbpz, qbqz, qccz, decide_true, decide_false,
 Int.ofNat_lt, Bool.false_eq_true, Bool.true_eq_false, true_and, and_true, reduceCtorEq, ne_eq, not_false_eq_true]
        exact retB rfl hk (by simp only [methB, ha, d1, g2, decide_true, Bool.and_true])
      · have e2 : ¬ (l.length : Int) ≤ 32 := by omega
        simp (maxSteps := 1000000) (disch := omega) only [h0, h5, h6, hlt, len_s, g1, e2, qaaz, qabz, qacz, qadz, qaez, qagz, qaiz, qajz, qclz, qcmz, qcnz, qcqz, qcrz, qcwz, forall_const, qalz, evOp, qaoz, qapz, qarz, qatz, qavz,
 ↓reduceIte, Nat.reduceEqDiff, Option.map_some, qazz, qbbz, qbfz, qbjz, qblz, qbpz, qbqz, qccz, decide_true, decide_false,
 Int.ofNat_lt, Bool.false_eq_true, Bool.true_eq_false, true_and, and_true, reduceCtorEq, ne_eq, not_false_eq_true]
        exact retB rfl hk (by simp only [methB, g2, decide_false, Bool.and_false])

theorem isUID_spec {l : Bs} (hl : l.length ≤ 100000000) : call prog (.fn 202 []) [.str l] st = some (.bool (uidB l), st) := by
  refine call_of_W prog_202 ?_
  unfold F_event_isUID; dsimp only
  simp (maxSteps := 1000000) (disch := omega) only [len_s, qaaz, qabz, qadz, qajz, qalz, evOp, qaoz, qapz, qarz, qatz, qavz,
 ↓reduceIte, List.append_nil, qawz, Option.map_some, qazz, reduceCtorEq]
  obtain ⟨I, hI⟩ : ∃ I : Nat → Env → St → Prop, I = fun k e s' => ∃ (i : Nat), k = l.length - i ∧ i ≤ l.length ∧ Kept st s' ∧ (∀ j, j < i → uiC (l.getD j 0) = true) ∧ e 0 = .str l ∧ e 5 = .int .i64 (l.length : Int) ∧ e 6 = .int .i64 (i : Int) := ⟨_, rfl⟩
  refine W_loop I ?_ (n := l.length) (by
    rw [hI]
    exact ⟨0, rfl, by omega, Kept.start, fun j h => by omega, rfl, rfl, rfl⟩)
  intro k e s' hh
  rw [hI] at hh
  obtain ⟨i, rfl, hi, hk, hall, h0, h5, h6⟩ := hh
  by_cases hlt : i < l.length
  · obtain ⟨c, hc⟩ : ∃ c, c = l.getD i 0 := ⟨_, rfl⟩
    have bad : uiC c = false → ∀ E : Env, E 2 = .bool false → ∃ rv, resOf E s' [.tmp 2] = some rv ∧ leave st s' rv = (.bool (uidB l), st) := fun h E k2 =>
      retB k2 hk (by simp only [uidB, all_bad (p := uiC) hlt (by rw [← hc]; exact h), Bool.false_and])
    have next : uiC c = true → ∀ E : Env, E 0 = .str l → E 5 = .int .i64 (l.length : Int) → E 6 = .int .i64 ((i + 1 : Nat) : Int) → ∃ m, m < l.length - i ∧ I m E s' := fun h E k0 k5 k6 =>
      ⟨l.length - (i + 1), by omega, by
        rw [hI]
        refine ⟨i + 1, rfl, by omega, hk, fun j hj => ?_, k0, k5, k6⟩
        by_cases hji : j = i
        · subst hji; rw [← hc]; exact h
        · exact hall j (by omega)⟩

    by_cases q1 : c < 33
    · simp (maxSteps := 1000000) (disch := omega) only [h0, h5, h6, hlt, idx_s, ← hc, q1, qaaz, qabz, qacz, qadz, qaez, qaiz, qajz, qakz, qalz, qamz, qanz, evOp, qaoz, qapz, qarz, qatz, qavz,
 ↓reduceIte, Nat.reduceEqDiff, Option.map_some, qazz, qbaz, qbez, qbhz, qbiz, qblz, qbpz, qbxz, beq_false, decide_true, Int.toNat_natCast, Int.ofNat_lt, Bool.false_eq_true, reduceCtorEq, Bool.not_true]
      exact bad (by simp only [uiC, q1, decide_true, Bool.false_and, Bool.not_true]) _ rfl
    by_cases q2 : 126 < c
    · simp (maxSteps := 1000000) (disch := omega) only [h0, h5, h6, hlt, idx_s, ← hc, q1, q2, qaaz, qabz, qacz, qadz, qaez, qaiz, qajz, qakz, qalz, qamz, qanz, evOp, qaoz, qapz, qarz, qatz, qavz,
 ↓reduceIte, Nat.reduceEqDiff, Option.map_some, qazz, qbaz, qbez, qbhz, qbiz, qblz, qbpz, qbxz, qbzz, beq_false, decide_true, decide_false,
 Int.toNat_natCast, Int.ofNat_lt, Bool.false_eq_true, reduceCtorEq, Bool.not_true, Bool.not_false]
      exact bad (by simp only [uiC, q1, q2, decide_true, decide_false, Bool.and_false, Bool.false_and, Bool.not_true, Bool.not_false]) _ rfl
    by_cases q3 : c = 92
    · simp (maxSteps := 1000000) (disch := omega) only [h0, h5, h6, hlt, idx_s, ← hc, q1, q2, eq_true q3, qaaz, qabz, qacz, qadz, qaez, qaiz, qajz, qakz, qalz, qamz, qanz, evOp, qaoz, qapz, qarz, qatz, qavz,
 ↓reduceIte, Nat.reduceEqDiff, Option.map_some, qazz, qbaz, qbez, qbhz, qbiz, qblz, qbpz, qbvz, qbxz, qbzz, beq_false, decide_true, decide_false,
 Int.toNat_natCast, Int.ofNat_lt, Bool.false_eq_true, reduceCtorEq, Bool.not_true, Bool.not_false]
      exact bad (by simp only [uiC, q3, decide_true, Bool.and_false, Bool.false_and, Bool.not_true]) _ rfl
    by_cases q4 : c = 59
    · simp (maxSteps := 1000000) (disch := omega) only [h0, h5, h6, hlt, idx_s, ← hc, q1, q2, q3, eq_true q4, qaaz, qabz, qacz, qadz, qaez, qaiz, qajz, qakz, qalz, qamz, qanz, evOp, qaoz, qapz, qarz, qatz, qavz,
 ↓reduceIte, Nat.reduceEqDiff, Option.map_some, qazz, qbaz, qbez, qbhz, qbiz, qblz, qbpz, qbvz, qbxz, qbzz, beq_false, decide_true, decide_false,
 Int.toNat_natCast, Int.ofNat_lt, Bool.false_eq_true, reduceCtorEq, Bool.not_true, Bool.not_false]
      exact bad (by simp only [uiC, q4, decide_true, Bool.and_false, Bool.false_and, Bool.not_true]) _ rfl
    by_cases q5 : c = 44
    · simp (maxSteps := 1000000) (disch := omega) only [h0, h5, h6, hlt, idx_s, ← hc, q1, q2, q3, q4, eq_true q5, qaaz, qabz, qacz, qadz, qaez, qaiz, qajz, qakz, qalz, qamz, qanz, evOp, qaoz, qapz, qarz, qatz, qavz,
 ↓reduceIte, Nat.reduceEqDiff, Option.map_some, qazz, qbaz, qbez, qbhz, qbiz, qblz, qbpz, qbvz, qbxz, qbzz, beq_false, decide_true, decide_false,
 Int.toNat_natCast, Int.ofNat_lt, Bool.false_eq_true, reduceCtorEq, Bool.not_false]
      exact bad (by simp only [uiC, q5, decide_true, Bool.and_false, Bool.not_true]) _ rfl
    simp (maxSteps := 1000000) (disch := omega) only [h0, h5, h6, hlt, idx_s, ← hc, q1, q2, q3, q4, q5, add_n, loopQ_normal, qaaz, qabz, qacz, qadz, qaez, qajz, qakz, qalz, qamz, qanz, evOp, qaoz, qapz, qarz, qatz, qavz,
 ↓reduceIte, Nat.reduceEqDiff, Option.map_some, qazz, qbdz, qbhz, qbpz, qbvz, qbxz, qbzz, beq_false, decide_true, decide_false,
 Int.toNat_natCast, Int.ofNat_lt, Bool.false_eq_true, Int.reduceToNat, reduceCtorEq, Bool.not_false]
    exact next (by simp only [uiC, q1, q2, q3, q4, q5, decide_false, Bool.and_true, Bool.not_false]) _ h0 h5 rfl
  · obtain rfl : i = l.length := by omega
    have ha := all_getD (p := uiC) hall
    by_cases g1 : l = []
    · simp (maxSteps := 1000000) (disch := omega) only [h0, h5, h6, hlt, len_s, eq_true g1, qaaz, qabz, qacz, qadz, qaez, qagz, qaiz, qajz, qclz, qcmz, qcnz, qcqz, qcrz, qcwz, forall_const, qalz, evOp, qaoz, qapz, qarz, qatz, qavz,
 ↓reduceIte, Nat.reduceEqDiff, Option.map_some, qazz, qbbz, qbfz, qbjz, qblz, qbpz, qbqz, qccz, decide_false,
 Int.ofNat_lt, Bool.false_eq_true, Bool.true_eq_false, true_and, and_true, reduceCtorEq, ne_eq, not_true_eq_false]
      exact retB rfl hk (by simp [uidB, g1])
    · have hp := List.length_pos_iff.2 g1
      have e1 : (1 : Int) ≤ (l.length : Int) := by omega
      have d1 : 1 ≤ l.length := by omega
      by_cases g2 : l.length ≤ 200
      · have e2 : (l.length : Int) ≤ 200 := by omega
        simp (maxSteps := 1000000) (disch := omega) only [h0, h5, h6, hlt, len_s, g1, e2, qaaz, qabz, qacz, qadz, qaez, qagz, qaiz, qajz, qclz, qcmz, qcnz, qcqz, qcrz, qcwz, forall_const, qalz, evOp, qaoz, qapz, qarz, qatz, qavz,
 ↓reduceIte, Nat.reduceEqDiff, Option.map_some, qazz, qbbz, qbfz, qbjz, qblz, qbpz, qbqz, qccz, decide_true, decide_false,
 Int.ofNat_lt, Bool.false_eq_true, Bool.true_eq_false, true_and, and_true, reduceCtorEq, ne_eq, not_false_eq_true]
        exact retB rfl hk (by simp only [uidB, ha, d1, g2, decide_true, Bool.and_true])
      · have e2 : ¬ (l.length : Int) ≤ 200 := by omega
        simp (maxSteps := 1000000) (disch := omega) only [h0, h5, h6, hlt, len_s, g1, e2, qaaz, qabz, qacz, qadz, qaez, qagz, qaiz, qajz, qclz, qcmz, qcnz, qcqz, qcrz, qcwz, forall_const, qalz, evOp, qaoz, qapz, qarz, qatz, qavz,
 ↓reduceIte, Nat.reduceEqDiff, Option.map_some, qazz, qbbz, qbfz, qbjz, qblz, qbpz, qbqz, qccz, decide_true, decide_false,
 Int.ofNat_lt, Bool.false_eq_true, Bool.true_eq_false, true_and, and_true, reduceCtorEq, ne_eq, not_false_eq_true]
        exact retB rfl hk (by simp only [uidB, g2, decide_false, Bool.and_false])

theorem isNote_spec {l : Bs} (hl : l.length ≤ 100000000) : call prog (.fn 205 []) [.str l] st = some (.bool (noteB l), st) := by
  refine call_of_W prog_205 ?_
  unfold F_event_isNote; dsimp only
  simp (maxSteps := 1000000) (disch := omega) only [len_s, qaaz, qabz, qadz, qajz, qalz, evOp, qaoz, qapz, qarz, qatz, qavz,
 ↓reduceIte, List.append_nil, qawz, Option.map_some, qazz, reduceCtorEq]
  obtain ⟨I, hI⟩ : ∃ I : Nat → Env → St → Prop, I = fun k e s' => ∃ (i : Nat), k = l.length - i ∧ i ≤ l.length ∧ Kept st s' ∧ (∀ j, j < i → noC (l.getD j 0) = true) ∧ e 0 = .str l ∧ e 5 = .int .i64 (l.length : Int) ∧ e 6 = .int .i64 (i : Int) := ⟨_, rfl⟩
  refine W_loop I ?_ (n := l.length) (by
    rw [hI]
    exact ⟨0, rfl, by omega, Kept.start, fun j h => by omega, rfl, rfl, rfl⟩)
  intro k e s' hh
  rw [hI] at hh
  obtain ⟨i, rfl, hi, hk, hall, h0, h5, h6⟩ := hh
  by_cases hlt : i < l.length
  · obtain ⟨c, hc⟩ : ∃ c, c = l.getD i 0 := ⟨_, rfl⟩
    have bad : noC c = false → ∀ E : Env, E 2 = .bool false → ∃ rv, resOf E s' [.tmp 2] = some rv ∧ leave st s' rv = (.bool (noteB l), st) := fun h E k2 =>
      retB k2 hk (by simp only [noteB, all_bad (p := noC) hlt (by rw [← hc]; exact h), Bool.false_and])
    have next : noC c = true → ∀ E : Env, E 0 = .str l → E 5 = .int .i64 (l.length : Int) → E 6 = .int .i64 ((i + 1 : Nat) : Int) → ∃ m, m < l.length - i ∧ I m E s' := fun h E k0 k5 k6 =>
      ⟨l.length - (i + 1), by omega, by
        rw [hI]
        refine ⟨i + 1, rfl, by omega, hk, fun j hj => ?_, k0, k5, k6⟩
        by_cases hji : j = i
        · subst hji; rw [← hc]; exact h
        · exact hall j (by omega)⟩

    by_cases q7 : c = 127
    · have q1 : ¬ c < 32 := by rw [q7]; decide
      simp (maxSteps := 1000000) (disch := omega) only [h0, h5, h6, hlt, idx_s, ← hc, q1, eq_true q7, qaaz, qabz, qacz, qadz, qaez, qaiz, qajz, qakz, qalz, qamz, qanz, evOp, qaoz, qapz, qarz, qatz, qavz,
 ↓reduceIte, Nat.reduceEqDiff, Option.map_some, qazz, qbaz, qbez, qbhz, qbiz, qblz, qbpz, qbvz, qbxz, beq_true, beq_false, decide_true, decide_false,
 Int.toNat_natCast, Int.ofNat_lt, Bool.false_eq_true, reduceCtorEq, Bool.not_false]
      exact bad (by simp only [noC, q1, eq_true q7, decide_true, decide_false, Bool.and_false, Bool.false_and, Bool.not_true, Bool.not_false]) _ rfl
    by_cases q1 : c < 32
    · by_cases q9 : c = 9
      · simp (maxSteps := 1000000) (disch := omega) only [h0, h5, h6, hlt, idx_s, ← hc, q1, q7, eq_true q9, add_n, loopQ_normal, qaaz, qabz, qacz, qadz, qaez, qajz, qakz, qalz, qamz, qanz, evOp, qaoz, qapz, qarz, qatz, qavz,
 ↓reduceIte, Nat.reduceEqDiff, Option.map_some, qazz, qbdz, qbhz, qbpz, qbvz, qbwz, qbxz, beq_true, beq_false, decide_true, decide_false,
 Int.toNat_natCast, Int.ofNat_lt, Bool.false_eq_true, Int.reduceToNat, reduceCtorEq, Bool.not_false, ne_eq, not_true_eq_false]
        exact next (by simp only [noC, q1, q7, eq_true q9, decide_true, decide_false, Bool.and_true, Bool.and_false, Bool.false_and, Bool.not_true, Bool.not_false]) _ h0 h5 rfl
      · by_cases q10 : c = 10
        · simp (maxSteps := 1000000) (disch := omega) only [h0, h5, h6, hlt, idx_s, ← hc, q1, q7, q9, eq_true q10, add_n, loopQ_normal, qaaz, qabz, qacz, qadz, qaez, qajz, qakz, qalz, qamz, qanz, evOp, qaoz, qapz, qarz, qatz, qavz,
 ↓reduceIte, Nat.reduceEqDiff, Option.map_some, qazz, qbdz, qbhz, qbpz, qbvz, qbwz, qbxz, beq_true, beq_false, decide_true, decide_false,
 Int.toNat_natCast, Int.ofNat_lt, Bool.false_eq_true, Int.reduceToNat, reduceCtorEq, Bool.not_false, ne_eq, not_true_eq_false, not_false_eq_true]
          exact next (by simp only [noC, q1, q7, q9, eq_true q10, decide_true, decide_false, Bool.and_true, Bool.and_false, Bool.not_true, Bool.not_false]) _ h0 h5 rfl
        · simp (maxSteps := 1000000) (disch := omega) only [h0, h5, h6, hlt, idx_s, ← hc, q1, q9, q10, qaaz, qabz, qacz, qadz, qaez, qaiz, qajz, qakz, qalz, qamz, qanz, evOp, qaoz, qapz, qarz, qatz, qavz,
 ↓reduceIte, Nat.reduceEqDiff, Option.map_some, qazz, qbaz, qbez, qbhz, qbiz, qblz, qbpz, qbwz, qbxz, beq_true, beq_false, decide_true, Int.toNat_natCast, Int.ofNat_lt, Bool.false_eq_true, reduceCtorEq, Bool.not_true, ne_eq, not_false_eq_true]
          exact bad (by simp only [noC, q1, q7, q9, q10, decide_true, decide_false, Bool.and_true, Bool.not_true, Bool.not_false]) _ rfl
    · simp (maxSteps := 1000000) (disch := omega) only [h0, h5, h6, hlt, idx_s, ← hc, q1, q7, add_n, loopQ_normal, qaaz, qabz, qacz, qadz, qaez, qajz, qakz, qalz, qamz, qanz, evOp, qaoz, qapz, qarz, qatz, qavz,
 ↓reduceIte, Nat.reduceEqDiff, Option.map_some, qazz, qbdz, qbhz, qbpz, qbvz, qbxz, beq_true, beq_false, decide_true, decide_false,
 Int.toNat_natCast, Int.ofNat_lt, Bool.false_eq_true, Int.reduceToNat, reduceCtorEq, Bool.not_false]
      exact next (by simp only [noC, q1, q7, decide_false, Bool.and_true, Bool.false_and, Bool.not_false]) _ h0 h5 rfl
  · obtain rfl : i = l.length := by omega
    have ha := all_getD (p := noC) hall
    by_cases g2 : l.length ≤ 1000
    · have e2 : (l.length : Int) ≤ 1000 := by omega
      have hv := uValid_spec (st := s'.tok1) (x := .bys (.own s'.toks.length) l) (l := l) rfl hl
      simp (maxSteps := 1000000) (disch := omega) only [h0, h5, h6, hlt, len_s, e2, freshT_eq, hv, qaaz, qabz, qacz, qadz, qaez, qagz, qaiz, qajz, qclz, qcmz, qcnz, qcqz, qcrz, qcwz, forall_const, qalz, evOp, qaoz, qapz, qaqz, qarz, qasz, qatz, qavz,
 ↓reduceIte, Nat.reduceEqDiff, List.map_cons, List.map_nil, Option.map_some, qazz, qbbz, qbfz, qbjz, qblz, qbpz, qbqz, decide_true, decide_false,
 Int.ofNat_lt, Bool.false_eq_true, Bool.true_eq_false, true_and, and_true, reduceCtorEq]
      exact retB rfl hk.tok1 (by simp only [noteB, ha, g2, decide_true, Bool.and_true, Bool.true_and])
    · have e2 : ¬ (l.length : Int) ≤ 1000 := by omega
      simp (maxSteps := 1000000) (disch := omega) only [h0, h5, h6, hlt, len_s, e2, qaaz, qabz, qacz, qadz, qaez, qagz, qaiz, qajz, qclz, qcmz, qcnz, qcqz, qcrz, qcwz, forall_const, qalz, evOp, qaoz, qapz, qaqz, qarz, qasz, qatz, qavz,
 ↓reduceIte, Nat.reduceEqDiff, List.map_cons, List.map_nil, Option.map_some, qazz, qbbz, qbfz, qbjz, qblz, qbpz, qbqz, decide_false,
 Int.ofNat_lt, Bool.false_eq_true, Bool.true_eq_false, true_and, and_true, reduceCtorEq]
      exact retB rfl hk (by simp only [noteB, g2, decide_false, Bool.and_false, Bool.false_and])

theorem optional_spec {t : Int} : call prog (.fn 200 []) [.int .i64 t] st = some (.bool (optB t), st) := by
  refine call_of_W prog_200 ?_
  unfold F_event_optional; dsimp only
  have h := fun S : St => Right_w (st := S) (t := t)
  by_cases q : t = -1
  · simp (maxSteps := 1000000) (disch := omega) only [eq_true q, qaaz, qabz, qaiz, qajz, qakz, qalz, qamz, qanz, evOp, qaoz, qapz, qarz, qatz, qavz,
 ↓reduceIte, Nat.reduceEqDiff, List.append_nil, qawz, Option.map_some, qazz, qblz, qbtz, beq_false, decide_true, Bool.false_eq_true, reduceCtorEq, Bool.not_true]
    exact retB rfl Kept.start (by simp only [optB, q, decide_true, Bool.true_or])
  · simp (maxSteps := 1000000) (disch := omega) only [q, h, qaaz, qabz, qaiz, qajz, qakz, qalz, qamz, qanz, evOp, qaoz, qapz, qaqz, qarz, qatz, qavz,
 ↓reduceIte, Nat.reduceEqDiff, List.append_nil, List.map_cons, List.map_nil, qawz, Option.map_some, qazz, qblz, qbtz, beq_false, decide_false,
 Bool.false_eq_true, reduceCtorEq, Bool.not_false]
    exact retB rfl Kept.start (by simp only [optB, timeB, q, decide_false, Bool.false_or])
theorem isAnswer_spec {l : Bs} : call prog (.fn 214 []) [.str l] st = some (.bool (answerB l), st) := by
  refine call_of_W prog_214 ?_
  unfold F_event_isAnswer; dsimp only
  simp (maxSteps := 1000000) (disch := omega) only [qaaz, qabz, qacz, qadz, qaez, qaiz, qajz, qcrz, qalz, evOp, qaoz, qapz, qarz, qatz, qavz,
 ↓reduceIte, Nat.reduceEqDiff, List.append_nil, qawz, Option.map_some, qazz, qbaz, qbdz, qbez, qblz, qcbz, decide_eq_true_eq, decide_eq_false_iff_not, reduceCtorEq]
  repeat' (first | refine And.intro ?_ ?_ | intro q)
  all_goals first | contradiction | exact retB rfl Kept.start (by simp only [answerB, *, decide_true, decide_false, Bool.or_true, Bool.true_or, Bool.or_false] <;> decide)
end Go.Ab
/-
  How long an address is; its normal form, walked.
-/
namespace Go.Ab
variable {st s : St} {e : Env}
variable {B : List (List PV)} {T : List Bool} {L : List LoopS} {lo : Nat} {a b c : Bs}

set_option maxHeartbeats 1000000 in
theorem Normal_spec {a : Adr} (h : okA a) : call prog (.fn 113 []) [aV a] st = some (.str (normalA a), st) := by
  refine call_of_W prog_113 ?_
  unfold F_addr_Normal; dsimp only
  obtain ⟨n, l, d⟩ := a
  have hn := h.n; have hl := h.l; have hd := h.d
  simp only at hn hl hd
  have hR := fun S : St => Right_spec (st := S) h
  simp only [aV] at hR
  cases hr : rightA (n, l, d) with
  | false =>
    rw [hr] at hR
    simp (maxSteps := 1000000) (disch := omega) only [aV, inB_a, all_a, allocPV, cells_agg, ld_aa, hR, qaaz, qabz, qacz, qaez, qaiz, qajz, qcrz, qcwz, forall_const, and_self, qalz, evOp, qaoz, qapz, qaqz, qarz, qatz, qavz,
 ↓reduceIte, Nat.reduceEqDiff, List.append_nil, List.map_cons, List.map_nil, qawz, Option.map_some, qazz, qbaz, qblz, qcfz, Bool.true_eq_false, and_true, Bool.not_false]
    exact retS rfl Kept.box1 (by simp [normalA, hr])
  | true =>
    rw [hr] at hR
    obtain ⟨s, hs⟩ : ∃ s, s = l ++ [64] ++ d := ⟨_, rfl⟩
    have hsl : s.length = l.length + 1 + d.length := by rw [hs]; simp <;> omega
    have ha1 : ∀ ek, binPV .add ek (.str l) (.str [64]) = some (.str (l ++ [64])) := fun ek => adds (by simp; omega)
    have ha2 : ∀ ek, binPV .add ek (.str (l ++ [64])) (.str d) = some (.str s) := fun ek => by rw [hs]; exact adds (by simp; omega)
    have hbl : (st.boxes ++ [cA n l d]).length = st.boxes.length + 1 := by simp
    have hbb : ({ boxes := st.boxes ++ [cA n l d] ++ [s.map PV.b8], toks := st.toks, loops := st.loops, low := st.boxes.length } : St) = bst2 st (cA n l d) s := rfl
    simp (maxSteps := 1000000) (disch := omega) only [aV, inB_a, all_a, allocPV, cells_agg, ld_aa, hR, faP, Nat.zero_add, ld_a1, ld_a2, ha1, ha2, hbl, hbb, len_ms, qaaz, qabz, qacz, qadz, qaez, qaiz, qajz, qcrz, qcwz, forall_const, and_self, qalz, evOp, qaoz, qapz, qaqz, qarz, qatz, qavz,
 ↓reduceIte, Nat.reduceEqDiff, List.append_nil, List.map_cons, List.map_nil, qawz, Option.map_some, qazz, qbaz, qblz, qcfz, Bool.false_eq_true, true_and, Bool.not_true]
    obtain ⟨I, hI⟩ : ∃ I : Nat → Env → St → Prop, I = fun n' e s' => ∃ (i : Nat) (m : Bs), n' = s.length - i ∧ i ≤ s.length ∧ m = lowOf (s.take i) ++ s.drop i ∧ s' = bst2 st (cA n l d) m ∧ e 3 = .ms (st.boxes.length + 1) 0 s.length ∧ e 16 = .ms (st.boxes.length + 1) 0 s.length ∧ e 17 = .int .i64 (s.length : Int) ∧ e 18 = .int .i64 (i : Int) := ⟨_, rfl⟩
    refine W_loop I ?_ (n := s.length) (by
      rw [hI]
      exact ⟨0, s, rfl, by omega, by simp [lowOf], rfl, rfl, rfl, rfl, rfl⟩)
    intro n' e s' hh
    rw [hI] at hh
    obtain ⟨i, m, rfl, hi, hm, rfl, h3, h16, h17, h18⟩ := hh
    have hml : m.length = s.length := by rw [hm]; simp [lowOf]; omega
    by_cases hlt : i < s.length
    · obtain ⟨c, hc⟩ : ∃ c, c = s.getD i 0 := ⟨_, rfl⟩
      have hlc : m.getD i 0 = c := by
        rw [hm, hc]
        simp only [List.getD]
        rw [List.getElem?_append_right (by simp [lowOf]; omega)]
        simp [lowOf, Nat.min_eq_left hi]
      have hnext : ∀ (E : Env) (m' : Bs), m' = m.set i (lowC c) → E 3 = .ms (st.boxes.length + 1) 0 s.length → E 16 = .ms (st.boxes.length + 1) 0 s.length → E 17 = .int .i64 (s.length : Int) → E 18 = .int .i64 ((i + 1 : Nat) : Int) → ∃ k, k < s.length - i ∧ I k E (bst2 st (cA n l d) m') := by
        intro E m' k0 k1 k2 k3 k4
        refine ⟨s.length - (i + 1), by omega, ?_⟩
        rw [hI]
        refine ⟨i + 1, m', rfl, by omega, ?_, rfl, k1, k2, k3, k4⟩
        rw [k0, hm, take_getD hlt, ← hc, drop_getD hlt]
        have hn : (lowOf (s.take i)).length = i := by simp [lowOf]; omega
        rw [List.set_append_right _ _ (by omega), hn]
        simp [lowOf]
      have hsm : m.set i c = m := by
        rw [← hlc, List.getD, List.getElem?_eq_getElem (by omega)]; simp
      simp (maxSteps := 1000000) (disch := omega) only [h3, h16, h17, h18, hlt, iaddr_ms, load_bst2 (st := st) (l := m) (i := i) (by omega), hlc, add_8, store_bst2 (st := st) (l := m) (i := i) (by omega), add_n, loopQ_normal, qaaz, qabz, qacz, qadz, qaez, qagz, qajz, qclz, qcmz, qcnz, qcqz, qcrz, qcwz, forall_const, qalz, evOp, qaoz, qapz, qarz, qatz, qauz, qavz,
 ↓reduceIte, Nat.reduceEqDiff, Option.map_some, qazz, qbbz, qbdz, qbfz, qbjz, qbpz, qbyz, qcaz, decide_eq_true_eq, decide_eq_false_iff_not, decide_true, Int.toNat_natCast, Int.ofNat_lt, Bool.false_eq_true, Bool.true_eq_false, Int.reduceToNat, true_and, and_true]
      clear hI hm hlc hc
      refine ⟨fun q1 => ⟨fun q2 => ?_, fun q2 => ?_⟩, fun q1 => ?_⟩
      · exact hnext _ (m.set i (c + 32)) (by rw [lowC, if_pos ⟨q1, q2⟩]) h3 h16 h17 rfl
      · exact hnext _ m (by rw [lowC, if_neg (fun h => q2 h.2), hsm]) h3 h16 h17 rfl
      · exact hnext _ m (by rw [lowC, if_neg (fun h => q1 h.1), hsm]) h3 h16 h17 rfl
    · obtain rfl : i = s.length := by omega
      have hml2 : s.length = m.length := hml.symm
      simp (maxSteps := 1000000) (disch := omega) only [h3, h16, h17, h18, hlt, b2s_bst2 (st := st) (l := m) hml2, qaaz, qabz, qacz, qadz, qaez, qagz, qaiz, qajz, qcrz, qcwz, forall_const, qalz, evOp, qaoz, qarz, qatz, qavz,
 ↓reduceIte, Nat.reduceEqDiff, Option.map_some, qazz, qbbz, qbfz, qbjz, qblz, qbpz, decide_false,
 Int.ofNat_lt, Bool.false_eq_true, true_and]
      refine retS rfl Kept.bst2 ?_
      rw [hm, List.take_length, List.drop_length, List.append_nil, hs]
      simp [normalA, hr, atA]

end Go.Ab
/-
  Persons, roles, needs and marks, walked.
-/
namespace Go.Ab
set_option maxRecDepth 20000
variable {st s : St} {e : Env}

theorem plain_at0 {s : Bs} (h : (plainA s).2 = 0) : (plainA s).1.1 = [] ∧ atA (plainA s).1 = s ∧ rightA (plainA s).1 = true := by
  unfold plainA at h ⊢
  by_cases hr : rightA (cutA s) = true
  · rw [if_pos hr] at h ⊢
    refine ⟨by unfold cutA; split <;> rfl, ?_, hr⟩
    rcases chr_split 64 s with ⟨-, h2⟩ | ⟨n, r, rfl, hn⟩
    · exfalso
      have hc : cutA s = ([], s, []) := by unfold cutA; rw [h2]; rfl
      rw [hc] at hr
      simp only [rightA] at hr
      have : partsB 46 labB [] = false := by decide
      rw [this] at hr
      simp at hr
    · have hi := index_chr (k := 64) n r hn
      have hc : cutA (n ++ 64 :: r) = ([], n, r) := by
        unfold cutA
        rw [hi]
        have e1 : (0 : Int) ≤ (n.length : Int) := by omega
        rw [if_pos e1]
        simp
      rw [hc]; rfl
  · rw [if_neg hr] at h; simp at h
theorem plain_ok {s : Bs} (h : s.length ≤ 1000000) : okA (plainA s).1 := by
  rcases plain_good (s := s) with ⟨h1, h2, h3⟩ | h1
  · obtain ⟨a, b, -⟩ := plain_at0 h1
    have hl : (atA (plainA s).1).length = s.length := by rw [b]
    simp only [atA, List.length_append, List.length_cons] at hl
    exact ⟨by rw [a]; simp, by omega, by omega⟩
  · rw [h1]; exact ⟨by simp [noA], by simp [noA], by simp [noA]⟩
theorem normal_low {s : Bs} (h : (plainA s).2 = 0) : normalA (plainA s).1 = lowOf s := by
  obtain ⟨-, a, b⟩ := plain_at0 h
  unfold normalA
  rw [if_pos b, a]

theorem isPerson_spec {l : Bs} (hl : l.length ≤ 1000000) : call prog (.fn 203 []) [.str l] st = some (.bool (personB l), st) := by
  refine call_of_W prog_203 ?_
  unfold F_event_isPerson; dsimp only
  have hP := fun S : St => aPlain_spec (st := S) (s := l) (by omega)
  have hN := fun S : St => Normal_spec (st := S) (plain_ok hl)
  obtain ⟨p, hp⟩ : ∃ p, p = plainA l := ⟨_, rfl⟩
  have hnl : p.2 = 0 → normalA p.1 = lowOf l := fun h => by rw [hp] at h ⊢; exact normal_low h
  have hb : personB l = (decide (p.2 = 0) && decide (lowOf l = l)) := by rw [hp]; rfl
  rw [← hp] at hP hN
  clear hp
  obtain ⟨⟨n, a, d⟩, c⟩ := p
  simp only [aV] at hP hN hnl hb
  by_cases h0 : c = 0
  · rw [hnl h0] at hN
    by_cases h1 : lowOf l = l
    · simp (maxSteps := 1000000) (disch := omega) only [hP, allocPV, st_aa, ld_aa, eq_true h0, hN, eq_true h1, qaaz, qabz, qaiz, qajz, qakz, qalz, qamz, qanz, evOp, qaoz, qapz, qaqz, qarz, qatz, qauz, qavz,
 ↓reduceIte, Nat.reduceEqDiff, List.append_nil, List.map_cons, List.map_nil, qawz, Option.map_some, qazz, qblz, qbtz, qcbz, beq_true, decide_true, qcjz, List.getElem?_cons_zero, List.getElem?_cons_succ, reduceCtorEq]
      exact retB rfl Kept.box1 (by rw [hb]; simp [h0, h1])
    · simp (maxSteps := 1000000) (disch := omega) only [hP, allocPV, st_aa, ld_aa, eq_true h0, hN, h1, qaaz, qabz, qaiz, qajz, qakz, qalz, qamz, qanz, evOp, qaoz, qapz, qaqz, qarz, qatz, qauz, qavz,
 ↓reduceIte, Nat.reduceEqDiff, List.append_nil, List.map_cons, List.map_nil, qawz, Option.map_some, qazz, qblz, qbtz, qcbz, beq_true, decide_true, decide_false,
 qcjz, List.getElem?_cons_zero, List.getElem?_cons_succ, reduceCtorEq]
      exact retB rfl Kept.box1 (by rw [hb]; simp [h0, h1])
  · simp (maxSteps := 1000000) (disch := omega) only [hP, allocPV, st_aa, h0, qaaz, qabz, qaiz, qajz, qakz, qalz, qamz, qanz, evOp, qaoz, qapz, qaqz, qarz, qatz, qauz, qavz,
 ↓reduceIte, Nat.reduceEqDiff, List.append_nil, List.map_cons, List.map_nil, qawz, Option.map_some, qazz, qblz, qbtz, beq_true, decide_false,
 Bool.false_eq_true, qcjz, List.getElem?_cons_zero, List.getElem?_cons_succ, reduceCtorEq]
    exact retB rfl Kept.box1 (by rw [hb]; simp [h0])

theorem roleOf_spec {l : Bs} : call prog (.fn 180 []) [.str l] st = some (.int .i64 (roleOf l), st) := by
  refine call_of_W prog_180 ?_
  unfold F_rules_Role; dsimp only
  simp (maxSteps := 1000000) (disch := omega) only [qaaz, qabz, qacz, qadz, qaez, qagz, qaiz, qajz, qcrz, qalz, evOp, qaoz, qapz, qarz, qatz, qavz,
 ↓reduceIte, Nat.reduceEqDiff, List.append_nil, qawz, Option.map_some, qazz, qbaz, qbbz, qbdz, qbez, qbfz, qblz, qcbz, decide_eq_true_eq, decide_eq_false_iff_not, reduceCtorEq]
  repeat' (first | refine And.intro ?_ ?_ | intro q)
  all_goals first | contradiction | exact retI rfl Kept.start (by simp only [roleOf, roleO, roleA, *, decide_true, decide_false, Bool.or_true, Bool.true_or, Bool.or_false, if_true, if_false, Bool.false_eq_true] <;> decide)
def ndV (n : Nd) : List PV := [.int .i64 n.lo, .int .i64 n.hi, .bool n.re, .bool n.st, .bool n.ti]
theorem st_nd {B : List (List PV)} {T : List Bool} {L : List LoopS} {lo : Nat} {a b : Int} {c d f : Bool} {w0 w1 w2 w3 w4 : PV} : storePV ⟨B ++ [[w0, w1, w2, w3, w4]], T, L, lo⟩ 5 (.ptr B.length 0) (.agg [.int .i64 a, .int .i64 b, .bool c, .bool d, .bool f]) = some ⟨B ++ [[.int .i64 a, .int .i64 b, .bool c, .bool d, .bool f]], T, L, lo⟩ := by
  simp [storePV, PV.cells, PV.inB, PV.inB.inBAll, setCells, hasTok, tokOf, leafOk]
theorem ld_nd {B : List (List PV)} {T : List Bool} {L : List LoopS} {lo : Nat} {a b c d f : PV} : loadPV ⟨B ++ [[a, b, c, d, f]], T, L, lo⟩ true 5 (.ptr B.length 0) = some (.agg [a, b, c, d, f]) := by simp [loadPV, readCells]
theorem ld_nd0 {B : List (List PV)} {T : List Bool} {L : List LoopS} {lo : Nat} {a b c d f : PV} : loadPV ⟨B ++ [[a, b, c, d, f]], T, L, lo⟩ false 1 (.ptr B.length 0) = some a := by simp [loadPV, readCells]
theorem ld_nd1 {B : List (List PV)} {T : List Bool} {L : List LoopS} {lo : Nat} {a b c d f : PV} : loadPV ⟨B ++ [[a, b, c, d, f]], T, L, lo⟩ false 1 (.ptr B.length 1) = some b := by simp [loadPV, readCells]
theorem ld_nd2 {B : List (List PV)} {T : List Bool} {L : List LoopS} {lo : Nat} {a b c d f : PV} : loadPV ⟨B ++ [[a, b, c, d, f]], T, L, lo⟩ false 1 (.ptr B.length 2) = some c := by simp [loadPV, readCells]
theorem ld_nd3 {B : List (List PV)} {T : List Bool} {L : List LoopS} {lo : Nat} {a b c d f : PV} : loadPV ⟨B ++ [[a, b, c, d, f]], T, L, lo⟩ false 1 (.ptr B.length 3) = some d := by simp [loadPV, readCells]
theorem ld_nd4 {B : List (List PV)} {T : List Bool} {L : List LoopS} {lo : Nat} {a b c d f : PV} : loadPV ⟨B ++ [[a, b, c, d, f]], T, L, lo⟩ false 1 (.ptr B.length 4) = some f := by simp [loadPV, readCells]
theorem retNd {B : List (List PV)} {T : List Bool} {L : List LoopS} {lo t : Nat} {n m : Nd} (hk : Kept st ⟨B ++ [ndV n], T, L, lo⟩) (ht : e t = .ptr B.length 0) (h : n = m) : ∃ rv, resOf e ⟨B ++ [ndV n], T, L, lo⟩ [.cell t true 5] = some rv ∧ leave st ⟨B ++ [ndV n], T, L, lo⟩ rv = (.agg (ndV m), st) := by
  subst h
  refine ⟨.agg (ndV n), ?_, hk.leave rfl (fun _ _ => rfl)⟩
  simp only [resOf, rvAll, rv1, ht, ndV, ld_nd]
  rfl
theorem needs_spec {l : Bs} : call prog (.fn 193 []) [.str l] st = some (.agg (ndV (needOf l)), st) := by
  refine call_of_W prog_193 ?_
  unfold F_rules_needs; dsimp only
  have b1 : buildCells [.int .i64 0, .int .i64 0, .bool false, .bool false, .bool false] [(3, 1, .bool true)] = some [.int .i64 0, .int .i64 0, .bool false, .bool true, .bool false] := rfl
  have b2 : buildCells [.int .i64 0, .int .i64 0, .bool false, .bool false, .bool false] [(0, 1, .int .i64 1), (1, 1, .int .i64 32), (3, 1, .bool true)] = some [.int .i64 1, .int .i64 32, .bool false, .bool true, .bool false] := rfl
  have b3 : buildCells [.int .i64 0, .int .i64 0, .bool false, .bool false, .bool false] [(0, 1, .int .i64 1), (1, 1, .int .i64 32), (2, 1, .bool true), (3, 1, .bool true)] = some [.int .i64 1, .int .i64 32, .bool true, .bool true, .bool false] := rfl
  have b4 : buildCells [.int .i64 0, .int .i64 0, .bool false, .bool false, .bool false] [(1, 1, .int .i64 32)] = some [.int .i64 0, .int .i64 32, .bool false, .bool false, .bool false] := rfl
  have b5 : buildCells [.int .i64 0, .int .i64 0, .bool false, .bool false, .bool false] [(0, 1, .int .i64 1), (1, 1, .int .i64 1), (4, 1, .bool true)] = some [.int .i64 1, .int .i64 1, .bool false, .bool false, .bool true] := rfl
  have b6 : buildCells [.int .i64 0, .int .i64 0, .bool false, .bool false, .bool false] [(0, 1, .int .i64 1), (1, 1, .int .i64 1), (3, 1, .bool true)] = some [.int .i64 1, .int .i64 1, .bool false, .bool true, .bool false] := rfl
  have b7 : buildCells [.int .i64 0, .int .i64 0, .bool false, .bool false, .bool false] [(0, 1, .int .i64 1), (1, 1, .int .i64 1)] = some [.int .i64 1, .int .i64 1, .bool false, .bool false, .bool false] := rfl
  by_cases q1 : l = sPUB
  · simp (disch := rfl) only [allocPV, eq_true q1, b1, st_nd, qaaz, qabz, qacz, qadz, qaiz, qajz, qalz, evOp, qaoz, qapz, qarz, qatz, qauz, qavz,
 ↓reduceIte, Nat.reduceEqDiff, List.append_nil, List.map_cons, List.map_nil, qawz, Option.map_some, qazz, qbaz, qbez, qbhz, qblz, qcbz, decide_true, reduceCtorEq]
    exact retNd (n := ⟨0, 0, false, true, false⟩) (m := needOf l) Kept.box1 rfl (by rw [q1]; rfl)
  by_cases q2 : l = sREQ
  · simp (disch := rfl) only [allocPV, q1, eq_true q2, b2, st_nd, qaaz, qabz, qacz, qadz, qaiz, qajz, qalz, evOp, qaoz, qapz, qarz, qatz, qauz, qavz,
 ↓reduceIte, Nat.reduceEqDiff, List.append_nil, List.map_cons, List.map_nil, qawz, Option.map_some, qazz, qbaz, qbez, qbhz, qblz, qcbz, decide_true, decide_false,
 Bool.false_eq_true, reduceCtorEq]
    exact retNd (n := ⟨1, 32, false, true, false⟩) (m := needOf l) Kept.box1 rfl (by rw [q2]; rfl)
  by_cases q3 : l = sADD
  · simp (disch := rfl) only [allocPV, q1, q2, eq_true q3, b3, st_nd, qaaz, qabz, qacz, qadz, qaiz, qajz, qalz, evOp, qaoz, qapz, qarz, qatz, qauz, qavz,
 ↓reduceIte, Nat.reduceEqDiff, List.append_nil, List.map_cons, List.map_nil, qawz, Option.map_some, qazz, qbaz, qbez, qbhz, qblz, qcbz, decide_true, decide_false,
 Bool.false_eq_true, reduceCtorEq]
    exact retNd (n := ⟨1, 32, true, true, false⟩) (m := needOf l) Kept.box1 rfl (by rw [q3]; rfl)
  by_cases q4 : l = sCAN
  · simp (disch := rfl) only [allocPV, q1, q2, q3, eq_true q4, b4, st_nd, qaaz, qabz, qacz, qadz, qaiz, qajz, qalz, evOp, qaoz, qapz, qarz, qatz, qauz, qavz,
 ↓reduceIte, Nat.reduceEqDiff, List.append_nil, List.map_cons, List.map_nil, qawz, Option.map_some, qazz, qbaz, qbez, qbhz, qblz, qcbz, decide_true, decide_false,
 Bool.false_eq_true, reduceCtorEq]
    exact retNd (n := ⟨0, 32, false, false, false⟩) (m := needOf l) Kept.box1 rfl (by rw [q4]; rfl)
  by_cases q5 : l = sREF
  · simp (disch := rfl) only [allocPV, q1, q2, q3, q4, eq_true q5, b5, st_nd, qaaz, qabz, qacz, qadz, qaiz, qajz, qalz, evOp, qaoz, qapz, qarz, qatz, qauz, qavz,
 ↓reduceIte, Nat.reduceEqDiff, List.append_nil, List.map_cons, List.map_nil, qawz, Option.map_some, qazz, qbaz, qbez, qbhz, qblz, qcbz, decide_true, decide_false,
 Bool.false_eq_true, reduceCtorEq]
    exact retNd (n := ⟨1, 1, false, false, true⟩) (m := needOf l) Kept.box1 rfl (by rw [q5]; rfl)
  by_cases q6 : l = sCOU
  · simp (disch := rfl) only [allocPV, q1, q2, q3, q4, q5, eq_true q6, b6, st_nd, qaaz, qabz, qacz, qadz, qaiz, qajz, qalz, evOp, qaoz, qapz, qarz, qatz, qauz, qavz,
 ↓reduceIte, Nat.reduceEqDiff, List.append_nil, List.map_cons, List.map_nil, qawz, Option.map_some, qazz, qbaz, qbez, qbhz, qblz, qcbz, decide_true, decide_false,
 Bool.false_eq_true, reduceCtorEq]
    exact retNd (n := ⟨1, 1, false, true, false⟩) (m := needOf l) Kept.box1 rfl (by rw [q6]; rfl)
  simp (disch := rfl) only [allocPV, q1, q2, q3, q4, q5, q6, b7, st_nd, qaaz, qabz, qacz, qadz, qaez, qaiz, qajz, qalz, evOp, qaoz, qapz, qarz, qatz, qauz, qavz,
 ↓reduceIte, Nat.reduceEqDiff, List.append_nil, List.map_cons, List.map_nil, qawz, Option.map_some, qazz, qbdz, qbhz, qblz, qcbz, decide_false,
 Bool.false_eq_true, reduceCtorEq]
  exact retNd (n := ⟨1, 1, false, false, false⟩) (m := needOf l) Kept.box1 rfl (by simp [needOf, q1, q2, q3, q4, q5, q6])

abbrev mkV (a b : Int) : PV := .agg [.int .i64 a, .int .i64 b]
theorem eql_mk {a b c d : Int} : binPV .eql (.struct [.i, .i]) (mkV a b) (mkV c d) = some (.bool (decide (a = c) && decide (b = d))) := by
  have g1 : (a == c) = decide (a = c) := rfl
  have g2 : (b == d) = decide (b = d) := rfl
  by_cases h1 : a = c <;> by_cases h2 : b = d <;> simp [binPV, eqPV, eqCells, eqLeaf, g1, g2, h1, h2]
theorem strip_mk {a b : Int} : strip (.agg [.int .i64 a, .int .i64 b]) = some (.agg [.int .i64 a, .int .i64 b]) := rfl
theorem lc_mk {a b : PV} : loadcPV true 2 (.cp [a, b]) = some (.agg [a, b]) := rfl
theorem lc_mk0 {a b : PV} : loadcPV false 1 (.cp [a, b]) = some a := rfl
theorem lc_mk1 {b : PV} : loadcPV false 1 (.cp [b]) = some b := rfl
theorem fa_mk0 {a b : PV} : faddrPV 0 (.cp [a, b]) = some (.cp [a, b]) := rfl
theorem fa_mk1 {a b : PV} : faddrPV 1 (.cp [a, b]) = some (.cp [b]) := rfl
theorem Newer_spec {a b c d : Int} : call prog (.fn 182 []) [mkV a b, mkV c d] st = some (.bool (newerB a b c d), st) := by
  refine call_of_W prog_182 ?_
  unfold F_rules_Newer; dsimp only
  have h := eql_mk (a := a) (b := b) (c := c) (d := d)
  simp only [mkV] at h ⊢
  by_cases q0 : a = c ∧ b = d
  · have hq : (decide (a = c) && decide (b = d)) = true := by simp [q0]
    rw [hq] at h
    simp (maxSteps := 1000000) (disch := omega) only [strip_mk, cells_agg, lc_mk, h, qaaz, qabz, qacz, qaiz, qajz, qalz, evOp, qaoz, qapz, qarz, qatz, qavz,
 ↓reduceIte, Nat.reduceEqDiff, List.append_nil, qawz, qaxz, Option.map_some, qazz, qbaz, qbhz, qblz]
    exact retB rfl Kept.start (by obtain ⟨rfl, rfl⟩ := q0; simp [newerB])
  · have hq : (decide (a = c) && decide (b = d)) = false := by simpa using q0
    rw [hq] at h
    by_cases q1 : c < a
    · simp (maxSteps := 1000000) (disch := omega) only [strip_mk, cells_agg, lc_mk, h, fa_mk0, lc_mk0, q1, qaaz, qabz, qacz, qaez, qaiz, qajz, qakz, qalz, qamz, qanz, evOp, qaoz, qapz, qarz, qatz, qavz,
 ↓reduceIte, Nat.reduceEqDiff, List.append_nil, qawz, qaxz, Option.map_some, qazz, qbhz, qblz, qbrz, beq_false, decide_true, Bool.false_eq_true, Bool.not_true]
      exact retB rfl Kept.start (by simp [newerB, q1])
    · by_cases q2 : a = c
      · simp (maxSteps := 1000000) (disch := omega) only [strip_mk, cells_agg, lc_mk, h, fa_mk0, fa_mk1, lc_mk0, lc_mk1, q1, eq_true q2, qaaz, qabz, qacz, qaez, qaiz, qajz, qakz, qalz, qamz, qanz, evOp, qaoz, qapz, qarz, qatz, qavz,
 ↓reduceIte, Nat.reduceEqDiff, List.append_nil, qawz, qaxz, Option.map_some, qazz, qbhz, qblz, qbrz, qbtz, beq_true, beq_false, decide_true, decide_false,
 Bool.false_eq_true, Bool.not_false]
        exact retB rfl Kept.start (by simp [newerB, q2])
      · simp (maxSteps := 1000000) (disch := omega) only [strip_mk, cells_agg, lc_mk, h, fa_mk0, lc_mk0, q1, q2, qaaz, qabz, qacz, qaez, qaiz, qajz, qakz, qalz, qamz, qanz, evOp, qaoz, qapz, qarz, qatz, qavz,
 ↓reduceIte, Nat.reduceEqDiff, List.append_nil, qawz, qaxz, Option.map_some, qazz, qbhz, qblz, qbrz, qbtz, beq_true, beq_false, decide_false,
 Bool.false_eq_true, Bool.not_false]
        exact retB rfl Kept.start (by simp [newerB, q1, q2])
end Go.Ab
/-
  Where a text can be cut, by the document.
-/
namespace Go.Ab
variable {st s : St} {e : Env}

theorem drop_get {l : List UInt8} {i j : Nat} : (l.drop i).getD j 0 = l.getD (i + j) 0 := by simp [List.getD]

end Go.Ab
/-
  Names and texts of a calendar's lines.
-/
namespace Go.Ab
variable {st s : St} {e : Env}

end Go.Ab
/-
  Lines that may be.
-/
namespace Go.Ab
variable {st s : St} {e : Env}

structure Ln where
  n : List UInt8
  pv : PV
  ps : List Fld
  v : List UInt8
def lV (L : Ln) : PV := .agg [.str L.n, L.pv, .str L.v]
structure Ln.ok (L : Ln) : Prop where
  vs : L.pv.vs 2 = some (L.ps.map fV)
  ib : ∀ n, L.pv.inB n = true
  lf : leafOk L.pv = true
  tk : tokOf L.pv = none
  l1 : L.n.length ≤ 300
  l2 : L.v.length ≤ 5000
  l3 : L.ps.length ≤ 30
  l4 : ∀ p ∈ L.ps, p.1.length + p.2.length ≤ 500

structure Ln.okR (L : Ln) : Prop where
  vs : L.pv.vs 2 = some (L.ps.map fV)
  ib : ∀ n, L.pv.inB n = true
  lf : leafOk L.pv = true
  l1 : L.n.length ≤ 1000000
  l2 : L.v.length ≤ 1000000
  l3 : L.ps.length ≤ 1000000
  l4 : ∀ p ∈ L.ps, p.1.length + p.2.length ≤ 1000000
theorem Ln.ok.r {L : Ln} (h : L.ok) : L.okR := ⟨h.vs, h.ib, h.lf, by have := h.l1; omega, by have := h.l2; omega, by have := h.l3; omega, fun p hp => by have := h.l4 p hp; omega⟩

def At (s : St) (b : Nat) (cs : List PV) : Prop := s.boxes[b]? = some cs
theorem At.alloc {b : Nat} {cs z : List PV} {T : List Bool} {Lp : List LoopS} {lo : Nat} (h : At s b cs) : At ⟨s.boxes ++ [z], T, Lp, lo⟩ b cs := by
  unfold At at *
  have := (List.getElem?_eq_some_iff.1 h).1
  show (s.boxes ++ [z])[b]? = _
  rw [List.getElem?_append_left this]; exact h
theorem At.last {z : List PV} {T : List Bool} {Lp : List LoopS} {lo : Nat} : At ⟨s.boxes ++ [z], T, Lp, lo⟩ s.boxes.length z := by
  unfold At; simp
theorem At.load {b k : Nat} {cs : List PV} {v : PV} {r : List PV} (h : At s b cs) (hk : cs.drop k = v :: r) : loadPV s false 1 (.ptr b k) = some v := by
  unfold At at h
  simp [loadPV, h, hk, readCells]
end Go.Ab
/-
  Lines that may be, by the document.
-/
namespace Go.Ab
variable {st s : St} {e : Env}

end Go.Ab
/-
  A line as a text.
-/
namespace Go.Ab
variable {st s : St} {e : Env}

end Go.Ab
/-
  A line as a text, by the document.
-/
namespace Go.Ab
variable {st s : St} {e : Env}

end Go.Ab
/-
  Lines are written, folded.
-/
namespace Go.Ab
variable {st s : St} {e : Env}

theorem Mine.alloc' {v : PV} {l : List UInt8} {B : List (List PV)} {Lp : List LoopS} {lo : Nat} (h : Mine st s v l) : Mine st ⟨B, s.toks, Lp, lo⟩ v l := ⟨h.1.move fun _ _ => rfl, h.2⟩
end Go.Ab
/-
  Lines are written, folded: the program's function.
-/
namespace Go.Ab
variable {st s : St} {e : Env}

end Go.Ab
/-
  Lines are written, folded: the document's function.
-/
namespace Go.Ab
variable {st s : St} {e : Env}

end Go.Ab
/-
  How big lines are; the law SheetWrites.
-/
namespace Go.Ab
variable {st s : St} {e : Env}

structure Ln.raw (L : Ln) : Prop where
  vs : L.pv.vs 2 = some (L.ps.map fV)
  ib : ∀ n, L.pv.inB n = true
  lf : leafOk L.pv = true
  tk : tokOf L.pv = none
  l1 : L.n.length ≤ 4000000000000000000
  l2 : L.v.length ≤ 4000000000000000000
  l3 : L.ps.length ≤ 9223372036854775807
  l4 : ∀ p ∈ L.ps, p.1.length ≤ 4000000000000000000 ∧ p.2.length ≤ 4000000000000000000
end Go.Ab
/-
  The law SheetWrites.
-/
namespace Go.Ab
variable {st s : St} {e : Env}

end Go.Ab
/-
  An argument of lines, opened.
-/
namespace Go.Ab

def strs2 (P : Program) (t : TypeId) : Bool := match fieldsT P t with
  | some fs => fs.toList.map (fun f => isStrT P f.type) == [true, true]
  | none => false
theorem HasTy.two {P : Program} {t : TypeId} {q : PV} (h : HasTy P t q) (hs0 : strs2 P t = true) : ∃ f : Fld, q = fV f ∧ f.1.length ≤ reachBytes ∧ f.2.length ≤ reachBytes := by
  unfold strs2 fieldsT at hs0
  obtain ⟨fs, ht⟩ : ∃ fs, P.underlying t = some (.struct fs) := by
    cases ht : P.underlying t with
    | none => simp [ht] at hs0
    | some d => cases d <;> first | exact ⟨_, rfl⟩ | (simp [ht] at hs0; done)
  simp only [ht, beq_iff_eq] at hs0
  obtain ⟨fl⟩ := fs
  have hlen : fl.length = 2 := by simpa using congrArg List.length hs0
  match fl, hlen, hs0 with
  | [f0, f1], _, hs0 =>
    simp only [List.map_cons, List.map_nil, List.cons.injEq, and_true] at hs0
    have hs := And.intro (isStrT_eq hs0.1) (isStrT_eq hs0.2)
    cases h with
    | agg xs ht' hl hx =>
      rw [ht] at ht'; cases ht'
      match xs, hl with
      | [x0, x1], _ =>
        obtain ⟨a, rfl, ha⟩ := HasTy.strR (hx 0 f0 x0 rfl rfl) hs.1
        obtain ⟨b, rfl, hb⟩ := HasTy.strR (hx 1 f1 x1 rfl rfl) hs.2
        exact ⟨(a, b), rfl, ha, hb⟩
    | bool _ ht' => rw [ht] at ht'; cases ht'
    | int _ ht' => rw [ht] at ht'; cases ht'
    | u8 _ ht' => rw [ht] at ht'; cases ht'
    | str _ ht' => rw [ht] at ht'; cases ht'
    | nils ht' => rw [ht] at ht'; cases ht'
    | bys _ ht' => rw [ht] at ht'; cases ht'
    | sl _ ht' => rw [ht] at ht'; cases ht'
theorem HasTy.twos {P : Program} {t e : TypeId} {q : PV} (h : HasTy P t q) (ht : P.underlying t = some (.slice e)) (hc : P.cellsOf e = 2) (hs : strs2 P e = true) :
    ∃ l : List Fld, q.vs 2 = some (l.map fV) ∧ (∀ f ∈ l, f.1.length ≤ reachBytes ∧ f.2.length ≤ reachBytes) ∧ l.length ≤ maxLen ∧ (∀ n, q.inB n = true) ∧ leafOk q = true ∧ tokOf q = none ∧ q.cells = [q] := by
  cases h with
  | nils ht' => exact ⟨[], rfl, fun f h => (by cases h), by simp, fun n => rfl, rfl, rfl, rfl⟩
  | bys _ ht' he' => rw [ht] at ht'; cases ht'; simp [strs2, fieldsT, he'] at hs
  | sl xs ht' he' hl hx =>
    rw [ht] at ht'; cases ht'
    have : ∀ xs : List PV, (∀ x ∈ xs, HasTy P e x) → ∃ l : List Fld, xs = l.map fV ∧ ∀ f ∈ l, f.1.length ≤ reachBytes ∧ f.2.length ≤ reachBytes := by
      intro xs
      induction xs with
      | nil => intro _; exact ⟨[], rfl, fun f h => (by cases h)⟩
      | cons x r ih =>
        intro hx
        obtain ⟨f, rfl, hf⟩ := HasTy.two (hx x (by simp)) hs
        obtain ⟨l, rfl, hl⟩ := ih (fun y hy => hx y (by simp [hy]))
        refine ⟨f :: l, rfl, fun g hg => ?_⟩
        rcases List.mem_cons.1 hg with rfl | hg
        · exact hf
        · exact hl g hg
    obtain ⟨l, rfl, hl2⟩ := this xs hx
    exact ⟨l, by simp [PV.vs, hc], hl2, by simpa using hl, fun n => rfl, rfl, rfl, rfl⟩
  | bool _ ht' => rw [ht] at ht'; cases ht'
  | int _ ht' => rw [ht] at ht'; cases ht'
  | u8 _ ht' => rw [ht] at ht'; cases ht'
  | str _ ht' => rw [ht] at ht'; cases ht'
  | agg _ ht' => rw [ht] at ht'; cases ht'

def lineT (P : Program) (t ep : TypeId) : Bool := match fieldsT P t with
  | some fs => match fs.toList with
    | [f0, f1, f2] => isStrT P f0.type && (sliceElem P f1.type == some ep) && isStrT P f2.type && strs2 P ep && (P.cellsOf ep == 2)
    | _ => false
  | none => false
theorem HasTy.line {P : Program} {t ep : TypeId} {q : PV} (h : HasTy P t q) (hs0 : lineT P t ep = true) : ∃ L : Ln, q = lV L ∧ L.raw := by
  unfold lineT fieldsT at hs0
  obtain ⟨fs, ht⟩ : ∃ fs, P.underlying t = some (.struct fs) := by
    cases ht : P.underlying t with
    | none => simp [ht] at hs0
    | some d => cases d <;> first | exact ⟨_, rfl⟩ | (simp [ht] at hs0; done)
  simp only [ht] at hs0
  obtain ⟨fl⟩ := fs
  match fl, hs0 with
  | [f0, f1, f2], hs0 =>
    simp only [Bool.and_eq_true, beq_iff_eq] at hs0
    obtain ⟨⟨⟨⟨s0, s1⟩, s2⟩, s3⟩, s4⟩ := hs0
    have hu1 : P.underlying f1.type = some (.slice ep) := by
      unfold sliceElem at s1
      split at s1
      · rename_i e he; rw [he]; cases s1; rfl
      · cases s1
    cases h with
    | agg xs ht' hl hx =>
      rw [ht] at ht'; cases ht'
      match xs, hl with
      | [x0, x1, x2], _ =>
        obtain ⟨a, rfl, ha⟩ := HasTy.strR (hx 0 f0 x0 rfl rfl) (isStrT_eq s0)
        obtain ⟨l, l1, l2, l3, l4, l5, l6, l7⟩ := HasTy.twos (hx 1 f1 x1 rfl rfl) hu1 s4 s3
        obtain ⟨b, rfl, hb⟩ := HasTy.strR (hx 2 f2 x2 rfl rfl) (isStrT_eq s2)
        have hR : reachBytes ≤ 4000000000000000000 := by decide
        refine ⟨⟨a, x1, l, b⟩, ?_, ⟨l1, l4, l5, l6, Nat.le_trans ha hR, Nat.le_trans hb hR, Nat.le_trans l3 (by decide), fun p hp => ⟨Nat.le_trans (l2 p hp).1 hR, Nat.le_trans (l2 p hp).2 hR⟩⟩⟩
        simp only [lV, flat, List.flatMap_cons, List.flatMap_nil, l7]
        rfl
    | bool _ ht' => rw [ht] at ht'; cases ht'
    | int _ ht' => rw [ht] at ht'; cases ht'
    | u8 _ ht' => rw [ht] at ht'; cases ht'
    | str _ ht' => rw [ht] at ht'; cases ht'
    | nils ht' => rw [ht] at ht'; cases ht'
    | bys _ ht' => rw [ht] at ht'; cases ht'
    | sl _ ht' => rw [ht] at ht'; cases ht'
theorem HasTy.lines {P : Program} {t e ep : TypeId} {q : PV} (h : HasTy P t q) (ht : P.underlying t = some (.slice e)) (hc : P.cellsOf e = 3) (hs : lineT P e ep = true) :
    ∃ l : List Ln, q.vs 3 = some (l.map lV) ∧ (∀ L ∈ l, L.raw) ∧ l.length ≤ 9223372036854775807 := by
  cases h with
  | nils ht' => exact ⟨[], rfl, fun f h => (by cases h), by simp⟩
  | bys _ ht' he' => rw [ht] at ht'; cases ht'; simp [lineT, fieldsT, he'] at hs
  | sl xs ht' he' hl hx =>
    rw [ht] at ht'; cases ht'
    have : ∀ xs : List PV, (∀ x ∈ xs, HasTy P e x) → ∃ l : List Ln, xs = l.map lV ∧ ∀ L ∈ l, L.raw := by
      intro xs
      induction xs with
      | nil => intro _; exact ⟨[], rfl, fun f h => (by cases h)⟩
      | cons x r ih =>
        intro hx
        obtain ⟨f, rfl, hf⟩ := HasTy.line (hx x (by simp)) hs
        obtain ⟨l, rfl, hl⟩ := ih (fun y hy => hx y (by simp [hy]))
        refine ⟨f :: l, rfl, fun g hg => ?_⟩
        rcases List.mem_cons.1 hg with rfl | hg
        · exact hf
        · exact hl g hg
    obtain ⟨l, rfl, hl2⟩ := this xs hx
    exact ⟨l, by simp [PV.vs, hc], hl2, Nat.le_trans (by simpa using hl) (by decide)⟩
  | bool _ ht' => rw [ht] at ht'; cases ht'
  | int _ ht' => rw [ht] at ht'; cases ht'
  | u8 _ ht' => rw [ht] at ht'; cases ht'
  | str _ ht' => rw [ht] at ht'; cases ht'
  | agg _ ht' => rw [ht] at ht'; cases ht'
end Go.Ab
/-
  Lines' folds are undone: bytes are replaced.
-/
namespace Go.Ab
set_option maxRecDepth 20000
variable {st s : St} {e : Env}

end Go.Ab
/-
  Lines' folds are undone, walked.
-/
namespace Go.Ab
set_option maxRecDepth 20000
variable {st s : St} {e : Env}

end Go.Ab
/-
  A line is read: the parts of it.
-/
namespace Go.Ab
set_option maxRecDepth 20000
variable {st s : St} {e : Env}

end Go.Ab
/-
  Texts of points: put together, cut.
-/
namespace Go.Ab

theorem accP_congr {l m : List UInt8} {p : Nat} : ∀ k, (∀ j, j ≤ k → l.getD j 0 = m.getD j 0) → accP l p k = accP m p k := by
  intro k
  induction k with
  | zero => intro _; rfl
  | succ k ih =>
    intro h
    simp only [accP]
    rw [ih (fun j hj => h j (by omega)), h (k + 1) (by omega)]
theorem next_congr {l m : List UInt8} {p n : Nat} (h : nextOf l = some (p, n)) (hl : n ≤ m.length) (he : ∀ j, j < n → m.getD j 0 = l.getD j 0) : nextOf m = some (p, n) := by
  obtain ⟨h1, h2, -⟩ := next_pos h
  have h0 := he 0 (by omega)
  have hne : m ≠ [] := by rintro rfl; simp at hl; omega
  by_cases hc : (l.getD 0 0).toNat < 128
  · have h' := h
    unfold nextOf at h'
    split at h'
    · cases h'
    · cases h'
      unfold nextOf
      rw [if_neg hne, h0, if_pos hc]
  · obtain ⟨k1, k2, k3⟩ := next_succ hc h
    have hc2 : ¬ (m.getD 0 0).toNat < 128 := by rw [h0]; exact hc
    have hq : qN m n = qN l n := by
      unfold qN
      rw [h0]
      exact accP_congr _ (fun j hj => he j (by omega))
    have ht : m.take n = l.take n := by
      apply List.ext_getElem
      · simp; omega
      · intro i h1 h2
        simp only [List.length_take] at h1 h2
        have := he i (by omega)
        simp only [List.getElem_take]
        simpa [List.getD, show i < m.length by omega, show i < l.length by omega] using this
    have hs : succN m n := ⟨by rw [hq]; exact k3.1, by rw [hq, ht]; exact k3.2⟩
    have e1 := succ_next k1 hl hc2 hs
    have e2 := succ_next k1 k2 hc k3
    rw [h] at e2
    cases e2
    rw [e1, hq]

inductive Vd : List UInt8 → Prop
  | nil : Vd []
  | cons {l : List UInt8} {p n : Nat} (h : nextOf l = some (p, n)) (hr : Vd (l.drop n)) : Vd l

theorem Vd.app {a b : List UInt8} (ha : Vd a) (hb : Vd b) : Vd (a ++ b) := by
  induction ha with
  | nil => exact hb
  | @cons l p n h hr ih =>
    obtain ⟨n1, n2, -⟩ := next_pos h
    refine .cons (p := p) (n := n) (next_congr h (by simp; omega) fun j hj => ?_) ?_
    · simp only [List.getD]; rw [List.getElem?_append_left (by omega)]
    · rw [List.drop_append_of_le_length n2]; exact ih
theorem Vd.cut {l : List UInt8} (h : Vd l) : ∀ c, c ≤ l.length → (c = l.length ∨ ¬ isCont (l.getD c 0)) → Vd (l.take c) ∧ Vd (l.drop c) := by
  induction h with
  | nil => intro c hc _; simp at hc; subst hc; exact ⟨.nil, .nil⟩
  | @cons l p n h hr ih =>
    intro c hc hcc
    obtain ⟨n1, n2, -⟩ := next_pos h
    obtain ⟨-, c2⟩ := next_cont h
    by_cases h0 : c = 0
    · subst h0; exact ⟨.nil, .cons h hr⟩
    · have hnc : n ≤ c := by
        rcases hcc with hcc | hcc
        · omega
        · by_cases hlt : c < n
          · exact absurd (c2 c (by omega) hlt) hcc
          · omega
      have h3 := ih (c - n) (by simp; omega) (by
        rcases hcc with hcc | hcc
        · exact .inl (by simp; omega)
        · right; rw [drop_get, show n + (c - n) = c by omega]; exact hcc)
      have e1 : (l.drop n).drop (c - n) = l.drop c := by rw [List.drop_drop]; congr 1; omega
      have e2 : (l.take c).drop n = (l.drop n).take (c - n) := by rw [List.drop_take]
      refine ⟨.cons (p := p) (n := n) (next_congr h (by simp; omega) fun j hj => ?_) (by rw [e2]; exact h3.1), by rw [← e1]; exact h3.2⟩
      simp [List.getD, show j < c by omega]
theorem Vd.ascii : ∀ {l : List UInt8}, (∀ c ∈ l, c.toNat < 128) → Vd l := by
  intro l
  induction l with
  | nil => intro _; exact .nil
  | cons c r ih =>
    intro h
    refine .cons (p := c.toNat) (n := 1) ?_ (ih (fun d hd => h d (by simp [hd])))
    have := h c (by simp)
    unfold nextOf
    simp [this]
end Go.Ab
/-
  The pieces of a calendar's line: the plain law.
-/
namespace Go.Ab

def Fine (l : List UInt8) : Prop := Vd l ∧ ∀ c ∈ l, c ≠ 13
theorem Fine.app {a b : List UInt8} (ha : Fine a) (hb : Fine b) : Fine (a ++ b) := ⟨ha.1.app hb.1, fun c hc => by
  rcases List.mem_append.1 hc with h | h
  · exact ha.2 c h
  · exact hb.2 c h⟩
theorem Fine.one {c : UInt8} (h : c.toNat < 128) (h2 : c ≠ 13) : Fine [c] := ⟨Vd.ascii fun d hd => by simp at hd; subst hd; exact h, fun d hd => by simp at hd; subst hd; exact h2⟩
theorem Fine.nil : Fine [] := ⟨.nil, fun c h => by cases h⟩

end Go.Ab
/-
  A line's text is read: the plain law.
-/
namespace Go.Ab

abbrev LnD := Bs × List Fld × Bs
end Go.Ab
/-
  A line's text is read, walked.
-/
namespace Go.Ab
set_option maxRecDepth 20000
variable {st s : St} {e : Env}

structure Wrote (S S' : St) (b : Nat) (cs : List PV) : Prop where
  at_ : At S' b cs
  ot : ∀ c ds, c ≠ b → At S c ds → At S' c ds
  kp : ∀ st, Kept st S → st.boxes.length ≤ b → Kept st S'
  tk : S'.toks = S.toks
  bl : S'.boxes.length = S.boxes.length
  lp : S'.loops = S.loops
  lw : S'.low ≤ S.low
theorem At.lt {b : Nat} {cs : List PV} (h : At s b cs) : b < s.boxes.length := (List.getElem?_eq_some_iff.1 h).1
theorem At.bx {s' : St} {b : Nat} {cs : List PV} (h : At s b cs) (hb : s'.boxes = s.boxes) : At s' b cs := by unfold At at *; rw [hb]; exact h
theorem wrote_set {S : St} {b lo : Nat} {cs ds : List PV} (h : At S b cs) (hlo : lo = S.low ∨ lo = min S.low b) : Wrote S ⟨S.boxes.set b ds, S.toks, S.loops, lo⟩ b ds := by
  have hlt := h.lt
  refine ⟨by simp [At, hlt], fun c es hc hA => by simp only [At] at *; rw [List.getElem?_set_ne (Ne.symm hc)]; exact hA, fun st hk hb => ?_, rfl, by simp, rfl, by rcases hlo with rfl | rfl <;> simp only <;> omega⟩
  refine hk.of (by simp [List.take_set, List.set_eq_of_length_le (show (List.take st.boxes.length S.boxes).length ≤ b by simp; omega)]) rfl ?_ (fun i _ => rfl) hk.tl
  have := hk.lw
  simp only
  rcases hlo with rfl | rfl <;> omega
theorem At.st1 {S : St} {b off : Nat} {cs : List PV} {v : PV} (h : At S b cs) (hv : Leaf v) (hb : v.inB (b + 1) = true) (ho : off < cs.length) : ∃ S', storePV S 1 (.ptr b off) v = some S' ∧ Wrote S S' b (cs.set off v) := by
  refine ⟨_, ?_, wrote_set (ds := cs.set off v) (lo := if hasTok v.cells then min S.low b else S.low) h (by split <;> simp)⟩
  unfold At at h
  simp only [storePV, h, hv.1, setCells]
  rw [if_pos ⟨rfl, by omega, hb, by simp [hv.2]⟩]
theorem At.st2 {S : St} {b : Nat} {c0 c1 v0 v1 : PV} (h : At S b [c0, c1]) (l0 : leafOk v0 = true) (l1 : leafOk v1 = true) (i0 : v0.inB (b + 1) = true) (i1 : v1.inB (b + 1) = true) : ∃ S', storePV S 2 (.ptr b 0) (.agg [v0, v1]) = some S' ∧ Wrote S S' b [v0, v1] := by
  refine ⟨_, ?_, wrote_set (ds := [v0, v1]) (lo := if hasTok [v0, v1] then min S.low b else S.low) h (by split <;> simp)⟩
  unfold At at h
  simp [storePV, h, PV.cells, setCells, PV.inB, PV.inB.inBAll, l0, l1, i0, i1]; rfl
end Go.Ab
/-
  A pair in bytes.
-/
namespace Go.Ab
variable {st : St} {e : Env}

end Go.Ab
/-
  The document's lines.
-/
namespace Go.Ab
variable {st : St} {e : Env}

def place : Nat → List (List UInt8 × Bool) → List (Nat × List UInt8 × Bool)
  | _, [] => []
  | a, (b, w) :: r => (a, b, w) :: place (a + b.length + 2) r

def full (q : Nat × List UInt8 × Bool) : List UInt8 := q.2.1 ++ (if q.2.2 then [13, 10] else [])

end Go.Ab
/-
  The lines of written lines: the plain law.
-/
namespace Go.Ab

end Go.Ab
/-
  Lines' folds are undone, lines are read: the plain law.
-/
namespace Go.Ab

def ofLn (L : Ln) : LnD := (L.n, L.ps, L.v)
end Go.Ab
/-
  Lines are read, walked.
-/
namespace Go.Ab
set_option maxRecDepth 20000
variable {st s : St} {e : Env}

theorem At.take {X : St} {b n : Nat} {cs : List PV} (h : At s b cs) (hb : b < n) (hX : X.boxes = s.boxes.take n) : At X b cs := by
  unfold At at *; rw [hX, List.getElem?_take, if_pos hb]; exact h
def stL (st : St) (rs : List LoopS) : St := ⟨st.boxes, st.toks, st.loops ++ rs, st.low⟩
theorem Kept.newS {S : St} {b : Bool} (h : Kept st S) : Kept st (newS S b) := by cases b; exact h.tok1; exact h
theorem Own.newS {S : St} {b : Bool} {esz : Nat} {v : PV} {xs : List PV} (h : Own st S esz v xs) : Own st (newS S b) esz v xs := by cases b; exact h.tok1; exact h
end Go.Ab
/-
  Lines are read, walked.
-/
namespace Go.Ab
set_option maxRecDepth 20000
variable {st s : St} {e : Env}

theorem Kept.swap {S : St} {r r' : LoopS} (h : Kept (stL st [r]) S) : Kept (stL st [r']) { S with loops := S.loops.set st.loops.length r' } := by
  refine ⟨h.bx, ?_, h.lw, h.tk⟩
  have := h.lp
  simp only [stL] at this ⊢
  rw [this, set_app0]
end Go.Ab
/-
  A line's text is read by the document, walked.
-/
namespace Go.Ab
set_option maxRecDepth 20000
variable {st s : St} {e : Env}

end Go.Ab
/-
  Lines are read by the document, walked; equal lines.
-/
namespace Go.Ab
set_option maxRecDepth 20000
variable {st s : St} {e : Env}

end Go.Ab
/-
  The sheet's values: escaped, unescaped; the program's and the document's answers.
-/
namespace Go.Ab
variable {st : St} {e : Env}

end Go.Ab
/-
  Equal lines; what must come of fixed calls.
-/
namespace Go.Ab
set_option maxRecDepth 20000
variable {st s : St} {e : Env}

end Go.Ab
/-
  What the laws of lines' reading ask: plain.
-/
namespace Go.Ab
set_option maxRecDepth 20000
variable {st s : St} {e : Env}

end Go.Ab
/-
  Trees: plain.
-/
namespace Go.Ab

inductive TD where
  | mk (n : Bs) (ls : List LnD) (cs : List TD)
def T0 : TD := .mk [] [] []
def TD.n : TD → Bs
  | .mk n _ _ => n
def TD.ls : TD → List LnD
  | .mk _ ls _ => ls
def TD.cs : TD → List TD
  | .mk _ _ cs => cs
mutual
def TD.deep : TD → Nat
  | .mk _ _ cs => 1 + deepL cs
def deepL : List TD → Nat
  | [] => 0
  | c :: r => max c.deep (deepL r)
end
def begS : Bs := [66, 69, 71, 73, 78]
def endS : Bs := [69, 78, 68]
theorem take_snoc {α : Type} {d : α} {l : List α} {i : Nat} (h : i < l.length) : l.take (i + 1) = l.take i ++ [l.getD i d] := by
  rw [List.take_succ_eq_append_getElem h]; simp [List.getD, h]
theorem getD_mem {α : Type} {d : α} {l : List α} {i : Nat} (h : i < l.length) : l.getD i d ∈ l := by simp [List.getD, h]

def Ln.good (L : Ln) : Prop := L.pv.vs 2 = some (L.ps.map fV) ∧ tokOf L.pv = none
def okD (d : LnD) : Prop := d.1.length ≤ 300 ∧ d.2.2.length ≤ 5000 ∧ d.2.1.length ≤ 30 ∧ ∀ p ∈ d.2.1, p.1.length + p.2.length ≤ 500
theorem vs_leaf {v : PV} {e : Nat} {xs : List PV} (h : v.vs e = some xs) : leafOk v = true ∧ ∀ n, v.inB n = true := by
  rcases vs_cases h with ⟨rfl, _⟩ | ⟨t, rfl⟩ <;> exact ⟨rfl, fun _ => rfl⟩
theorem Ln.good.ok {L : Ln} (h : L.good) (hb : okD (ofLn L)) : L.ok := ⟨h.1, (vs_leaf h.1).2, (vs_leaf h.1).1, h.2, hb.1, hb.2.1, hb.2.2.1, hb.2.2.2⟩
inductive IsT : TD → PV → Prop
  | mk {n : Bs} {ls : List LnD} {cs : List TD} {lv cv : PV} {Ls : List Ln} {ys : List PV} (h1 : lv.vs 3 = some (Ls.map lV)) (h2 : Ls.map ofLn = ls) (h3 : ∀ L ∈ Ls, L.good) (h5 : cv.vs 3 = some ys) (h6 : ys.length = cs.length) (h7 : ∀ i, i < cs.length → IsT (cs.getD i T0) (ys.getD i .undef)) : IsT (.mk n ls cs) (.agg [.str n, lv, cv])
inductive TD.sm : TD → Prop
  | mk {n : Bs} {ls : List LnD} {cs : List TD} (h1 : n.length ≤ 5000) (h2 : ls.length ≤ 100000) (h3 : ∀ d ∈ ls, okD d) (h4 : cs.length ≤ 100000) (h5 : ∀ c ∈ cs, c.sm) : TD.sm (.mk n ls cs)
theorem IsT.inv {n : Bs} {ls : List LnD} {cs : List TD} {v : PV} (h : IsT (.mk n ls cs) v) : ∃ (lv cv : PV) (Ls : List Ln) (ys : List PV), v = .agg [.str n, lv, cv] ∧ lv.vs 3 = some (Ls.map lV) ∧ Ls.map ofLn = ls ∧ (∀ L ∈ Ls, L.good) ∧ cv.vs 3 = some ys ∧ ys.length = cs.length ∧ ∀ i, i < cs.length → IsT (cs.getD i T0) (ys.getD i .undef) := by
  cases h with
  | mk h1 h2 h3 h5 h6 h7 => exact ⟨_, _, _, _, rfl, h1, h2, h3, h5, h6, h7⟩
theorem IsT.agg {T : TD} {v : PV} (h : IsT T v) : ∃ lv cv, v = .agg [.str T.n, lv, cv] ∧ (leafOk lv = true ∧ ∀ n, lv.inB n = true) ∧ (leafOk cv = true ∧ ∀ n, cv.inB n = true) := by
  obtain ⟨n, ls, cs⟩ := T
  obtain ⟨lv, cv, Ls, ys, rfl, h1, h2, h3, h5, -, -⟩ := h.inv
  exact ⟨lv, cv, rfl, vs_leaf h1, vs_leaf h5⟩
mutual
def TD.lines : TD → List LnD
  | .mk n ls cs => (begS, [], n) :: (ls ++ linesL cs) ++ [(endS, [], n)]
def linesL : List TD → List LnD
  | [] => []
  | c :: r => c.lines ++ linesL r
end
end Go.Ab
/-
  Trees: small functions, equal trees, how many there are.
-/
namespace Go.Ab
set_option maxRecDepth 20000
variable {st s : St} {e : Env}

theorem strip_vs {v : PV} {e : Nat} {xs : List PV} (h : v.vs e = some xs) : ∃ u, stripLeaf v = some u ∧ u.vs e = some xs ∧ tokOf u = none := by
  rcases vs_cases h with ⟨rfl, rfl⟩ | ⟨t, rfl⟩
  · exact ⟨.nils, rfl, h, rfl⟩
  · exact ⟨.sl e .no xs, rfl, by simp [PV.vs], rfl⟩
end Go.Ab
/-
  A message's people, walked: a map of the addresses that were seen.
-/
namespace Go.Ab
set_option maxRecDepth 20000
variable {st s : St} {e : Env}

abbrev pV (a : Bs × Bs) : PV := .agg [.str a.1, .str a.2]
theorem iaddr_p {x : PV} {ps : List (Bs × Bs)} {k : IntKind} {c : Int} (h : x.vs 2 = some (ps.map pV)) (h1 : 0 ≤ c) (h2 : c.toNat < ps.length) : iaddrPV 2 x (.int k c) = some (.cp [.str (ps.getD c.toNat ([], [])).1, .str (ps.getD c.toNat ([], [])).2]) := by
  rw [iaddr_vs h h1 (by simpa using h2)]
  simp [List.getD, h2, PV.cells]
theorem ldp2 {a b : PV} : loadPV st true 2 (.cp [a, b]) = some (.agg [a, b]) := rfl
theorem ldp0 {a : PV} {r : List PV} : loadPV st false 1 (.cp (a :: r)) = some a := rfl
theorem st_p2 {B : List (List PV)} {T : List Bool} {L : List LoopS} {lo : Nat} {a b : Bs} {c d : PV} : storePV ⟨B ++ [[c, d]], T, L, lo⟩ 2 (.ptr B.length 0) (.agg [.str a, .str b]) = some ⟨B ++ [[.str a, .str b]], T, L, lo⟩ := by
  simp [storePV, PV.cells, PV.inB, PV.inB.inBAll, setCells, hasTok, tokOf, leafOk]
theorem ld_p0 {B : List (List PV)} {T : List Bool} {L : List LoopS} {lo : Nat} {a b : PV} : loadPV ⟨B ++ [[a, b]], T, L, lo⟩ false 1 (.ptr B.length 0) = some a := by simp [loadPV, readCells]
theorem ld_p1 {B : List (List PV)} {T : List Bool} {L : List LoopS} {lo : Nat} {a b : PV} : loadPV ⟨B ++ [[a, b]], T, L, lo⟩ false 1 (.ptr B.length 1) = some b := by simp [loadPV, readCells]

def kv (l : List Bs) : List PV := l.flatMap fun a => [.str a, .bool true]
theorem kvGet_kv (k : Bs) : ∀ l : List Bs, kvGet k (kv l) = some (l.contains k)
  | [] => rfl
  | a :: r => by
    show (if a = k then some true else kvGet k (kv r)) = _
    by_cases h : a = k
    · subst h; simp
    · rw [if_neg h, kvGet_kv k r, List.contains_cons]
      have : (k == a) = false := by simpa using fun q => h q.symm
      rw [this, Bool.false_or]
theorem kvPut_kv {k : Bs} : ∀ {l : List Bs}, l.contains k = false → kvPut k true (kv l) = kv (l ++ [k])
  | [], _ => rfl
  | a :: r, h => by
    rw [List.contains_cons, Bool.or_eq_false_iff] at h
    have h1 : ¬ a = k := fun q => by rw [q] at h; simp at h
    show (if a = k then .str a :: .bool true :: kv r else .str a :: .bool true :: kvPut k true (kv r)) = _
    rw [if_neg h1, kvPut_kv h.2]; rfl
theorem mget_at {S : St} {b : Nat} {l : List Bs} {k : Bs} (h : At S b (kv l)) : mgetPV S (.mref b) (.str k) = some (.bool (l.contains k)) := by
  unfold At at h
  simp only [mgetPV, h, kvGet_kv, Option.map_some]
theorem mput_at {S : St} {b : Nat} {l : List Bs} {k : Bs} (h : At S b (kv l)) (hk : l.contains k = false) : mputPV S (.mref b) (.str k) (.bool true) = some (.undef, ⟨S.boxes.set b (kv (l ++ [k])), S.toks, S.loops, S.low⟩) := by
  unfold At at h
  simp only [mputPV, h, kvPut_kv hk]

theorem drop_cons {α : Type} {d : α} {l : List α} {i : Nat} (h : i < l.length) : l.drop i = l.getD i d :: l.drop (i + 1) := by
  rw [List.drop_eq_getElem_cons h]; simp [List.getD, h]
theorem fresh_bad {seen : List Bs} {a : Bs × Bs} {r : List (Bs × Bs)} (h : (pairB a && !seen.contains a.1) = false) : freshB seen (a :: r) = false := by
  simp only [freshB, h, Bool.false_and]

set_option maxHeartbeats 2000000 in
theorem people_spec {x : PV} {ps : List (Bs × Bs)} (hx : x.vs 2 = some (ps.map pV)) (hn : ps.length ≤ 1000000) (hl : ∀ p ∈ ps, p.1.length ≤ 1000000) : call prog (.fn 204 []) [x] st = some (.bool (peopleB ps), st) := by
  refine call_of_W prog_204 ?_
  unfold F_event_people; dsimp only
  generalize hQ1 : endQ st _ _ = Q0
  have hlen := len_vs hx
  rw [List.length_map] at hlen
  have no : ∀ (E : Env) (S : St), Kept st S → peopleB ps = false → E 2 = .bool false → Q0 .ret E S := fun E S k h h4 => by
    rw [← hQ1, qblz]; exact retB h4 k h.symm
  simp (maxSteps := 1000000) (disch := omega) only [hlen, qaaz, qabz, qadz, qajz, qalz, evOp, qaoz, qapz, qarz, qatz, qavz,
 ↓reduceIte, List.append_nil, qawz, Option.map_some, qazz, reduceCtorEq]
  obtain ⟨b0, hb0⟩ : ∃ b0, b0 = st.boxes.length := ⟨_, rfl⟩
  obtain ⟨I, hI⟩ : ∃ I : Nat → Env → St → Prop, I = fun k E S => ∃ i : Nat, k = ps.length - i ∧ i ≤ ps.length ∧ Kept st S ∧ At S b0 (kv ((ps.take i).map Prod.fst)) ∧ freshB [] ps = freshB ((ps.take i).map Prod.fst) (ps.drop i) ∧ E 0 = x ∧ E 3 = .mref b0 ∧ E 7 = x ∧ E 8 = .int .i64 (ps.length : Int) ∧ E 9 = .int .i64 (i : Int) := ⟨_, rfl⟩
  refine W_loop I ?_ (n := ps.length) (by
    rw [hI]
    refine ⟨0, rfl, by omega, Kept.box1, ?_, rfl, rfl, by rw [hb0]; rfl, rfl, rfl, rfl⟩
    rw [hb0]; simp [At, kv])
  intro k E S hh
  rw [hI] at hh
  obtain ⟨i, rfl, hi, hk, hA, hf, h0, h3, h7, h8, h9⟩ := hh
  by_cases hlt : i < ps.length
  · obtain ⟨a, ha⟩ : ∃ a, a = ps.getD i ([], []) := ⟨_, rfl⟩
    obtain ⟨seen, hseen⟩ : ∃ seen, seen = (ps.take i).map Prod.fst := ⟨_, rfl⟩
    have hia := iaddr_p (k := .i64) (c := (i : Int)) hx (by omega) (by rw [Int.toNat_natCast]; exact hlt)
    rw [Int.toNat_natCast, ← ha] at hia
    have ham : a ∈ ps := by rw [ha]; exact getD_mem hlt
    have hP := fun S : St => isPerson_spec (st := S) (hl a ham)
    have hN := fun S : St => isAnswer_spec (st := S) (l := a.2)
    rw [drop_cons (d := ([], [])) hlt, ← ha, ← hseen] at hf
    rw [← hseen] at hA
    have hA1 : At ⟨S.boxes ++ [[.str a.1, .str a.2]], S.toks, S.loops, S.low⟩ b0 (kv seen) := hA.alloc
    have hk1 : Kept st ⟨S.boxes ++ [[.str a.1, .str a.2]], S.toks, S.loops, S.low⟩ := hk.alloc
    have hg := mget_at (k := a.1) hA1
    have bad : (pairB a && !seen.contains a.1) = false → peopleB ps = false := fun h => by
      unfold peopleB; rw [hf, fresh_bad h]; rfl
    cases c1 : personB a.1 with
    | false =>
      rw [c1] at hP
      simp (maxSteps := 1000000) (disch := omega) only [h7, h8, h9, hlt, hia, ldp2, allocPV, st_p2, faP, Nat.zero_add, ld_p0, hP, qaaz, qabz, qacz, qadz, qaez, qaiz, qajz, qakz, qalz, qamz, qanz, evOp, qaoz, qapz, qaqz, qarz, qatz, qauz, qavz,
 ↓reduceIte, Nat.reduceEqDiff, List.map_cons, List.map_nil, Option.map_some, qazz, qbaz, qbez, qbhz, qbiz, qbpz, qcfz, beq_false, decide_true, Int.ofNat_lt, Bool.false_eq_true, Bool.not_true, Bool.not_false]
      exact no _ _ hk1 (bad (by simp [pairB, c1])) rfl
    | true =>
      rw [c1] at hP
      cases c2 : answerB a.2 with
      | false =>
        rw [c2] at hN
        simp (maxSteps := 1000000) (disch := omega) only [h7, h8, h9, hlt, hia, ldp2, allocPV, st_p2, faP, Nat.zero_add, ld_p0, ld_p1, hP, hN, qaaz, qabz, qacz, qadz, qaez, qaiz, qajz, qakz, qalz, qamz, qanz, evOp, qaoz, qapz, qaqz, qarz, qatz, qauz, qavz,
 ↓reduceIte, Nat.reduceEqDiff, List.map_cons, List.map_nil, Option.map_some, qazz, qbaz, qbez, qbhz, qbiz, qbpz, qcfz, beq_false, decide_true, Int.ofNat_lt, Bool.false_eq_true, Bool.not_true, Bool.not_false]
        exact no _ _ hk1 (bad (by simp [pairB, c2])) rfl
      | true =>
        rw [c2] at hN
        cases c3 : seen.contains a.1 with
        | true =>
          rw [c3] at hg
          simp (maxSteps := 1000000) (disch := omega) only [h3, h7, h8, h9, hlt, hia, ldp2, allocPV, st_p2, faP, Nat.zero_add, ld_p0, ld_p1, hP, hN, hg, qaaz, qabz, qacz, qadz, qaez, qaiz, qajz, qakz, qalz, qamz, qanz, evOp, qaoz, qapz, qaqz, qarz, qatz, qauz, qavz,
 ↓reduceIte, Nat.reduceEqDiff, List.map_cons, List.map_nil, Option.map_some, qazz, qbaz, qbez, qbhz, qbiz, qbpz, qcfz, beq_false, decide_true, Int.ofNat_lt, Bool.false_eq_true, Bool.not_true, Bool.not_false]
          exact no _ _ hk1 (bad (by simp only [pairB, c1, c2, c3]; rfl)) rfl
        | false =>
          rw [c3] at hg
          have hp := mput_at hA1 c3
          have hw := wrote_set (S := ⟨S.boxes ++ [[.str a.1, .str a.2]], S.toks, S.loops, S.low⟩) (lo := S.low) (ds := kv (seen ++ [a.1])) hA1 (.inl rfl)
          simp (maxSteps := 1000000) (disch := omega) only [h3, h7, h8, h9, hlt, hia, ldp2, allocPV, st_p2, faP, Nat.zero_add, ld_p0, ld_p1, hP, hN, hg, hp, add_n, loopQ_normal, qaaz, qabz, qacz, qadz, qaez, qajz, qakz, qalz, qamz, qanz, evOp, qaoz, qapz, qaqz, qarz, qatz, qauz, qavz,
 ↓reduceIte, Nat.reduceEqDiff, List.map_cons, List.map_nil, Option.map_some, qazz, qbdz, qbhz, qbpz, qcfz, beq_false, decide_true, Int.ofNat_lt, Bool.false_eq_true, Int.reduceToNat, Bool.not_true, Bool.not_false]
          refine ⟨ps.length - (i + 1), by omega, ?_⟩
          rw [hI]
          have hs2 : (ps.take (i + 1)).map Prod.fst = seen ++ [a.1] := by
            rw [take_snoc (d := ([], [])) hlt, List.map_append, ← hseen, ← ha]; rfl
          refine ⟨i + 1, rfl, by omega, hw.kp st hk1 (by omega), by rw [hs2]; exact hw.at_, ?_, h0, h3, h7, h8, rfl⟩
          rw [hs2, hf]
          simp only [freshB, pairB, c1, c2, c3]; rfl
  · obtain rfl : i = ps.length := by omega
    have hfr : freshB [] ps = true := by rw [hf, List.drop_length]; rfl
    have e32 : ((ps.length : Int) ≤ 32) = (ps.length ≤ 32) := by apply propext; omega
    simp (maxSteps := 1000000) (disch := omega) only [h0, h8, h9, hlt, hlen, e32, qaaz, qabz, qacz, qagz, qaiz, qajz, qalz, evOp, qaoz, qapz, qarz, qatz, qavz,
 ↓reduceIte, Option.map_some, qazz, qbbz, qbfz, qbhz, qbjz, qbpz, qbqz, decide_false,
 Int.ofNat_lt, Bool.false_eq_true, reduceCtorEq]
    rw [← hQ1, qblz]
    exact retB rfl hk (by simp [peopleB, hfr])
end Go.Ab
/-
  Trees that may be.
-/
namespace Go.Ab
set_option maxRecDepth 20000
variable {st s : St} {e : Env}

theorem all_take {α : Type} {p : α → Bool} {d : α} {l : List α} (h : ∀ i, i < l.length → p (l.getD i d) = true) : l.all p = true := by
  rw [List.all_eq_true]
  intro x hx
  obtain ⟨i, hi, rfl⟩ := List.mem_iff_getElem.1 hx
  have := h i hi
  simpa [List.getD, hi] using this
theorem all_not {α : Type} {p : α → Bool} {d : α} {l : List α} {i : Nat} (hi : i < l.length) (h : p (l.getD i d) = false) : l.all p = false := by
  rw [Bool.eq_false_iff]
  intro q
  rw [List.all_eq_true] at q
  have := q _ (getD_mem (d := d) hi)
  rw [h] at this; cases this
end Go.Ab
/-
  Messages as values; which may be: event.Right walked; what is too much for a statement.
-/
namespace Go.Ab
set_option maxRecDepth 20000
variable {st s : St} {e : Env}

def mC (m : MD) (av : PV) : List PV := [.str m.me, .str m.uid, .int .i64 m.seq, .int .i64 m.stamp, .int .i64 m.recur, .str m.org, av, .int .i64 m.sta, .int .i64 m.fin, .str m.sum, .str m.com]
def mV (m : MD) (av : PV) : PV := .agg (mC m av)
variable {m : MD} {av u : PV}
theorem strip_m {m : MD} {av : PV} {xs : List PV} (h : av.vs 2 = some xs) : ∃ u, strip (mV m av) = some (mV m u) ∧ u.vs 2 = some xs ∧ tokOf u = none := by
  obtain ⟨u, a1, a2, a3⟩ := strip_vs h
  refine ⟨u, ?_, a2, a3⟩
  show (stripAll (mC m av)).map PV.agg = _
  simp only [mC, stripAll, a1]; rfl
theorem cells_m : (mV m av).cells = mC m av := rfl
theorem fam {k : Nat} : faddrPV k (.cp (mC m u)) = some (.cp ((mC m u).drop k)) := rfl
theorem lm0 : loadcPV false 1 (.cp ((mC m u).drop 0)) = some (.str m.me) := rfl
theorem lm1 : loadcPV false 1 (.cp ((mC m u).drop 1)) = some (.str m.uid) := rfl
theorem lm2 : loadcPV false 1 (.cp ((mC m u).drop 2)) = some (.int .i64 m.seq) := rfl
theorem lm3 : loadcPV false 1 (.cp ((mC m u).drop 3)) = some (.int .i64 m.stamp) := rfl
theorem lm4 : loadcPV false 1 (.cp ((mC m u).drop 4)) = some (.int .i64 m.recur) := rfl
theorem lm5 : loadcPV false 1 (.cp ((mC m u).drop 5)) = some (.str m.org) := rfl
theorem lm6 : loadcPV false 1 (.cp ((mC m u).drop 6)) = some (u) := rfl
theorem lm7 : loadcPV false 1 (.cp ((mC m u).drop 7)) = some (.int .i64 m.sta) := rfl
theorem lm8 : loadcPV false 1 (.cp ((mC m u).drop 8)) = some (.int .i64 m.fin) := rfl
theorem lm9 : loadcPV false 1 (.cp ((mC m u).drop 9)) = some (.str m.sum) := rfl
theorem lm10 : loadcPV false 1 (.cp ((mC m u).drop 10)) = some (.str m.com) := rfl
theorem lmA : loadcPV true 11 (.cp (mC m u)) = some (mV m u) := rfl
structure okMD (m : MD) : Prop where
  me : m.me.length ≤ 9223372036854775807
  uid : m.uid.length ≤ 1000000
  org : m.org.length ≤ 1000000
  sum : m.sum.length ≤ 1000000
  com : m.com.length ≤ 1000000
  n : m.att.length ≤ 1000000
  a : ∀ p ∈ m.att, p.1.length ≤ 1000000

set_option maxHeartbeats 4000000 in
theorem mRight_spec (hv : av.vs 2 = some (m.att.map pV)) (ok : okMD m) : call prog (.fn 194 []) [mV m av] st = some (.bool (rightM m), st) := by
  refine call_of_W prog_194 ?_
  unfold F_event_Right; dsimp only
  generalize hQ1 : endQ st _ _ = Q0
  have fin : ∀ (b : Bool) (E : Env) (S : St), Kept st S → rightM m = b → E 2 = .bool b → Q0 .ret E S := fun b E S k h h4 => by
    rw [← hQ1, qblz]; exact retB h4 k h.symm
  obtain ⟨u, hu, hu2, -⟩ := strip_m (m := m) hv
  have hT : ∀ S : St, call prog (.fn 199 []) [.int .i64 m.stamp] S = some (.bool (timeB m.stamp), S) := fun S => Right_w
  have hO := fun (t : Int) (S : St) => optional_spec (st := S) (t := t)
  refine W_cut (fun E S => Kept st S ∧ E 1 = .cp (mC m u)) ?_ ?_
  · simp (maxSteps := 1000000) (disch := omega) only [hu, cells_m, qabz, qajz, qalz, evOp, qaoz, qapz, qarz, qatz, qavz,
 ↓reduceIte, Nat.reduceEqDiff, List.append_nil, qawz, Option.map_some, true_and, and_true]
    exact Kept.start
  rintro e S ⟨hk, h1⟩
  refine W_cut (fun E S => Kept st S ∧ E 1 = .cp (mC m u) ∧ E 3 = .bool (timesB m)) ?_ ?_
  · have h2 := hO m.recur; have h3 := hO m.sta; have h4 := hO m.fin
    cases c1 : timeB m.stamp with
    | false =>
      rw [c1] at hT
      have ht : timesB m = false := by simp only [timesB, c1, Bool.false_and]
      simp (maxSteps := 1000000) (disch := omega) only [h1, fam, lm3, hT, ht, qabz, qajz, qakz, qalz, qamz, qanz, evOp, qaoz, qapz, qaqz, qarz, qatz, qavz,
 ↓reduceIte, Nat.reduceEqDiff, List.map_cons, List.map_nil, Option.map_some, beq_true, Bool.false_eq_true, true_and, and_true]
      exact hk
    | true =>
      rw [c1] at hT
      cases c2 : optB m.recur with
      | false =>
        rw [c2] at h2
        have ht : timesB m = false := by simp only [timesB, c2, Bool.and_false, Bool.false_and]
        simp (maxSteps := 1000000) (disch := omega) only [h1, fam, lm3, lm4, hT, h2, ht, qabz, qajz, qakz, qalz, qamz, qanz, evOp, qaoz, qapz, qaqz, qarz, qatz, qavz,
 ↓reduceIte, Nat.reduceEqDiff, List.map_cons, List.map_nil, Option.map_some, beq_true, Bool.false_eq_true, true_and, and_true]
        exact hk
      | true =>
        rw [c2] at h2
        cases c3 : optB m.sta with
        | false =>
          rw [c3] at h3
          have ht : timesB m = false := by simp only [timesB, c3, Bool.and_false, Bool.false_and]
          simp (maxSteps := 1000000) (disch := omega) only [h1, fam, lm3, lm4, lm7, hT, h2, h3, ht, qabz, qajz, qakz, qalz, qamz, qanz, evOp, qaoz, qapz, qaqz, qarz, qatz, qavz,
 ↓reduceIte, Nat.reduceEqDiff, List.map_cons, List.map_nil, Option.map_some, beq_true, Bool.false_eq_true, true_and, and_true]
          exact hk
        | true =>
          rw [c3] at h3
          cases c4 : optB m.fin with
          | false =>
            rw [c4] at h4
            have ht : timesB m = false := by simp only [timesB, c4, Bool.and_false]
            simp (maxSteps := 1000000) (disch := omega) only [h1, fam, lm3, lm4, lm7, lm8, hT, h2, h3, h4, ht, qabz, qajz, qakz, qalz, qamz, qanz, evOp, qaoz, qaqz, qarz, qatz, qavz,
 ↓reduceIte, Nat.reduceEqDiff, List.map_cons, List.map_nil, Option.map_some, beq_true, true_and, and_true]
            exact hk
          | true =>
            rw [c4] at h4
            have ht : timesB m = true := by simp only [timesB, c1, c2, c3, c4, Bool.and_true]
            simp (maxSteps := 1000000) (disch := omega) only [h1, fam, lm3, lm4, lm7, lm8, hT, h2, h3, h4, ht, qabz, qajz, qakz, qalz, qamz, qanz, evOp, qaoz, qaqz, qarz, qatz, qavz,
 ↓reduceIte, Nat.reduceEqDiff, List.map_cons, List.map_nil, Option.map_some, beq_true, true_and, and_true]
            exact hk
  clear hk h1 hT hO
  rintro e S ⟨hk, h1, h3⟩
  refine W_cut (fun E S => Kept st S ∧ E 1 = .cp (mC m u) ∧ E 3 = .bool (timesB m) ∧ E 4 = .bool (spanB m)) ?_ ?_
  · by_cases q1 : m.fin = -1
    · have ht : spanB m = true := by simp only [spanB, q1, decide_true, Bool.true_or]
      simp (maxSteps := 1000000) (disch := omega) only [h1, h3, fam, lm8, eq_true q1, ht, qabz, qajz, qakz, qalz, qamz, qanz, evOp, qaoz, qapz, qarz, qatz, qavz,
 ↓reduceIte, Nat.reduceEqDiff, Option.map_some, qbtz, beq_false, decide_true, Bool.false_eq_true, true_and, and_true, Bool.not_true]
      exact hk
    by_cases q2 : m.sta = -1
    · have ht : spanB m = false := by simp only [spanB, q1, eq_true q2, decide_true, decide_false, Bool.false_and, Bool.or_false, Bool.not_true]
      simp (maxSteps := 1000000) (disch := omega) only [h1, h3, fam, lm7, lm8, q1, eq_true q2, ht, qabz, qajz, qakz, qalz, qamz, qanz, evOp, qaoz, qapz, qarz, qatz, qavz,
 ↓reduceIte, Nat.reduceEqDiff, Option.map_some, qbtz, qbuz, beq_true, beq_false, decide_false,
 Bool.false_eq_true, true_and, and_true, Bool.not_false, ne_eq, not_true_eq_false]
      exact hk
    by_cases q3 : m.sta < m.fin
    · have ht : spanB m = true := by simp only [spanB, q1, q2, q3, decide_true, decide_false, Bool.and_true, Bool.or_true, Bool.not_false]
      simp (maxSteps := 1000000) (disch := omega) only [h1, h3, fam, lm7, lm8, q1, q2, q3, ht, qabz, qajz, qakz, qalz, qamz, qanz, evOp, qaoz, qapz, qarz, qatz, qavz,
 ↓reduceIte, Nat.reduceEqDiff, Option.map_some, qbrz, qbtz, qbuz, beq_true, beq_false, decide_true, decide_false,
 Bool.false_eq_true, true_and, and_true, Bool.not_false, ne_eq, not_false_eq_true]
      exact hk
    · have ht : spanB m = false := by simp only [spanB, q1, q2, q3, decide_false, Bool.and_false, Bool.or_false, Bool.not_false]
      simp (maxSteps := 1000000) (disch := omega) only [h1, h3, fam, lm7, lm8, q1, q2, q3, ht, qabz, qajz, qakz, qalz, qamz, qanz, evOp, qaoz, qapz, qarz, qatz, qavz,
 ↓reduceIte, Nat.reduceEqDiff, Option.map_some, qbrz, qbtz, qbuz, beq_true, beq_false, decide_true, decide_false,
 Bool.false_eq_true, true_and, and_true, Bool.not_false, ne_eq, not_false_eq_true]
      exact hk
  clear hk h1 h3
  rintro e S ⟨hk, h1, h3, h4⟩
  have hM := fun S : St => isMethod_spec (st := S) (l := m.me) (by have := ok.me; omega)
  have hU := fun S : St => isUID_spec (st := S) (l := m.uid) (by have := ok.uid; omega)
  have hP := fun S : St => isPerson_spec (st := S) ok.org
  have hA := fun S : St => people_spec (st := S) hu2 ok.n ok.a
  have hS := fun S : St => isNote_spec (st := S) (l := m.sum) (by have := ok.sum; omega)
  have hC := fun S : St => isNote_spec (st := S) (l := m.com) (by have := ok.com; omega)
  cases c1 : methB m.me with
  | false =>
    rw [c1] at hM
    simp (maxSteps := 1000000) (disch := omega) only [h1, fam, lm0, hM, qaaz, qabz, qaiz, qajz, qakz, qalz, qamz, qanz, evOp, qaoz, qapz, qaqz, qarz, qatz, qavz,
 ↓reduceIte, Nat.reduceEqDiff, List.map_cons, List.map_nil, Option.map_some, qazz, beq_true, Bool.false_eq_true]
    exact fin false _ _ hk (by simp only [rightM, c1, Bool.false_and]) rfl
  | true =>
  rw [c1] at hM
  cases c2 : uidB m.uid with
  | false =>
    rw [c2] at hU
    simp (maxSteps := 1000000) (disch := omega) only [h1, fam, lm0, lm1, hM, hU, qaaz, qabz, qaiz, qajz, qakz, qalz, qamz, qanz, evOp, qaoz, qapz, qaqz, qarz, qatz, qavz,
 ↓reduceIte, Nat.reduceEqDiff, List.map_cons, List.map_nil, Option.map_some, qazz, beq_true, Bool.false_eq_true]
    exact fin false _ _ hk (by simp only [rightM, c2, Bool.and_false, Bool.false_and]) rfl
  | true =>
  rw [c2] at hU
  by_cases d1 : 0 ≤ m.seq
  case neg =>
    simp (maxSteps := 1000000) (disch := omega) only [h1, fam, lm0, lm1, lm2, hM, hU, d1, qaaz, qabz, qaiz, qajz, qakz, qalz, qamz, qanz, evOp, qaoz, qapz, qaqz, qarz, qatz, qavz,
 ↓reduceIte, Nat.reduceEqDiff, List.map_cons, List.map_nil, Option.map_some, qazz, qbsz, beq_true, decide_false,
 Bool.false_eq_true]
    exact fin false _ _ hk (by simp only [rightM, seqB, d1, decide_false, Bool.and_false, Bool.false_and]) rfl
  by_cases d2 : m.seq ≤ 2147483647
  case neg =>
    simp (maxSteps := 1000000) (disch := omega) only [h1, fam, lm0, lm1, lm2, hM, hU, d1, d2, qaaz, qabz, qaiz, qajz, qakz, qalz, qamz, qanz, evOp, qaoz, qapz, qaqz, qarz, qatz, qavz,
 ↓reduceIte, Nat.reduceEqDiff, List.map_cons, List.map_nil, Option.map_some, qazz, qbqz, qbsz, beq_true, decide_true, decide_false,
 Bool.false_eq_true]
    exact fin false _ _ hk (by simp only [rightM, seqB, d2, decide_false, Bool.and_false, Bool.false_and]) rfl
  cases c3 : timesB m with
  | false =>
    simp (maxSteps := 1000000) (disch := omega) only [h1, h3, fam, lm0, lm1, lm2, hM, hU, d1, d2, c3, qaaz, qabz, qaiz, qajz, qakz, qalz, qamz, qanz, evOp, qaoz, qapz, qaqz, qarz, qatz, qavz,
 ↓reduceIte, Nat.reduceEqDiff, List.map_cons, List.map_nil, Option.map_some, qazz, qbqz, qbsz, beq_true, decide_true, Bool.false_eq_true]
    exact fin false _ _ hk (by simp only [rightM, c3, Bool.and_false, Bool.false_and]) rfl
  | true =>
  cases c4 : spanB m with
  | false =>
    simp (maxSteps := 1000000) (disch := omega) only [h1, h3, h4, fam, lm0, lm1, lm2, hM, hU, d1, d2, c3, c4, qaaz, qabz, qaiz, qajz, qakz, qalz, qamz, qanz, evOp, qaoz, qapz, qaqz, qarz, qatz, qavz,
 ↓reduceIte, Nat.reduceEqDiff, List.map_cons, List.map_nil, Option.map_some, qazz, qbqz, qbsz, beq_true, decide_true, Bool.false_eq_true]
    exact fin false _ _ hk (by simp only [rightM, c4, Bool.and_false, Bool.false_and]) rfl
  | true =>
  have hsq : seqB m.seq = true := by simp only [seqB, d1, d2, decide_true, Bool.and_true]
  have rest : ∀ (o : orgB m.org = true) (b : Bool), (peopleB m.att && noteB m.sum && noteB m.com) = b → rightM m = b := fun o b h => by
    rw [← h]; simp only [rightM, c1, c2, hsq, c3, c4, o, Bool.and_true, Bool.true_and]
  by_cases q1 : m.org = []
  · have ho : orgB m.org = true := by simp only [orgB, q1, decide_true, Bool.true_or]
    cases c5 : peopleB m.att with
    | false =>
      rw [c5] at hA
      simp (maxSteps := 1000000) (disch := omega) only [h1, h3, h4, fam, lm0, lm1, lm2, lm5, lm6, hM, hU, d1, d2, c3, c4, eq_true q1, hA, qaaz, qabz, qaiz, qajz, qakz, qalz, qamz, qanz, evOp, qaoz, qapz, qaqz, qarz, qatz, qavz,
 ↓reduceIte, Nat.reduceEqDiff, List.map_cons, List.map_nil, Option.map_some, qazz, qbqz, qbsz, qcbz, beq_true, beq_false, decide_true, Bool.false_eq_true, Bool.not_true]
      exact fin false _ _ hk (rest ho _ (by simp only [c5, Bool.false_and])) rfl
    | true =>
    rw [c5] at hA
    cases c6 : noteB m.sum with
    | false =>
      rw [c6] at hS
      simp (maxSteps := 1000000) (disch := omega) only [h1, h3, h4, fam, lm0, lm1, lm2, lm5, lm6, lm9, hM, hU, d1, d2, c3, c4, eq_true q1, hA, hS, qaaz, qabz, qaiz, qajz, qakz, qalz, qamz, qanz, evOp, qaoz, qapz, qaqz, qarz, qatz, qavz,
 ↓reduceIte, Nat.reduceEqDiff, List.map_cons, List.map_nil, Option.map_some, qazz, qbqz, qbsz, qcbz, beq_true, beq_false, decide_true, Bool.false_eq_true, Bool.not_true]
      exact fin false _ _ hk (rest ho _ (by simp only [c6, Bool.and_false, Bool.false_and])) rfl
    | true =>
    rw [c6] at hS
    simp (maxSteps := 1000000) (disch := omega) only [h1, h3, h4, fam, lm0, lm1, lm2, lm5, lm6, lm9, lm10, hM, hU, d1, d2, c3, c4, eq_true q1, hA, hS, hC, qaaz, qabz, qaiz, qajz, qakz, qalz, qamz, qanz, evOp, qaoz, qapz, qaqz, qarz, qatz, qavz,
 ↓reduceIte, Nat.reduceEqDiff, List.map_cons, List.map_nil, Option.map_some, qazz, qbqz, qbsz, qcbz, beq_true, beq_false, decide_true, Bool.false_eq_true, Bool.not_true]
    exact fin _ _ _ hk (rest ho _ (by simp only [c5, c6, Bool.and_true, Bool.true_and])) rfl
  · cases c7 : personB m.org with
    | false =>
      rw [c7] at hP
      simp (maxSteps := 1000000) (disch := omega) only [h1, h3, h4, fam, lm0, lm1, lm2, lm5, hM, hU, d1, d2, c3, c4, q1, hP, qaaz, qabz, qaiz, qajz, qakz, qalz, qamz, qanz, evOp, qaoz, qapz, qaqz, qarz, qatz, qavz,
 ↓reduceIte, Nat.reduceEqDiff, List.map_cons, List.map_nil, Option.map_some, qazz, qbqz, qbsz, qcbz, beq_true, beq_false, decide_true, decide_false,
 Bool.false_eq_true, Bool.not_false]
      exact fin false _ _ hk (by simp only [rightM, orgB, q1, c7, decide_false, Bool.and_false, Bool.false_and, Bool.or_false]) rfl
    | true =>
    rw [c7] at hP
    have ho : orgB m.org = true := by simp only [orgB, c7, Bool.or_true]
    cases c5 : peopleB m.att with
    | false =>
      rw [c5] at hA
      simp (maxSteps := 1000000) (disch := omega) only [h1, h3, h4, fam, lm0, lm1, lm2, lm5, lm6, hM, hU, d1, d2, c3, c4, q1, hP, hA, qaaz, qabz, qaiz, qajz, qakz, qalz, qamz, qanz, evOp, qaoz, qapz, qaqz, qarz, qatz, qavz,
 ↓reduceIte, Nat.reduceEqDiff, List.map_cons, List.map_nil, Option.map_some, qazz, qbqz, qbsz, qcbz, beq_true, beq_false, decide_true, decide_false,
 Bool.false_eq_true, Bool.not_false]
      exact fin false _ _ hk (rest ho _ (by simp only [c5, Bool.false_and])) rfl
    | true =>
    rw [c5] at hA
    cases c6 : noteB m.sum with
    | false =>
      rw [c6] at hS
      simp (maxSteps := 1000000) (disch := omega) only [h1, h3, h4, fam, lm0, lm1, lm2, lm5, lm6, lm9, hM, hU, d1, d2, c3, c4, q1, hP, hA, hS, qaaz, qabz, qaiz, qajz, qakz, qalz, qamz, qanz, evOp, qaoz, qapz, qaqz, qarz, qatz, qavz,
 ↓reduceIte, Nat.reduceEqDiff, List.map_cons, List.map_nil, Option.map_some, qazz, qbqz, qbsz, qcbz, beq_true, beq_false, decide_true, decide_false,
 Bool.false_eq_true, Bool.not_false]
      exact fin false _ _ hk (rest ho _ (by simp only [c6, Bool.and_false, Bool.false_and])) rfl
    | true =>
    rw [c6] at hS
    simp (maxSteps := 1000000) (disch := omega) only [h1, h3, h4, fam, lm0, lm1, lm2, lm5, lm6, lm9, lm10, hM, hU, d1, d2, c3, c4, q1, hP, hA, hS, hC, qaaz, qabz, qaiz, qajz, qakz, qalz, qamz, qanz, evOp, qaoz, qapz, qaqz, qarz, qatz, qavz,
 ↓reduceIte, Nat.reduceEqDiff, List.map_cons, List.map_nil, Option.map_some, qazz, qbqz, qbsz, qcbz, beq_true, beq_false, decide_true, decide_false,
 Bool.false_eq_true, Bool.not_false]
    exact fin _ _ _ hk (rest ho _ (by simp only [c5, c6, Bool.and_true, Bool.true_and])) rfl

structure rwM (m : MD) : Prop where
  me : m.me.length ≤ 4000000000000000000
  uid : m.uid.length ≤ 4000000000000000000
  org : m.org.length ≤ 9223372036854775807
  sum : m.sum.length ≤ 4000000000000000000
  com : m.com.length ≤ 4000000000000000000
  n : m.att.length ≤ 9223372036854775807
  a : ∀ p ∈ m.att, p.1.length ≤ 4000000000000000000 ∧ p.2.length ≤ 4000000000000000000
theorem great13_ok {m : MD} (h : greatM m = false) : okMD m ∧ ∀ p ∈ m.att, pairG p = true := by
  simp only [greatM, Bool.or_eq_false_iff, decide_eq_false_iff_not, Bool.not_eq_false'] at h
  obtain ⟨⟨⟨⟨h1, h2⟩, h3⟩, h4⟩, h5⟩ := h
  have h6 : ∀ p ∈ m.att, pairG p = true := fun p hp => List.all_eq_true.1 h5 p hp
  exact ⟨⟨by omega, by omega, by omega, by omega, by omega, by omega, fun p hp => by have := h6 p hp; simp only [pairG, decide_eq_true_eq] at this; omega⟩, h6⟩

set_option maxHeartbeats 4000000 in
theorem Great13_spec (hv : av.vs 2 = some (m.att.map pV)) (hr : rwM m) : call prog (.fn 174 []) [mV m av] st = some (.bool (greatM m), st) := by
  refine call_of_W prog_174 ?_
  unfold F_posthornlaw13_Great; dsimp only
  generalize hQ1 : endQ st _ _ = Q0
  have fin : ∀ (b : Bool) (E : Env) (S : St), Kept st S → greatM m = b → E 2 = .bool b → Q0 .ret E S := fun b E S k h h4 => by
    rw [← hQ1, qblz]; exact retB h4 k h.symm
  obtain ⟨u, hu, hu2, -⟩ := strip_m (m := m) hv
  have hlen := len_vs hu2
  rw [List.length_map] at hlen
  have hn := hr.n; have g1 := hr.me; have g2 := hr.uid; have g3 := hr.sum; have g4 := hr.com; have g5 := hr.org
  have ha1 : ∀ ek, binPV .add ek (.int .i64 (m.me.length : Int)) (.int .i64 (m.uid.length : Int)) = some (.int .i64 ((m.me.length + m.uid.length : Nat) : Int)) := fun ek => by
    rw [add_i (by omega) (by omega)]; simp
  have ha2 : ∀ ek, binPV .add ek (.int .i64 (m.sum.length : Int)) (.int .i64 (m.com.length : Int)) = some (.int .i64 ((m.sum.length + m.com.length : Nat) : Int)) := fun ek => by
    rw [add_i (by omega) (by omega)]; simp
  have e1 : ((60 : Int) < (m.att.length : Int)) = (60 < m.att.length) := by apply propext; omega
  have e2 : ((1000 : Int) < ((m.me.length + m.uid.length : Nat) : Int)) = (1000 < m.me.length + m.uid.length) := by apply propext; omega
  have e3 : ((1000 : Int) < (m.org.length : Int)) = (1000 < m.org.length) := by apply propext; omega
  have e4 : ((4000 : Int) < ((m.sum.length + m.com.length : Nat) : Int)) = (4000 < m.sum.length + m.com.length) := by apply propext; omega
  refine W_cut (fun E S => Kept st S ∧ E 1 = .cp (mC m u)) ?_ ?_
  · simp (maxSteps := 1000000) (disch := omega) only [hu, cells_m, qabz, qajz, qalz, evOp, qaoz, qapz, qarz, qatz, qavz,
 ↓reduceIte, Nat.reduceEqDiff, List.append_nil, qawz, Option.map_some, true_and, and_true]
    exact Kept.start
  rintro e S ⟨hk, h1⟩
  by_cases q1 : 60 < m.att.length
  · simp (maxSteps := 1000000) (disch := omega) only [h1, fam, lm6, hlen, e1, q1, qaaz, qabz, qacz, qaiz, qajz, qakz, qalz, qamz, qanz, evOp, qaoz, qapz, qarz, qatz, qavz,
 ↓reduceIte, Nat.reduceEqDiff, Option.map_some, qazz, qbaz, qbhz, qbrz, beq_false, decide_true, Bool.false_eq_true, Bool.not_true]
    exact fin true _ _ hk (by simp only [greatM, q1, decide_true, Bool.true_or]) rfl
  by_cases q2 : 1000 < m.me.length + m.uid.length
  · simp (maxSteps := 1000000) (disch := omega) only [h1, fam, lm0, lm1, lm6, hlen, len_s, ha1, e1, q1, e2, q2, qaaz, qabz, qacz, qaiz, qajz, qakz, qalz, qamz, qanz, evOp, qaoz, qapz, qarz, qatz, qavz,
 ↓reduceIte, Nat.reduceEqDiff, Option.map_some, qazz, qbaz, qbhz, qbrz, beq_false, decide_true, decide_false,
 Bool.false_eq_true, Bool.not_true, Bool.not_false]
    exact fin true _ _ hk (by simp only [greatM, q2, decide_true, Bool.or_true, Bool.true_or]) rfl
  by_cases q3 : 1000 < m.org.length
  · simp (maxSteps := 1000000) (disch := omega) only [h1, fam, lm0, lm1, lm5, lm6, hlen, len_s, ha1, e1, q1, e2, q2, e3, q3, qaaz, qabz, qacz, qaiz, qajz, qakz, qalz, qamz, qanz, evOp, qaoz, qapz, qarz, qatz, qavz,
 ↓reduceIte, Nat.reduceEqDiff, Option.map_some, qazz, qbaz, qbhz, qbrz, beq_false, decide_true, decide_false,
 Bool.false_eq_true, Bool.not_true, Bool.not_false]
    exact fin true _ _ hk (by simp only [greatM, q3, decide_true, Bool.or_true, Bool.true_or]) rfl
  by_cases q4 : 4000 < m.sum.length + m.com.length
  · simp (maxSteps := 1000000) (disch := omega) only [h1, fam, lm0, lm1, lm5, lm6, lm9, lm10, hlen, len_s, ha1, ha2, e1, q1, e2, q2, e3, q3, e4, q4, qaaz, qabz, qacz, qaiz, qajz, qakz, qalz, qamz, qanz, evOp, qaoz, qapz, qarz, qatz, qavz,
 ↓reduceIte, Nat.reduceEqDiff, Option.map_some, qazz, qbaz, qbhz, qbrz, beq_false, decide_true, decide_false,
 Bool.false_eq_true, Bool.not_false]
    exact fin true _ _ hk (by simp only [greatM, q4, decide_true, Bool.or_true, Bool.true_or]) rfl
  have hgr : greatM m = !m.att.all pairG := by simp only [greatM, q1, q2, q3, q4, decide_false, Bool.or_false, Bool.false_or]
  refine W_cut (fun E S => Kept st S ∧ E 1 = .cp (mC m u)) ?_ ?_
  · simp (maxSteps := 1000000) (disch := omega) only [h1, fam, lm0, lm1, lm5, lm6, lm9, lm10, hlen, len_s, ha1, ha2, e1, q1, e2, q2, e3, q3, e4, q4, qaaz, qabz, qacz, qaez, qajz, qakz, qalz, qamz, qanz, evOp, qaoz, qapz, qarz, qatz, qavz,
 ↓reduceIte, Nat.reduceEqDiff, Option.map_some, qazz, qbhz, qbrz, beq_false, decide_false,
 Bool.false_eq_true, true_and, and_true, Bool.not_false]
    exact hk
  clear hk h1 ha1 ha2 e1 e2 e3 e4
  rintro e S ⟨hk, h1⟩
  simp (maxSteps := 1000000) (disch := omega) only [qaaz, qabz, qadz, qajz, qalz, evOp, qapz, qarz, qatz, qazz]
  obtain ⟨I, hI⟩ : ∃ I : Nat → Env → St → Prop, I = fun k E S => ∃ i : Nat, k = m.att.length - i ∧ i ≤ m.att.length ∧ Kept st S ∧ (∀ j, j < i → pairG (m.att.getD j ([], [])) = true) ∧ E 1 = .cp (mC m u) ∧ E 3 = .int .i64 (i : Int) := ⟨_, rfl⟩
  refine W_loop I ?_ (n := m.att.length) (by
    rw [hI]; exact ⟨0, rfl, by omega, hk, fun j h => by omega, h1, rfl⟩)
  clear hk h1
  intro k E S hh
  rw [hI] at hh
  obtain ⟨i, rfl, hi, hk, hall, h1, h3⟩ := hh
  by_cases hlt : i < m.att.length
  · obtain ⟨a, ha⟩ : ∃ a, a = m.att.getD i ([], []) := ⟨_, rfl⟩
    have hia := iaddr_p (k := .i64) (c := (i : Int)) hu2 (by omega) (by rw [Int.toNat_natCast]; exact hlt)
    rw [Int.toNat_natCast, ← ha] at hia
    obtain ⟨r1, r2⟩ := hr.a a (by rw [ha]; exact getD_mem hlt)
    have ha1 : ∀ ek, binPV .add ek (.int .i64 (a.1.length : Int)) (.int .i64 (a.2.length : Int)) = some (.int .i64 ((a.1.length + a.2.length : Nat) : Int)) := fun ek => by
      rw [add_i (by omega) (by omega)]; simp
    have e1 : ((600 : Int) < ((a.1.length + a.2.length : Nat) : Int)) = (600 < a.1.length + a.2.length) := by apply propext; omega
    by_cases q : 600 < a.1.length + a.2.length
    · simp (maxSteps := 1000000) (disch := omega) only [h1, h3, fam, lm6, hlen, hlt, hia, fa_mk0, fa_mk1, ldp0, len_s, ha1, e1, q, qaaz, qabz, qacz, qadz, qaez, qaiz, qajz, qalz, evOp, qaoz, qapz, qarz, qatz, qavz,
 ↓reduceIte, Nat.reduceEqDiff, Option.map_some, qazz, qbaz, qbez, qbhz, qbiz, qbpz, qbrz, qciz, decide_true, Int.ofNat_lt]
      exact fin true _ _ hk (by rw [hgr, all_not (d := ([], [])) hlt (by rw [← ha]; simp only [pairG, decide_eq_false_iff_not]; omega)]; rfl) rfl
    · simp (maxSteps := 1000000) (disch := omega) only [h1, h3, fam, lm6, hlen, hlt, hia, fa_mk0, fa_mk1, ldp0, len_s, ha1, e1, q, add_n, loopQ_normal, qaaz, qabz, qacz, qadz, qaez, qajz, qalz, evOp, qaoz, qapz, qarz, qatz, qavz,
 ↓reduceIte, Nat.reduceEqDiff, Option.map_some, qazz, qbdz, qbhz, qbpz, qbrz, qciz, decide_true, decide_false,
 Int.ofNat_lt, Bool.false_eq_true, Int.reduceToNat]
      refine ⟨m.att.length - (i + 1), by omega, ?_⟩
      rw [hI]
      refine ⟨i + 1, rfl, by omega, hk, fun j hj => ?_, h1, rfl⟩
      by_cases hji : j = i
      · subst hji; rw [← ha]; simp only [pairG, decide_eq_true_eq]; omega
      · exact hall j (by omega)
  · obtain rfl : i = m.att.length := by omega
    simp (maxSteps := 1000000) (disch := omega) only [h1, h3, fam, lm6, hlen, hlt, qaaz, qabz, qacz, qagz, qaiz, qajz, qalz, evOp, qaoz, qapz, qarz, qatz, qavz,
 ↓reduceIte, Nat.reduceEqDiff, Option.map_some, qazz, qbbz, qbfz, qbhz, qbjz, qbpz, decide_false,
 Int.ofNat_lt, Bool.false_eq_true]
    exact fin false _ _ hk (by rw [hgr, all_take (p := pairG) hall]; rfl) rfl
end Go.Ab
/-
  Check and Sender walked, and the document's Right, Check and Sender.
-/
namespace Go.Ab
set_option maxRecDepth 20000
variable {st s : St} {e : Env} {m : MD} {av u : PV}

theorem needs_p {l : Bs} : callpV (call prog) (.fn 193 []) [.str l] = some (.agg (ndV (needOf l))) := callp_of rfl rfl rfl needs_spec
theorem nd_agg {n : Nd} : PV.agg (ndV n) = .agg [.int .i64 n.lo, .int .i64 n.hi, .bool n.re, .bool n.st, .bool n.ti] := rfl
set_option maxHeartbeats 8000000 in
theorem Check_spec (hv : av.vs 2 = some (m.att.map pV)) (ok : okMD m) : call prog (.fn 178 []) [mV m av] st = some (.int .i64 (checkM m), st) := by
  refine call_of_W prog_178 ?_
  unfold F_rules_Check; dsimp only
  generalize hQ1 : endQ st _ _ = Q0
  have fin : ∀ (b : Int) (E : Env) (S : St), Kept st S → checkM m = b → E 2 = .int .i64 b → Q0 .ret E S := fun b E S k h h4 => by
    rw [← hQ1, qblz]; exact retI h4 k h.symm
  obtain ⟨u, hu, hu2, -⟩ := strip_m (m := m) hv
  have hlen := len_vs hu2
  rw [List.length_map] at hlen
  obtain ⟨n, hn⟩ : ∃ n, n = needOf m.me := ⟨_, rfl⟩
  have hN := needs_p (l := m.me)
  rw [← hn, nd_agg] at hN
  have hnr : m.me = sREP → n = ⟨1, 1, false, false, false⟩ := fun q => by rw [hn, q]; rfl
  have hRt := fun S : St => mRight_spec (st := S) hu2 ok
  have hRo := fun S : St => roleOf_spec (st := S) (l := m.me)
  have hck : checkM m = if rightM m = false then 120 else if roleOf m.me = 0 then 130 else if m.org = [] ∨ (m.att.length : Int) < n.lo then 131 else if n.hi < (m.att.length : Int) then 132 else if partB m = true then 3 else if (n.re = true ∧ m.recur < 0) ∨ (n.st = true ∧ m.sta < 0) then 131 else if n.ti = true ∧ 0 ≤ m.sta then 132 else 0 := by rw [hn]; rfl
  clear hn
  obtain ⟨nl, nh, re, nst, ti⟩ := n
  simp only at hN hck hnr
  obtain ⟨B, hB⟩ : ∃ B, B = st.boxes := ⟨_, rfl⟩
  refine W_cut (fun E S => (S = ⟨B, st.toks, st.loops, B.length⟩) ∧ E 1 = .cp (mC m u)) ?_ ?_
  · simp (disch := rfl) only [hu, cells_m, ← hB, qabz, qajz, qalz, evOp, qaoz, qapz, qarz, qatz, qavz,
 ↓reduceIte, Nat.reduceEqDiff, List.append_nil, qawz, Option.map_some, true_and, and_true]
  rintro e S ⟨rfl, h1⟩
  refine W_cut (fun E S => (∃ T L lo, S = ⟨B ++ [[.int .i64 nl, .int .i64 nh, .bool re, .bool nst, .bool ti]], T, L, lo⟩ ∧ Kept st S) ∧ E 1 = .cp (mC m u) ∧ E 3 = .ptr B.length 0 ∧ E 4 = .int .i64 (m.att.length : Int)) ?_ ?_
  · simp (disch := rfl) only [h1, fam, lm0, lm6, hN, hlen, allocPV, st_nd, qabz, qajz, qalz, evOp, qaoz, qaqz, qarz, qatz, qauz, qavz,
 ↓reduceIte, Nat.reduceEqDiff, List.map_cons, List.map_nil, Option.map_some, true_and, and_true]
    refine ⟨_, _, _, rfl, ?_⟩
    have := Kept.box1 (st := st) (z := [.int .i64 nl, .int .i64 nh, .bool re, .bool nst, .bool ti])
    rw [← hB] at this; exact this
  clear h1
  rintro e S ⟨⟨T, L, lo, rfl, hk⟩, h1, h3, h4⟩
  cases c1 : rightM m with
  | false =>
    rw [c1] at hRt
    simp (maxSteps := 1000000) (disch := omega) only [h1, lmA, hRt, qaaz, qabz, qacz, qadz, qaiz, qajz, qalz, evOp, qaoz, qapz, qaqz, qarz, qatz, qavz,
 ↓reduceIte, List.map_cons, List.map_nil, Option.map_some, qazz, qbaz, qbez, qbhz, qcfz, Bool.not_false]
    exact fin 120 _ _ hk (by rw [hck, c1]; rfl) rfl
  | true =>
  rw [c1] at hRt
  rw [c1, if_neg (by simp)] at hck
  by_cases c2 : roleOf m.me = 0
  · simp (maxSteps := 1000000) (disch := omega) only [h1, lmA, hRt, fam, lm0, hRo, eq_true c2, qaaz, qabz, qacz, qadz, qaiz, qajz, qalz, evOp, qaoz, qapz, qaqz, qarz, qatz, qavz,
 ↓reduceIte, Nat.reduceEqDiff, List.map_cons, List.map_nil, Option.map_some, qazz, qbaz, qbez, qbhz, qbtz, qcfz, decide_true, Bool.false_eq_true, Bool.not_true]
    exact fin 130 _ _ hk (by rw [hck, if_pos c2]) rfl
  rw [if_neg c2] at hck
  by_cases c3 : m.org = []
  · simp (maxSteps := 1000000) (disch := omega) only [h1, lmA, hRt, fam, lm0, lm5, hRo, c2, eq_true c3, qaaz, qabz, qacz, qadz, qaiz, qajz, qakz, qalz, qamz, qanz, evOp, qaoz, qapz, qaqz, qarz, qatz, qavz,
 ↓reduceIte, Nat.reduceEqDiff, List.map_cons, List.map_nil, Option.map_some, qazz, qbaz, qbez, qbhz, qbtz, qcbz, qcfz, beq_false, decide_true, decide_false,
 Bool.false_eq_true, Bool.not_true]
    exact fin 131 _ _ hk (by rw [hck, if_pos (.inl c3)]) rfl
  by_cases c4 : (m.att.length : Int) < nl
  · simp (maxSteps := 1000000) (disch := omega) only [h1, h3, h4, lmA, hRt, fam, lm0, lm5, hRo, c2, c3, faP, Nat.zero_add, ld_nd0, c4, qaaz, qabz, qacz, qadz, qaiz, qajz, qakz, qalz, qamz, qanz, evOp, qaoz, qapz, qaqz, qarz, qatz, qavz,
 ↓reduceIte, Nat.reduceEqDiff, List.map_cons, List.map_nil, Option.map_some, qazz, qbaz, qbez, qbhz, qbpz, qbtz, qcbz, qcfz, beq_false, decide_true, decide_false,
 Bool.false_eq_true, Bool.not_true, Bool.not_false]
    exact fin 131 _ _ hk (by rw [hck, if_pos (.inr c4)]) rfl
  rw [if_neg (by simp [c3, c4])] at hck
  by_cases c5 : nh < (m.att.length : Int)
  · simp (maxSteps := 1000000) (disch := omega) only [h1, h3, h4, lmA, hRt, fam, lm0, lm5, hRo, c2, c3, faP, Nat.zero_add, ld_nd0, c4, ld_nd1, c5, qaaz, qabz, qacz, qadz, qaiz, qajz, qakz, qalz, qamz, qanz, evOp, qaoz, qapz, qaqz, qarz, qatz, qavz,
 ↓reduceIte, Nat.reduceEqDiff, List.map_cons, List.map_nil, Option.map_some, qazz, qbaz, qbez, qbhz, qbpz, qbrz, qbtz, qcbz, qcfz, beq_false, decide_true, decide_false,
 Bool.false_eq_true, Bool.not_true, Bool.not_false]
    exact fin 132 _ _ hk (by rw [hck, if_pos c5]) rfl
  rw [if_neg c5] at hck
  by_cases c6 : m.me = sREP
  · have hnr' := hnr c6
    simp only [Nd.mk.injEq] at hnr'
    obtain ⟨rfl, rfl, rfl, rfl, rfl⟩ := hnr'
    have hpos : 0 < m.att.length := by omega
    have hia := iaddr_p (k := .i64) (c := 0) hu2 (by omega) (by simpa using hpos)
    rw [show (0 : Int).toNat = 0 from rfl] at hia
    by_cases c7 : (m.att.getD 0 ([], [])).2 = sNEE
    · simp (maxSteps := 1000000) (disch := omega) only [h1, h3, h4, lmA, hRt, fam, lm0, lm5, lm6, hRo, c2, c3, faP, Nat.zero_add, ld_nd0, c4, ld_nd1, c5, eq_true c6, hia, fa_mk1, eq_true c7, qaaz, qabz, qacz, qadz, qaiz, qajz, qakz, qalz, qamz, qanz, evOp, qaoz, qapz, qaqz, qarz, qatz, qavz,
 ↓reduceIte, Nat.reduceEqDiff, List.map_cons, List.map_nil, Option.map_some, qazz, qbaz, qbez, qbhz, qbpz, qbrz, qbtz, qcbz, qcfz, qciz, beq_true, beq_false, decide_true, decide_false,
 Bool.false_eq_true, Bool.not_true, Bool.not_false]
      exact fin 3 _ _ hk (by rw [hck, if_pos (by rw [partB, decide_eq_true c6, decide_eq_true c7]; rfl)]) rfl
    · simp (maxSteps := 1000000) (disch := omega) only [h1, h3, h4, lmA, hRt, fam, lm0, lm5, lm6, hRo, c2, c3, faP, Nat.zero_add, ld_nd0, c4, ld_nd1, c5, eq_true c6, hia, fa_mk1, c7, ld_nd2, ld_nd3, ld_nd4, qaaz, qabz, qacz, qadz, qaez, qaiz, qajz, qakz, qalz, qamz, qanz, evOp, qaoz, qapz, qaqz, qarz, qatz, qavz,
 ↓reduceIte, Nat.reduceEqDiff, List.map_cons, List.map_nil, Option.map_some, qazz, qbdz, qbhz, qbpz, qbrz, qbtz, qcbz, qcfz, qciz, beq_true, beq_false, decide_true, decide_false,
 Bool.false_eq_true, Bool.not_true, Bool.not_false]
      rw [if_neg (by rw [partB, decide_eq_false c7, Bool.and_false]; simp), if_neg (by simp), if_neg (by simp)] at hck
      exact fin 0 _ _ hk hck rfl
  have hpb : ¬ partB m = true := by simp [partB, c6]
  rw [if_neg hpb] at hck
  cases re with
  | true =>
    by_cases d2 : m.recur < 0
    · simp (maxSteps := 1000000) (disch := omega) only [h1, h3, h4, lmA, hRt, fam, lm0, lm4, lm5, hRo, c2, c3, faP, Nat.zero_add, ld_nd0, c4, ld_nd1, c5, c6, ld_nd2, d2, qaaz, qabz, qacz, qadz, qaiz, qajz, qakz, qalz, qamz, qanz, evOp, qaoz, qapz, qaqz, qarz, qatz, qavz,
 ↓reduceIte, Nat.reduceEqDiff, List.map_cons, List.map_nil, Option.map_some, qazz, qbaz, qbez, qbhz, qbpz, qbrz, qbtz, qcbz, qcfz, beq_true, beq_false, decide_true, decide_false,
 Bool.false_eq_true, Bool.not_true, Bool.not_false]
      exact fin 131 _ _ hk (by rw [hck, if_pos (.inl ⟨rfl, d2⟩)]) rfl
    cases nst with
    | true =>
      by_cases d4 : m.sta < 0
      · simp (maxSteps := 1000000) (disch := omega) only [h1, h3, h4, lmA, hRt, fam, lm0, lm4, lm5, lm7, hRo, c2, c3, faP, Nat.zero_add, ld_nd0, c4, ld_nd1, c5, c6, ld_nd2, ld_nd3, d2, d4, qaaz, qabz, qacz, qadz, qaiz, qajz, qakz, qalz, qamz, qanz, evOp, qaoz, qapz, qaqz, qarz, qatz, qavz,
 ↓reduceIte, Nat.reduceEqDiff, List.map_cons, List.map_nil, Option.map_some, qazz, qbaz, qbez, qbhz, qbpz, qbrz, qbtz, qcbz, qcfz, beq_true, beq_false, decide_true, decide_false,
 Bool.false_eq_true, Bool.not_true, Bool.not_false]
        exact fin 131 _ _ hk (by rw [hck, if_pos (.inr ⟨rfl, d4⟩)]) rfl
      rw [if_neg (by simp only [d2, d4, and_false, or_self, not_false_eq_true])] at hck
      cases ti with
      | true =>
        by_cases d6 : 0 ≤ m.sta
        · simp (maxSteps := 1000000) (disch := omega) only [h1, h3, h4, lmA, hRt, fam, lm0, lm4, lm5, lm7, hRo, c2, c3, faP, Nat.zero_add, ld_nd0, c4, ld_nd1, c5, c6, ld_nd2, ld_nd3, ld_nd4, d2, d4, d6, qaaz, qabz, qacz, qadz, qaiz, qajz, qakz, qalz, qamz, qanz, evOp, qaoz, qapz, qaqz, qarz, qatz, qavz,
 ↓reduceIte, Nat.reduceEqDiff, List.map_cons, List.map_nil, Option.map_some, qazz, qbaz, qbez, qbhz, qbpz, qbrz, qbsz, qbtz, qcbz, qcfz, beq_true, beq_false, decide_true, decide_false,
 Bool.false_eq_true, Bool.not_true, Bool.not_false]
          exact fin 132 _ _ hk (by rw [hck, if_pos ⟨rfl, d6⟩]) rfl
        · simp (maxSteps := 1000000) (disch := omega) only [h1, h3, h4, lmA, hRt, fam, lm0, lm4, lm5, lm7, hRo, c2, c3, faP, Nat.zero_add, ld_nd0, c4, ld_nd1, c5, c6, ld_nd2, ld_nd3, ld_nd4, d2, d4, d6, qaaz, qabz, qacz, qadz, qaez, qaiz, qajz, qakz, qalz, qamz, qanz, evOp, qaoz, qapz, qaqz, qarz, qatz, qavz,
 ↓reduceIte, Nat.reduceEqDiff, List.map_cons, List.map_nil, Option.map_some, qazz, qbdz, qbhz, qbpz, qbrz, qbsz, qbtz, qcbz, qcfz, beq_true, beq_false, decide_false,
 Bool.false_eq_true, Bool.not_true, Bool.not_false]
          exact fin 0 _ _ hk (by rw [hck, if_neg (by simp only [d6, and_false, not_false_eq_true])]) rfl
      | false =>
        simp (maxSteps := 1000000) (disch := omega) only [h1, h3, h4, lmA, hRt, fam, lm0, lm4, lm5, lm7, hRo, c2, c3, faP, Nat.zero_add, ld_nd0, c4, ld_nd1, c5, c6, ld_nd2, ld_nd3, ld_nd4, d2, d4, qaaz, qabz, qacz, qadz, qaez, qaiz, qajz, qakz, qalz, qamz, qanz, evOp, qaoz, qapz, qaqz, qarz, qatz, qavz,
 ↓reduceIte, Nat.reduceEqDiff, List.map_cons, List.map_nil, Option.map_some, qazz, qbdz, qbhz, qbpz, qbrz, qbtz, qcbz, qcfz, beq_true, beq_false, decide_false,
 Bool.false_eq_true, Bool.not_true, Bool.not_false]
        exact fin 0 _ _ hk (by rw [hck, if_neg (by simp)]) rfl
    | false =>
      rw [if_neg (by simp [d2])] at hck
      cases ti with
      | true =>
        by_cases d6 : 0 ≤ m.sta
        · simp (maxSteps := 1000000) (disch := omega) only [h1, h3, h4, lmA, hRt, fam, lm0, lm4, lm5, lm7, hRo, c2, c3, faP, Nat.zero_add, ld_nd0, c4, ld_nd1, c5, c6, ld_nd2, ld_nd3, ld_nd4, d2, d6, qaaz, qabz, qacz, qadz, qaiz, qajz, qakz, qalz, qamz, qanz, evOp, qaoz, qapz, qaqz, qarz, qatz, qavz,
 ↓reduceIte, Nat.reduceEqDiff, List.map_cons, List.map_nil, Option.map_some, qazz, qbaz, qbez, qbhz, qbpz, qbrz, qbsz, qbtz, qcbz, qcfz, beq_true, beq_false, decide_true, decide_false,
 Bool.false_eq_true, Bool.not_true, Bool.not_false]
          exact fin 132 _ _ hk (by rw [hck, if_pos ⟨rfl, d6⟩]) rfl
        · simp (maxSteps := 1000000) (disch := omega) only [h1, h3, h4, lmA, hRt, fam, lm0, lm4, lm5, lm7, hRo, c2, c3, faP, Nat.zero_add, ld_nd0, c4, ld_nd1, c5, c6, ld_nd2, ld_nd3, ld_nd4, d2, d6, qaaz, qabz, qacz, qadz, qaez, qaiz, qajz, qakz, qalz, qamz, qanz, evOp, qaoz, qapz, qaqz, qarz, qatz, qavz,
 ↓reduceIte, Nat.reduceEqDiff, List.map_cons, List.map_nil, Option.map_some, qazz, qbdz, qbhz, qbpz, qbrz, qbsz, qbtz, qcbz, qcfz, beq_true, beq_false, decide_false,
 Bool.false_eq_true, Bool.not_true, Bool.not_false]
          exact fin 0 _ _ hk (by rw [hck, if_neg (by simp only [d6, and_false, not_false_eq_true])]) rfl
      | false =>
        simp (maxSteps := 1000000) (disch := omega) only [h1, h3, h4, lmA, hRt, fam, lm0, lm4, lm5, hRo, c2, c3, faP, Nat.zero_add, ld_nd0, c4, ld_nd1, c5, c6, ld_nd2, ld_nd3, ld_nd4, d2, qaaz, qabz, qacz, qadz, qaez, qaiz, qajz, qakz, qalz, qamz, qanz, evOp, qaoz, qapz, qaqz, qarz, qatz, qavz,
 ↓reduceIte, Nat.reduceEqDiff, List.map_cons, List.map_nil, Option.map_some, qazz, qbdz, qbhz, qbpz, qbrz, qbtz, qcbz, qcfz, beq_true, beq_false, decide_false,
 Bool.false_eq_true, Bool.not_true, Bool.not_false]
        exact fin 0 _ _ hk (by rw [hck, if_neg (by simp)]) rfl
  | false =>
    cases nst with
    | true =>
      by_cases d4 : m.sta < 0
      · simp (maxSteps := 1000000) (disch := omega) only [h1, h3, h4, lmA, hRt, fam, lm0, lm5, lm7, hRo, c2, c3, faP, Nat.zero_add, ld_nd0, c4, ld_nd1, c5, c6, ld_nd2, ld_nd3, d4, qaaz, qabz, qacz, qadz, qaiz, qajz, qakz, qalz, qamz, qanz, evOp, qaoz, qapz, qaqz, qarz, qatz, qavz,
 ↓reduceIte, Nat.reduceEqDiff, List.map_cons, List.map_nil, Option.map_some, qazz, qbaz, qbez, qbhz, qbpz, qbrz, qbtz, qcbz, qcfz, beq_true, beq_false, decide_true, decide_false,
 Bool.false_eq_true, Bool.not_true, Bool.not_false]
        exact fin 131 _ _ hk (by rw [hck, if_pos (.inr ⟨rfl, d4⟩)]) rfl
      rw [if_neg (by simp [d4])] at hck
      cases ti with
      | true =>
        by_cases d6 : 0 ≤ m.sta
        · simp (maxSteps := 1000000) (disch := omega) only [h1, h3, h4, lmA, hRt, fam, lm0, lm5, lm7, hRo, c2, c3, faP, Nat.zero_add, ld_nd0, c4, ld_nd1, c5, c6, ld_nd2, ld_nd3, ld_nd4, d4, d6, qaaz, qabz, qacz, qadz, qaiz, qajz, qakz, qalz, qamz, qanz, evOp, qaoz, qapz, qaqz, qarz, qatz, qavz,
 ↓reduceIte, Nat.reduceEqDiff, List.map_cons, List.map_nil, Option.map_some, qazz, qbaz, qbez, qbhz, qbpz, qbrz, qbsz, qbtz, qcbz, qcfz, beq_true, beq_false, decide_true, decide_false,
 Bool.false_eq_true, Bool.not_true, Bool.not_false]
          exact fin 132 _ _ hk (by rw [hck, if_pos ⟨rfl, d6⟩]) rfl
        · simp (maxSteps := 1000000) (disch := omega) only [h1, h3, h4, lmA, hRt, fam, lm0, lm5, lm7, hRo, c2, c3, faP, Nat.zero_add, ld_nd0, c4, ld_nd1, c5, c6, ld_nd2, ld_nd3, ld_nd4, d4, d6, qaaz, qabz, qacz, qadz, qaez, qaiz, qajz, qakz, qalz, qamz, qanz, evOp, qaoz, qapz, qaqz, qarz, qatz, qavz,
 ↓reduceIte, Nat.reduceEqDiff, List.map_cons, List.map_nil, Option.map_some, qazz, qbdz, qbhz, qbpz, qbrz, qbsz, qbtz, qcbz, qcfz, beq_true, beq_false, decide_false,
 Bool.false_eq_true, Bool.not_true, Bool.not_false]
          exact fin 0 _ _ hk (by rw [hck, if_neg (by simp only [d6, and_false, not_false_eq_true])]) rfl
      | false =>
        simp (maxSteps := 1000000) (disch := omega) only [h1, h3, h4, lmA, hRt, fam, lm0, lm5, lm7, hRo, c2, c3, faP, Nat.zero_add, ld_nd0, c4, ld_nd1, c5, c6, ld_nd2, ld_nd3, ld_nd4, d4, qaaz, qabz, qacz, qadz, qaez, qaiz, qajz, qakz, qalz, qamz, qanz, evOp, qaoz, qapz, qaqz, qarz, qatz, qavz,
 ↓reduceIte, Nat.reduceEqDiff, List.map_cons, List.map_nil, Option.map_some, qazz, qbdz, qbhz, qbpz, qbrz, qbtz, qcbz, qcfz, beq_true, beq_false, decide_false,
 Bool.false_eq_true, Bool.not_true, Bool.not_false]
        exact fin 0 _ _ hk (by rw [hck, if_neg (by simp)]) rfl
    | false =>
      rw [if_neg (by simp)] at hck
      cases ti with
      | true =>
        by_cases d6 : 0 ≤ m.sta
        · simp (maxSteps := 1000000) (disch := omega) only [h1, h3, h4, lmA, hRt, fam, lm0, lm5, lm7, hRo, c2, c3, faP, Nat.zero_add, ld_nd0, c4, ld_nd1, c6, ld_nd2, ld_nd3, ld_nd4, c5, d6, qaaz, qabz, qacz, qadz, qaiz, qajz, qakz, qalz, qamz, qanz, evOp, qaoz, qapz, qaqz, qarz, qatz, qavz,
 ↓reduceIte, Nat.reduceEqDiff, List.map_cons, List.map_nil, Option.map_some, qazz, qbaz, qbez, qbhz, qbpz, qbrz, qbsz, qbtz, qcbz, qcfz, beq_true, beq_false, decide_true, decide_false,
 Bool.false_eq_true, Bool.not_true, Bool.not_false]
          exact fin 132 _ _ hk (by rw [hck, if_pos ⟨rfl, d6⟩]) rfl
        · simp (maxSteps := 1000000) (disch := omega) only [h1, h3, h4, lmA, hRt, fam, lm0, lm5, lm7, hRo, c2, c3, faP, Nat.zero_add, ld_nd0, c4, ld_nd1, c6, ld_nd2, ld_nd3, ld_nd4, c5, d6, qaaz, qabz, qacz, qadz, qaez, qaiz, qajz, qakz, qalz, qamz, qanz, evOp, qaoz, qapz, qaqz, qarz, qatz, qavz,
 ↓reduceIte, Nat.reduceEqDiff, List.map_cons, List.map_nil, Option.map_some, qazz, qbdz, qbhz, qbpz, qbrz, qbsz, qbtz, qcbz, qcfz, beq_true, beq_false, decide_false,
 Bool.false_eq_true, Bool.not_true, Bool.not_false]
          exact fin 0 _ _ hk (by rw [hck, if_neg (by simp only [d6, and_false, not_false_eq_true])]) rfl
      | false =>
        simp (maxSteps := 1000000) (disch := omega) only [h1, h3, h4, lmA, hRt, fam, lm0, lm5, hRo, c2, c3, faP, Nat.zero_add, ld_nd0, c4, ld_nd1, c6, ld_nd2, ld_nd3, ld_nd4, c5, qaaz, qabz, qacz, qadz, qaez, qaiz, qajz, qakz, qalz, qamz, qanz, evOp, qaoz, qapz, qaqz, qarz, qatz, qavz,
 ↓reduceIte, Nat.reduceEqDiff, List.map_cons, List.map_nil, Option.map_some, qazz, qbdz, qbhz, qbpz, qbrz, qbtz, qcbz, qcfz, beq_true, beq_false, decide_false,
 Bool.false_eq_true, Bool.not_true, Bool.not_false]
        exact fin 0 _ _ hk (by rw [hck, if_neg (by simp)]) rfl

theorem check_att (h : checkM m = 0) (hr : roleOf m.me = 2) : 0 < m.att.length := by
  unfold checkM at h
  by_cases c1 : rightM m = false
  · rw [if_pos c1] at h; simp at h
  rw [if_neg c1, if_neg (by omega)] at h
  by_cases c3 : m.org = [] ∨ (m.att.length : Int) < (needOf m.me).lo
  · rw [if_pos c3] at h; simp at h
  have hlo : (needOf m.me).lo = 1 := by
    rcases role_cases (s := m.me) (by omega) with h0 | h0 | h0 | h0 | h0 | h0 | h0 | h0 <;> rw [h0] at hr ⊢ <;> first | rfl | (simp [roleOf, roleO] at hr; done)
  rw [hlo] at c3
  have : ¬ ((m.att.length : Int) < 1) := fun q => c3 (.inr q)
  omega
set_option maxHeartbeats 2000000 in
theorem Sender_spec (hv : av.vs 2 = some (m.att.map pV)) (ok : okMD m) : call prog (.fn 185 []) [mV m av] st = some (.tup [.str (senderM m).1, .int .i64 (senderM m).2], st) := by
  refine call_of_W prog_185 ?_
  unfold F_rules_Sender; dsimp only
  generalize hQ1 : endQ st _ _ = Q0
  have fin : ∀ (a : Bs) (b : Int) (E : Env) (S : St), Kept st S → senderM m = (a, b) → E 2 = .str a → E 3 = .int .i64 b → Q0 .ret E S := fun a b E S k h h4 h5 => by
    rw [← hQ1, qblz]; exact retSI h4 h5 k (by rw [h]) (by rw [h])
  obtain ⟨u, hu, hu2, -⟩ := strip_m (m := m) hv
  have hC := fun S : St => Check_spec (st := S) hu2 ok
  have hRo := fun S : St => roleOf_spec (st := S) (l := m.me)
  by_cases c1 : checkM m = 0
  · rw [c1] at hC
    by_cases c2 : roleOf m.me = 2
    · have hia := iaddr_p (k := .i64) (c := 0) hu2 (by omega) (by simpa using check_att c1 c2)
      rw [show (0 : Int).toNat = 0 from rfl] at hia
      simp (maxSteps := 1000000) (disch := omega) only [hu, cells_m, lmA, fam, lm0, lm6, hC, hRo, c2, hia, fa_mk0, ldp0, qaaz, qabz, qacz, qaez, qaiz, qajz, qalz, evOp, qaoz, qapz, qaqz, qarz, qatz, qavz,
 ↓reduceIte, Nat.reduceEqDiff, List.append_nil, List.map_cons, List.map_nil, qawz, Option.map_some, qazz, qbaz, qbhz, qbtz, qbuz, decide_true, decide_false,
 Bool.false_eq_true, ne_eq, not_true_eq_false]
      exact fin _ _ _ _ Kept.start (by rw [senderM, if_pos c1, if_pos c2]) rfl rfl
    · simp (maxSteps := 1000000) (disch := omega) only [hu, cells_m, lmA, fam, lm0, lm5, hC, hRo, c2, qaaz, qabz, qacz, qaez, qaiz, qajz, qalz, evOp, qaoz, qapz, qaqz, qarz, qatz, qavz,
 ↓reduceIte, Nat.reduceEqDiff, List.append_nil, List.map_cons, List.map_nil, qawz, Option.map_some, qazz, qbhz, qbtz, qbuz, decide_false,
 Bool.false_eq_true, ne_eq, not_true_eq_false]
      exact fin _ _ _ _ Kept.start (by rw [senderM, if_pos c1, if_neg c2]) rfl rfl
  · simp (maxSteps := 1000000) (disch := omega) only [hu, cells_m, lmA, hC, c1, qaaz, qabz, qacz, qaiz, qajz, qalz, evOp, qaoz, qapz, qaqz, qarz, qatz, qavz,
 ↓reduceIte, Nat.reduceEqDiff, List.append_nil, List.map_cons, List.map_nil, qawz, Option.map_some, qazz, qbaz, qbhz, qbuz, decide_true, ne_eq, not_false_eq_true]
    exact fin _ _ _ _ Kept.start (by rw [senderM, if_neg c1]) rfl rfl

end Go.Ab
/-
  The document's Right, Check and Sender of a message, walked.
-/
namespace Go.Ab
set_option maxRecDepth 20000
variable {st s : St} {e : Env} {m : MD} {av u : PV}

end Go.Ab
/-
  What must come of fixed calls; the law RulesOrder.
-/
namespace Go.Ab
set_option maxRecDepth 20000
variable {st s : St} {e : Env} {m : MD} {av u : PV}

abbrev md0 : MD := ⟨[], [], 0, 0, 0, [], [], 0, 0, [], []⟩
theorem At.stM {S : St} {b : Nat} {m m' : MD} {av av' : PV} (h : At S b (mC m' av')) (hl : leafOk av = true) (hb : av.inB (b + 1) = true) : ∃ S', storePV S 11 (.ptr b 0) (mV m av) = some S' ∧ Wrote S S' b (mC m av) := by
  refine ⟨_, ?_, wrote_set (ds := mC m av) (lo := if hasTok (mC m av) then min S.low b else S.low) h (by split <;> simp)⟩
  unfold At at h
  have l1 : ∀ x, leafOk (.str x) = true := fun _ => rfl
  have l2 : ∀ k n, leafOk (.int k n) = true := fun _ _ => rfl
  simp [storePV, h, mV, mC, PV.cells, setCells, PV.inB, PV.inB.inBAll, l1, l2, hl, hb]; rfl
theorem At.ldM {S : St} {b : Nat} (h : At S b (mC m av)) : loadPV S true 11 (.ptr b 0) = some (mV m av) := by
  unfold At at h; simp [loadPV, h, readCells, mV, mC]
theorem At.stMe {S : St} {b : Nat} {x : Bs} (h : At S b (mC m av)) : ∃ S', storePV S 1 (.ptr b 0) (.str x) = some S' ∧ Wrote S S' b (mC { m with me := x } av) := by
  obtain ⟨S', h1, h2⟩ := h.st1 (off := 0) (v := .str x) ⟨rfl, rfl⟩ rfl (by simp [mC])
  exact ⟨S', h1, h2⟩
theorem At.stAt {S : St} {b : Nat} (h : At S b (mC m av)) : ∃ S', storePV S 1 (.ptr b 6) .nils = some S' ∧ Wrote S S' b (mC { m with att := [] } .nils) := by
  obtain ⟨S', h1, h2⟩ := h.st1 (off := 6) (v := .nils) ⟨rfl, rfl⟩ rfl (by simp [mC])
  exact ⟨S', h1, h2⟩
theorem leave_msg {S : St} {pv : PV} {xs : List PV} (hk : Kept st S) (h : Own st S 2 pv xs) (hne : xs = [] → pv = .nils) : leave st S (.agg (mC m pv)) = (mV m (newSl st 2 xs), newS st xs.isEmpty) := by
  have e1 := hk.bx; have e2 := hk.lp; have e3 := hk.tk
  rcases h with ⟨rfl, rfl⟩ | ⟨i, rfl, h2, h3⟩
  · simp [leave, mV, mC, PV.inB, PV.inB.inBAll, hk.lw, keepRes, keepVal, keepCells, keepLeaf, newSl, newS, e1, e2, e3]
  · by_cases hx : xs = []
    · have := hne hx; cases this
    · simp [leave, mV, mC, PV.inB, PV.inB.inBAll, hk.lw, keepRes, keepVal, keepCells, keepLeaf, keepTok, newSl, newS, hx, h3, show ¬ i < st.toks.length by omega, e1, e2, e3, St.tok1]

def methL : List Bs := [sADD, sCAN, sCOU, sDEC, sPUB, sREF, sREP, sREQ]
theorem Methods_spec : call prog (.fn 176 []) [] st = some (.sl 1 (.own st.toks.length) (methL.map .str), st.tok1) := by
  refine call_of_W prog_176 ?_
  unfold F_rules_Methods; dsimp only
  have hl : litFill 1 (List.replicate 8 (.str [])) [(0, .str [65, 68, 68]), (1, .str [67, 65, 78, 67, 69, 76]), (2, .str [67, 79, 85, 78, 84, 69, 82]), (3, .str [68, 69, 67, 76, 73, 78, 69, 67, 79, 85, 78, 84, 69, 82]), (4, .str [80, 85, 66, 76, 73, 83, 72]), (5, .str [82, 69, 70, 82, 69, 83, 72]), (6, .str [82, 69, 80, 76, 89]), (7, .str [82, 69, 81, 85, 69, 83, 84])] = some (methL.map .str) := rfl
  simp (maxSteps := 1000000) (disch := omega) only [hl, freshT_eq, qaaz, qabz, qaiz, qajz, qalz, evOp, qaoz, qapz, qarz, qatz, qavz,
 ↓reduceIte, List.append_nil, List.map_cons, List.map_nil, qazz, qblz]
  refine ⟨.sl 1 (.own st.toks.length) (methL.map .str), by simp [resOf, rvAll, rv1, qavz, notTup, packRes], ?_⟩
  have hk := (Kept.start (st := st)).tok1
  have := hk.leaveOwn1 (esz := 1) (v := .sl 1 (.own st.toks.length) (methL.map .str)) (xs := methL.map .str) (.inr ⟨_, rfl, Nat.le_refl _, by simp [St.tok1]⟩) (fun h => by simp [methL] at h)
  rw [this]; rfl

def alM : MD := ⟨sREQ, [117], 0, 0, -1, [111, 64, 120], [([97, 64, 120], sNEE)], 0, 60, [115], []⟩
theorem Message_spec : ∃ pv, call prog (.fn 192 []) [] st = some (mV alM pv, st.tok1) ∧ pv.vs 2 = some (alM.att.map pV) ∧ leafOk pv = true ∧ ∀ n, pv.inB n = true := by
  refine ⟨.sl 2 (.own st.toks.length) (alM.att.map pV), ?_, by simp [PV.vs], rfl, fun _ => rfl⟩
  refine call_of_W prog_192 ?_
  unfold F_posthornlaw13_Message; dsimp only
  generalize hQ1 : endQ st _ _ = Q0
  obtain ⟨b, hb⟩ : ∃ b, b = st.boxes.length := ⟨_, rfl⟩
  refine W_cut (fun E S => Kept st S ∧ At S b (mC md0 .nils) ∧ E 0 = .ptr b 0) ?_ ?_
  · simp (maxSteps := 1000000) (disch := omega) only [allocPV, ← hb, qabz, qajz, qalz, evOp, qarz, qatz, qavz,
 ↓reduceIte, List.append_nil, true_and, and_true]
    have h1 := Kept.box1 (st := st) (z := mC md0 .nils)
    have h2 := At.last (s := st) (z := mC md0 .nils) (T := st.toks) (Lp := st.loops) (lo := st.boxes.length)
    rw [← hb] at h1 h2
    exact ⟨h1, h2⟩
  rintro e S ⟨hk, hA, h0⟩
  have hp : buildCells [.str [], .str []] [(0, 1, .str [97, 64, 120]), (1, 1, .str [78, 69, 69, 68, 83, 45, 65, 67, 84, 73, 79, 78])] = some [.str [97, 64, 120], .str sNEE] := rfl
  have hl : litFill 2 (List.replicate 1 (.agg [.str [], .str []])) [(0, .agg [.str [97, 64, 120], .str sNEE])] = some (alM.att.map pV) := rfl
  have hm : buildCells [.str [], .str [], .int .i64 0, .int .i64 0, .int .i64 0, .str [], .nils, .int .i64 0, .int .i64 0, .str [], .str []] [(0, 1, .str [82, 69, 81, 85, 69, 83, 84]), (1, 1, .str [117]), (4, 1, .int .i64 (-1)), (5, 1, .str [111, 64, 120]), (6, 1, .sl 2 (.own S.toks.length) (alM.att.map pV)), (7, 1, .int .i64 0), (8, 1, .int .i64 60), (9, 1, .str [115])] = some (mC alM (.sl 2 (.own S.toks.length) (alM.att.map pV))) := rfl
  obtain ⟨S', a1, w1⟩ := At.stM (S := S.tok1) (m := alM) (m' := md0) (av := .sl 2 (.own S.toks.length) (alM.att.map pV)) (av' := .nils) hA rfl rfl
  rw [mV] at a1
  simp (maxSteps := 1000000) (disch := omega) only [h0, hp, hl, freshT_eq, hm, a1, qaaz, qabz, qaiz, qajz, qalz, evOp, qaoz, qapz, qarz, qatz, qauz, qavz,
 ↓reduceIte, List.map_cons, List.map_nil, Option.map_some, qazz, reduceCtorEq]
  rw [← hQ1, qblz]
  have hk' := w1.kp st hk.tok1 (by omega)
  refine ⟨.agg (mC alM (.sl 2 (.own S.toks.length) (alM.att.map pV))), ?_, ?_⟩
  · have := w1.at_.ldM
    simp only [resOf, rvAll, rv1, qavz, h0, Nat.reduceEqDiff, if_false, this]
    rfl
  · have := leave_msg (m := alM) hk' (pv := .sl 2 (.own S.toks.length) (alM.att.map pV)) (xs := alM.att.map pV) (.inr ⟨_, rfl, hk.tl, by rw [w1.tk]; simp [St.tok1]⟩) (fun h => by simp [alM] at h)
    rw [this]; rfl

theorem al_send : senderM alM = ([111, 64, 120], 0) := by decide +kernel
theorem al_check : checkM { { alM with me := sREP } with att := [] } = 131 := by decide +kernel
theorem al_ok : okMD alM := ⟨by decide, by decide, by decide, by decide, by decide, by decide, by decide⟩
theorem al_ok2 : okMD { { alM with me := sREP } with att := [] } := ⟨by decide, by decide, by decide, by decide, by decide, by decide, by decide⟩

set_option maxHeartbeats 4000000 in
theorem alive14_spec : call prog (.fn 175 []) [] st = some (.bool true, st) := by
  refine call_of_W prog_175 ?_
  unfold F_posthornlaw14_alive; dsimp only
  generalize hQ1 : endQ st _ _ = Q0
  have fin : ∀ (E : Env) (S : St), Kept st S → E 0 = .bool true → Q0 .ret E S := fun E S k h => by
    rw [← hQ1, qblz]; exact retB h k rfl
  refine W_cut (fun E S => Kept st S) ?_ ?_
  · simp (maxSteps := 1000000) (disch := omega) only [qabz, qajz, qalz, evOp, qapz, qarz, qatz, List.append_nil, true_and]
    exact Kept.start
  rintro e S hk
  obtain ⟨b, hb⟩ : ∃ b, b = S.boxes.length := ⟨_, rfl⟩
  have hle : st.boxes.length ≤ b := by have := hk.bl; omega
  refine W_cut (fun E S => ∃ pv, Kept st S ∧ At S b (mC alM pv) ∧ pv.vs 2 = some (alM.att.map pV) ∧ E 1 = .ptr b 0) ?_ ?_
  · obtain ⟨pv, c1, c2, c3, c4⟩ := Message_spec (st := S)
    have hA := At.last (s := S.tok1) (z := mC md0 .nils) (T := S.tok1.toks) (Lp := S.tok1.loops) (lo := S.tok1.low)
    have hb' : S.tok1.boxes.length = b := hb.symm
    rw [hb'] at hA
    obtain ⟨S', a1, w1⟩ := hA.stM (m := alM) (av := pv) c3 (c4 _)
    have a1' : storePV ⟨S.tok1.boxes ++ [[.str [], .str [], .int .i64 0, .int .i64 0, .int .i64 0, .str [], .nils, .int .i64 0, .int .i64 0, .str [], .str []]], S.tok1.toks, S.tok1.loops, S.tok1.low⟩ 11 (.ptr b 0) (mV alM pv) = some S' := a1
    simp (maxSteps := 1000000) (disch := omega) only [c1, allocPV, hb', a1', qabz, qajz, qalz, evOp, qaoz, qaqz, qarz, qatz, qauz, qavz,
 ↓reduceIte, Nat.reduceEqDiff, List.map_nil, Option.map_some, true_and, and_true]
    exact ⟨pv, w1.kp st hk.tok1.alloc' hle, w1.at_, c2⟩
  clear hb hk
  rintro e S ⟨pv, hk, hA, hv, h1⟩
  have hS := fun S : St => Sender_spec (st := S) hv al_ok
  rw [al_send] at hS
  refine W_cut (fun E S => Kept st S ∧ At S b (mC alM pv) ∧ E 1 = .ptr b 0 ∧ E 2 = .str [111, 64, 120] ∧ E 3 = .int .i64 0) ?_ ?_
  · simp (maxSteps := 1000000) (disch := omega) only [h1, hA.ldM, hS, qabz, qajz, qalz, evOp, qaoz, qaqz, qarz, qatz, qavz,
 ↓reduceIte, Nat.reduceEqDiff, List.map_cons, List.map_nil, Option.map_some, qcjz, List.getElem?_cons_zero, List.getElem?_cons_succ, true_and, and_true]
    exact ⟨hk, hA⟩
  clear hk hA h1 hS
  rintro e S ⟨hk, hA, h1, h2, h3⟩
  refine W_cut (fun E S => Kept st S ∧ At S b (mC { { alM with me := sREP } with att := [] } .nils) ∧ E 1 = .ptr b 0 ∧ E 2 = .str [111, 64, 120] ∧ E 3 = .int .i64 0) ?_ ?_
  · obtain ⟨S1, a1, w1⟩ := hA.stMe (x := sREP)
    obtain ⟨S2, a2, w2⟩ := w1.at_.stAt
    simp (maxSteps := 1000000) (disch := omega) only [h1, h2, h3, faP, Nat.zero_add, a1, a2, qabz, qajz, qalz, evOp, qaoz, qapz, qarz, qatz, qauz, qavz,
 ↓reduceIte, Nat.reduceEqDiff, Option.map_some, true_and, and_true]
    exact ⟨w2.kp st (w1.kp st hk hle) hle, w2.at_⟩
  clear hk hA h1 h2 h3
  rintro e S ⟨hk, hA, h1, h2, h3⟩
  have hC := fun S : St => Check_spec (st := S) (m := { { alM with me := sREP } with att := [] }) (av := .nils) (by simp [PV.vs]) al_ok2
  rw [al_check] at hC
  have hN : ∀ S : St, call prog (.fn 182 []) [.agg [.int .i64 1, .int .i64 0], .agg [.int .i64 0, .int .i64 9]] S = some (.bool true, S) := fun S => Newer_spec
  have hR : ∀ S : St, call prog (.fn 180 []) [.str [82, 69, 80, 76, 89]] S = some (.int .i64 2, S) := fun S => roleOf_spec
  have hb1 : buildCells [.int .i64 0, .int .i64 0] [(0, 1, .int .i64 1)] = some [.int .i64 1, .int .i64 0] := rfl
  have hb2 : buildCells [.int .i64 0, .int .i64 0] [(1, 1, .int .i64 9)] = some [.int .i64 0, .int .i64 9] := rfl
  have hlen : ∀ t, lenPV false (.sl 1 (.own t) (methL.map .str)) = some (.int .i64 8) := fun _ => rfl
  simp (maxSteps := 1000000) (disch := omega) only [h1, h2, h3, hA.ldM, hC, hN, hR, hb1, hb2, Methods_spec, hlen, qaaz, qabz, qaiz, qajz, qakz, qalz, qamz, qanz, evOp, qaoz, qapz, qaqz, qarz, qatz, qavz,
 ↓reduceIte, Nat.reduceEqDiff, List.map_cons, List.map_nil, Option.map_some, qazz, qbtz, qcbz, beq_true, decide_true]
  exact fin _ _ hk.tok1 rfl

end Go.Ab
/-
  The laws RulesRows, RulesSender, RulesOthers, RulesChecks, RulesSends.
-/
namespace Go.Ab
set_option maxRecDepth 20000
variable {st s : St} {e : Env} {m : MD} {av u : PV}

structure CheckOk (m : MD) : Prop where
  right : rightM m = true
  role : ¬ roleOf m.me = 0
  org : ¬ m.org = []
  lo : (needOf m.me).lo ≤ (m.att.length : Int)
  hi : (m.att.length : Int) ≤ (needOf m.me).hi
  part : ¬ partB m = true
  miss : ¬ (((needOf m.me).re = true ∧ m.recur < 0) ∨ ((needOf m.me).st = true ∧ m.sta < 0))
  more : ¬ ((needOf m.me).ti = true ∧ 0 ≤ m.sta)
theorem check_none {m : MD} {x : Bs} (hx : roleOf x = 0) : checkM { m with me := x } = 130 ∨ checkM { m with me := x } = 120 := by
  unfold checkM
  by_cases c : rightM { m with me := x } = false
  · rw [if_pos c]; exact .inr rfl
  · rw [if_neg c, if_pos hx]; exact .inl rfl
theorem role_none {x : Bs} (h : ∀ j, j < 8 → ¬ methL.getD j [] = x) : roleOf x = 0 := by
  have a0 := h 0 (by omega); have a1 := h 1 (by omega); have a2 := h 2 (by omega); have a3 := h 3 (by omega)
  have a4 := h 4 (by omega); have a5 := h 5 (by omega); have a6 := h 6 (by omega); have a7 := h 7 (by omega)
  simp only [methL, List.getD_cons_zero, List.getD_cons_succ] at a0 a1 a2 a3 a4 a5 a6 a7
  unfold roleOf
  rw [if_neg, if_neg]
  · simp only [roleA, Bool.or_eq_true, decide_eq_true_eq]
    rintro ((q | q) | q)
    · exact a6 q.symm
    · exact a5 q.symm
    · exact a2 q.symm
  · simp only [roleO, Bool.or_eq_true, decide_eq_true_eq]
    rintro ((((q | q) | q) | q) | q)
    · exact a4 q.symm
    · exact a7 q.symm
    · exact a0 q.symm
    · exact a1 q.symm
    · exact a3 q.symm

theorem meth_vs {t : Tok} : (PV.sl 1 t (methL.map .str)).vs 1 = some (methL.map .str) := by simp [PV.vs]
theorem meth_len {t : Tok} : lenPV false (.sl 1 t (methL.map .str)) = some (.int .i64 8) := rfl
theorem inB_m {n : Nat} (h : ∀ n, av.inB n = true) : (mV m av).inB n = true := by simp [mV, mC, PV.inB, PV.inB.inBAll, h]
theorem all_m (h : leafOk av = true) : (mC m av).all leafOk = true := by
  have l1 : ∀ x, leafOk (.str x) = true := fun _ => rfl
  have l2 : ∀ k n, leafOk (.int k n) = true := fun _ _ => rfl
  simp [mC, h, l1, l2]

set_option maxHeartbeats 8000000 in
theorem law_RulesOthers {x : Bs} (hv : av.vs 2 = some (m.att.map pV)) (hr : rwM m) (hx : x.length ≤ 9223372036854775807) : ∃ s', call prog (.fn 187 []) [mV m av, .str x] ⟨[], [], [], 0⟩ = some (.bool true, s') := by
  refine law_of_W prog_187 rfl ?_
  unfold F_posthornlaw14_RulesOthers; dsimp only
  have halv := fun S : St => alive14_spec (st := S)
  obtain ⟨st, hst⟩ : ∃ st : St, st = ⟨[], [], [], 0⟩ := ⟨_, rfl⟩
  have hst0 : st.boxes.length = 0 := by rw [hst]; rfl
  have hul := vs_leaf hv
  have hG := fun S : St => Great13_spec (st := S) hv hr
  have hib := fun n => inB_m (m := m) (n := n) hul.2
  have hal := all_m (m := m) hul.1
  refine W_cut (fun E S => Kept st S ∧ At S 0 (mC m av) ∧ E 1 = .str x ∧ E 2 = .ptr 0 0) ?_ ?_
  · simp (maxSteps := 1000000) (disch := omega) only [hib, hal, cells_m, allocPV, List.length_nil, qabz, qajz, qalz, evOp, qaoz, qapz, qarz, qatz, qavz,
 ↓reduceIte, Nat.reduceEqDiff, List.nil_append, qawz, qaxz, true_and, and_true]
    have h1 := Kept.box1 (st := st) (z := mC m av)
    have h2 := At.last (s := st) (z := mC m av) (T := st.toks) (Lp := st.loops) (lo := st.boxes.length)
    rw [hst] at h1 h2 ⊢
    exact ⟨h1, h2⟩
  rintro e S ⟨hk, hA, h1, h2⟩
  cases hg : greatM m with
  | true =>
    rw [hg] at hG
    simp (maxSteps := 1000000) (disch := omega) only [h2, hA.ldM, hG, halv, qaaz, qabz, qacz, qaiz, qajz, qakz, qalz, qamz, qanz, evOp, qaoz, qapz, qaqz, qarz, qatz, qavz,
 ↓reduceIte, Nat.reduceEqDiff, List.map_cons, List.map_nil, Option.map_some, qazz, qbaz, qbhz, beq_false, Bool.false_eq_true, and_true, reduceCtorEq, or_true, Bool.not_true]
  | false =>
  rw [hg] at hG
  obtain ⟨ok, -⟩ := great13_ok hg
  have hC := fun S : St => Check_spec (st := S) hv ok
  by_cases c1 : checkM m = 0
  case neg => simp (maxSteps := 1000000) (disch := omega) only [h2, hA.ldM, hG, hC, c1, halv, qaaz, qabz, qacz, qaiz, qajz, qakz, qalz, qamz, qanz, evOp, qaoz, qapz, qaqz, qarz, qatz, qavz,
 ↓reduceIte, Nat.reduceEqDiff, List.map_cons, List.map_nil, Option.map_some, qazz, qbaz, qbhz, qbuz, beq_false, decide_true, Bool.false_eq_true, and_true, reduceCtorEq, or_true, Bool.not_false, ne_eq, not_false_eq_true]
  rw [c1] at hC
  refine W_cut (fun E S => Kept st S ∧ At S 0 (mC m av) ∧ E 1 = .str x ∧ E 2 = .ptr 0 0) ?_ ?_
  · simp (maxSteps := 1000000) (disch := omega) only [h1, h2, hA.ldM, hG, hC, qaaz, qabz, qacz, qaez, qajz, qakz, qalz, qamz, qanz, evOp, qaoz, qapz, qaqz, qarz, qatz, qavz,
 ↓reduceIte, Nat.reduceEqDiff, List.map_cons, List.map_nil, Option.map_some, qazz, qbhz, qbuz, beq_false, decide_false,
 Bool.false_eq_true, true_and, and_true, Bool.not_false, ne_eq, not_true_eq_false]
    exact ⟨hk, hA⟩
  clear hk hA h1 h2 hG hC
  rintro e S ⟨hk, hA, h1, h2⟩
  refine W_cut (fun E S => (∃ t, E 5 = .sl 1 t (methL.map .str)) ∧ Kept st S ∧ At S 0 (mC m av) ∧ E 1 = .str x ∧ E 2 = .ptr 0 0) ?_ ?_
  · simp (maxSteps := 1000000) (disch := omega) only [h1, h2, Methods_spec, qabz, qajz, qalz, evOp, qaoz, qaqz, qarz, qatz, qavz,
 ↓reduceIte, Nat.reduceEqDiff, List.map_nil, true_and, and_true]
    exact ⟨⟨_, rfl⟩, hk.tok1, hA⟩
  clear hk hA h1 h2
  rintro e S ⟨⟨t, h5⟩, hk, hA, h1, h2⟩
  obtain ⟨Z, hZ⟩ : ∃ Z, Z = PV.sl 1 t (methL.map .str) := ⟨_, rfl⟩
  have hzv : Z.vs 1 = some (methL.map .str) := by rw [hZ]; exact meth_vs
  have hzl : lenPV false Z = some (.int .i64 8) := by rw [hZ]; exact meth_len
  rw [← hZ] at h5
  refine W_cutR (fun E S => Kept st S ∧ At S 0 (mC m av) ∧ E 1 = .str x ∧ E 2 = .ptr 0 0 ∧ ∀ j, j < 8 → ¬ methL.getD j [] = x) ?_ ?_
  · simp (maxSteps := 1000000) (disch := omega) only [qaaz, qabz, qadz, qajz, qalz, evOp, qapz, qarz, qatz, qazz, true_and, reduceCtorEq, or_true]
    obtain ⟨I, hI⟩ : ∃ I : Nat → Env → St → Prop, I = fun k E S => ∃ i : Nat, k = 8 - i ∧ i ≤ 8 ∧ Kept st S ∧ At S 0 (mC m av) ∧ E 1 = .str x ∧ E 2 = .ptr 0 0 ∧ (∀ j, j < i → ¬ methL.getD j [] = x) ∧ E 5 = Z ∧ E 6 = .int .i64 (i : Int) := ⟨_, rfl⟩
    refine W_loop I ?_ (n := 8) (by
      rw [hI]; exact ⟨0, rfl, by omega, hk, hA, h1, h2, fun j h => by omega, h5, rfl⟩)
    clear hk hA h1 h2 h5
    intro k E S hh
    rw [hI] at hh
    obtain ⟨i, rfl, hi, hk, hA, h1, h2, hall, h5, h6⟩ := hh
    by_cases hlt : i < 8
    · have hlt' : (i : Int) < 8 := by omega
      have hia := iaddr_t (k := .i64) (c := (i : Int)) hzv (by omega) (by rw [Int.toNat_natCast]; exact hlt)
      rw [Int.toNat_natCast] at hia
      by_cases q : methL.getD i [] = x
      · simp (maxSteps := 1000000) (disch := omega) only [h1, h2, h5, h6, hzl, hlt', hia, eq_true q, halv, qaaz, qabz, qacz, qadz, qaez, qaiz, qajz, qalz, evOp, qaoz, qaqz, qarz, qatz, qavz,
 ↓reduceIte, Nat.reduceEqDiff, List.map_nil, Option.map_some, qazz, qbaz, qbez, qbhz, qbiz, qbpz, qcbz, qciz, decide_true, true_and, and_true, reduceCtorEq, or_true]
      · simp (maxSteps := 1000000) (disch := omega) only [h1, h5, h6, hzl, hlt', hia, q, add_n, loopQ_normal, qaaz, qabz, qacz, qadz, qaez, qajz, qalz, evOp, qaoz, qapz, qarz, qatz, qavz,
 ↓reduceIte, Nat.reduceEqDiff, Option.map_some, qazz, qbdz, qbhz, qbpz, qcbz, qciz, decide_true, decide_false,
 Bool.false_eq_true, Int.reduceToNat]
        refine ⟨8 - (i + 1), by omega, ?_⟩
        rw [hI]
        refine ⟨i + 1, rfl, by omega, hk, hA, h1, h2, fun j hj => ?_, h5, rfl⟩
        by_cases hji : j = i
        · subst hji; exact q
        · exact hall j (by omega)
    · obtain rfl : i = 8 := by omega
      simp (maxSteps := 1000000) (disch := omega) only [h1, h2, h5, h6, hzl, qaaz, qabz, qacz, qadz, qaez, qagz, qajz, qalz, evOp, qaoz, qarz, qatz, qavz,
 ↓reduceIte, Nat.reduceEqDiff, Option.map_some, qazz, qbbz, qbfz, qbhz, qbjz, qbpz, decide_eq_true_eq, true_and, reduceCtorEq]
      exact .inl ⟨hk, hA, hall⟩
  clear hk hA h1 h2 h5
  rintro e S ⟨hk, hA, h1, h2, hall⟩
  have hr0 := role_none hall
  refine W_cut (fun E S => Kept st S ∧ At S 0 (mC { m with me := x } av) ∧ E 1 = .str x ∧ E 2 = .ptr 0 0) ?_ ?_
  · obtain ⟨S1, a1, w1⟩ := hA.stMe (x := x)
    simp (maxSteps := 1000000) (disch := omega) only [h1, h2, faP, Nat.zero_add, a1, qabz, qajz, qalz, evOp, qaoz, qarz, qatz, qauz, qavz,
 ↓reduceIte, Nat.reduceEqDiff, Option.map_some, true_and, and_true]
    exact ⟨w1.kp st hk (by omega), w1.at_⟩
  clear hk hA h1 h2
  rintro e S ⟨hk, hA, h1, h2⟩
  have hRo := fun S : St => roleOf_spec (st := S) (l := x)
  rw [hr0] at hRo
  have okx : okMD { m with me := x } := ⟨hx, ok.uid, ok.org, ok.sum, ok.com, ok.n, ok.a⟩
  have hC2 := fun S : St => Check_spec (st := S) (m := { m with me := x }) hv okx
  rcases check_none (m := m) hr0 with c2 | c2
  · rw [c2] at hC2
    simp (maxSteps := 1000000) (disch := omega) only [h1, h2, hA.ldM, hC2, halv, hRo, qaaz, qabz, qaiz, qajz, qakz, qalz, qamz, qanz, evOp, qaoz, qapz, qaqz, qarz, qatz, qavz,
 ↓reduceIte, Nat.reduceEqDiff, List.map_cons, List.map_nil, Option.map_some, qazz, qbtz, beq_true, beq_false, decide_true, Bool.false_eq_true, and_true, reduceCtorEq, or_true, Bool.not_true]
  · rw [c2] at hC2
    simp (maxSteps := 1000000) (disch := omega) only [h1, h2, hA.ldM, hC2, halv, hRo, qaaz, qabz, qaiz, qajz, qakz, qalz, qamz, qanz, evOp, qaoz, qapz, qaqz, qarz, qatz, qavz,
 ↓reduceIte, Nat.reduceEqDiff, List.map_cons, List.map_nil, Option.map_some, qazz, qbtz, beq_true, beq_false, decide_true, decide_false,
 Bool.false_eq_true, and_true, reduceCtorEq, or_true, Bool.not_false, Int.reduceEq]

end Go.Ab
/-
  Messages and marks that come as arguments.
-/
namespace Go.Ab
set_option maxRecDepth 20000

def isI64 (P : Program) (t : TypeId) : Bool := match P.underlying t with
  | some (.int .i64) => true
  | _ => false
theorem isI64_eq {P : Program} {t : TypeId} (h : isI64 P t = true) : P.underlying t = some (.int .i64) := by
  unfold isI64 at h
  split at h
  · rename_i h'; exact h'
  · cases h
def msgT (P : Program) (t el : TypeId) : Bool := match fieldsT P t with
  | some fs => match fs.toList with
    | [f0, f1, f2, f3, f4, f5, f6, f7, f8, f9, f10] => isStrT P f0.type && isStrT P f1.type && isI64 P f2.type && isI64 P f3.type && isI64 P f4.type && isStrT P f5.type && (sliceElem P f6.type == some el) && isI64 P f7.type && isI64 P f8.type && isStrT P f9.type && isStrT P f10.type && strs2 P el && (P.cellsOf el == 2)
    | _ => false
  | none => false
theorem HasTy.msg {P : Program} {t el : TypeId} {q : PV} (h : HasTy P t q) (hs0 : msgT P t el = true) : ∃ (m : MD) (av : PV), q = mV m av ∧ av.vs 2 = some (m.att.map pV) ∧ rwM m := by
  unfold msgT fieldsT at hs0
  obtain ⟨fs, ht⟩ : ∃ fs, P.underlying t = some (.struct fs) := by
    cases ht : P.underlying t with
    | none => simp [ht] at hs0
    | some d => cases d <;> first | exact ⟨_, rfl⟩ | (simp [ht] at hs0; done)
  simp only [ht] at hs0
  obtain ⟨fl⟩ := fs
  match fl, hs0, ht with
  | [f0, f1, f2, f3, f4, f5, f6, f7, f8, f9, f10], hs0, ht =>
    simp only [Bool.and_eq_true, beq_iff_eq] at hs0
    obtain ⟨⟨⟨⟨⟨⟨⟨⟨⟨⟨⟨⟨s0, s1⟩, s2⟩, s3⟩, s4⟩, s5⟩, s6⟩, s7⟩, s8⟩, s9⟩, s10⟩, se⟩, sc⟩ := hs0
    have hu6 : P.underlying f6.type = some (.slice el) := by
      unfold sliceElem at s6
      split at s6
      · rename_i e' he; rw [he]; cases s6; rfl
      · cases s6
    have hR : reachBytes ≤ 4000000000000000000 := by decide
    have hM : maxLen ≤ 9223372036854775807 := by decide
    cases h with
    | agg xs ht' hl hx =>
      rw [ht] at ht'; cases ht'
      match xs, hl, hx with
      | [x0, x1, x2, x3, x4, x5, x6, x7, x8, x9, x10], _, hx =>
        obtain ⟨a0, rfl, g0⟩ := HasTy.strR (hx 0 f0 x0 rfl rfl) (isStrT_eq s0)
        obtain ⟨a1, rfl, g1⟩ := HasTy.strR (hx 1 f1 x1 rfl rfl) (isStrT_eq s1)
        obtain ⟨a2, rfl, -⟩ := HasTy.int' (hx 2 f2 x2 rfl rfl) (isI64_eq s2) (by decide)
        obtain ⟨a3, rfl, -⟩ := HasTy.int' (hx 3 f3 x3 rfl rfl) (isI64_eq s3) (by decide)
        obtain ⟨a4, rfl, -⟩ := HasTy.int' (hx 4 f4 x4 rfl rfl) (isI64_eq s4) (by decide)
        obtain ⟨a5, rfl, g5⟩ := HasTy.strR (hx 5 f5 x5 rfl rfl) (isStrT_eq s5)
        obtain ⟨l, l1, l2, l3⟩ := HasTy.twos (hx 6 f6 x6 rfl rfl) hu6 sc se
        obtain ⟨a7, rfl, -⟩ := HasTy.int' (hx 7 f7 x7 rfl rfl) (isI64_eq s7) (by decide)
        obtain ⟨a8, rfl, -⟩ := HasTy.int' (hx 8 f8 x8 rfl rfl) (isI64_eq s8) (by decide)
        obtain ⟨a9, rfl, g9⟩ := HasTy.strR (hx 9 f9 x9 rfl rfl) (isStrT_eq s9)
        obtain ⟨a10, rfl, g10⟩ := HasTy.strR (hx 10 f10 x10 rfl rfl) (isStrT_eq s10)
        have e6 : x6.cells = [x6] := by rcases vs_cases l1 with ⟨rfl, _⟩ | ⟨t, rfl⟩ <;> rfl
        refine ⟨⟨a0, a1, a2, a3, a4, a5, l, a7, a8, a9, a10⟩, x6, ?_, l1, ⟨by simp only; omega, by simp only; omega, by simp only; omega, by simp only; omega, by simp only; omega, by simp only; omega, fun p hp => ?_⟩⟩
        · simp only [flat, List.flatMap_cons, List.flatMap_nil, e6]; rfl
        · obtain ⟨b1, b2⟩ := l2 p hp
          exact ⟨by omega, by omega⟩
    | bool _ ht' => rw [ht] at ht'; cases ht'
    | int _ ht' => rw [ht] at ht'; cases ht'
    | u8 _ ht' => rw [ht] at ht'; cases ht'
    | str _ ht' => rw [ht] at ht'; cases ht'
    | nils ht' => rw [ht] at ht'; cases ht'
    | bys _ ht' => rw [ht] at ht'; cases ht'
    | sl _ ht' => rw [ht] at ht'; cases ht'

def markT (P : Program) (t : TypeId) : Bool := match fieldsT P t with
  | some fs => match fs.toList with
    | [f0, f1] => isI64 P f0.type && isI64 P f1.type
    | _ => false
  | none => false
theorem HasTy.mark {P : Program} {t : TypeId} {q : PV} (h : HasTy P t q) (hs0 : markT P t = true) : ∃ a b : Int, q = mkV a b := by
  unfold markT fieldsT at hs0
  obtain ⟨fs, ht⟩ : ∃ fs, P.underlying t = some (.struct fs) := by
    cases ht : P.underlying t with
    | none => simp [ht] at hs0
    | some d => cases d <;> first | exact ⟨_, rfl⟩ | (simp [ht] at hs0; done)
  simp only [ht] at hs0
  obtain ⟨fl⟩ := fs
  match fl, hs0, ht with
  | [f0, f1], hs0, ht =>
    simp only [Bool.and_eq_true] at hs0
    obtain ⟨s0, s1⟩ := hs0
    cases h with
    | agg xs ht' hl hx =>
      rw [ht] at ht'; cases ht'
      match xs, hl, hx with
      | [x0, x1], _, hx =>
        obtain ⟨a0, rfl, -⟩ := HasTy.int' (hx 0 f0 x0 rfl rfl) (isI64_eq s0) (by decide)
        obtain ⟨a1, rfl, -⟩ := HasTy.int' (hx 1 f1 x1 rfl rfl) (isI64_eq s1) (by decide)
        exact ⟨a0, a1, rfl⟩
    | bool _ ht' => rw [ht] at ht'; cases ht'
    | int _ ht' => rw [ht] at ht'; cases ht'
    | u8 _ ht' => rw [ht] at ht'; cases ht'
    | str _ ht' => rw [ht] at ht'; cases ht'
    | nils ht' => rw [ht] at ht'; cases ht'
    | bys _ ht' => rw [ht] at ht'; cases ht'
    | sl _ ht' => rw [ht] at ht'; cases ht'
end Go.Ab
/-
  The laws of rules with arguments as they come.
-/
namespace Go.Ab
variable {P : Program} {t el : TypeId} {q q' : PV} {x : Bs}

theorem max_lt {x : Bs} (hx : x.length ≤ maxLen) : x.length ≤ 9223372036854775807 := Nat.le_trans hx (by decide)
theorem arg_RulesOthers (h : HasTy P t q) (hs : msgT P t el = true) (hx : x.length ≤ maxLen) : ∃ s', call prog (.fn 187 []) [q, .str x] ⟨[], [], [], 0⟩ = some (.bool true, s') := by
  obtain ⟨m, av, rfl, hv, hr⟩ := HasTy.msg h hs
  exact law_RulesOthers hv hr (max_lt hx)
end Go.Ab
/-
  The library's searches as primitives, out of the shelf's contracts.
-/
namespace Go.Ab
open Go.Shelf Go.Proofs
variable {P : Program} {g : GMap} {ρ : Go.Shelf.Ren}

end Go.Ab
/-
  A Builder's text: the walk of the library's function, its end said whole (after the shelf's own proof).
-/
namespace Go.Proofs
open Go.Shelf Go.RowKit
variable {P : Program} {ρ : Ren}

structure CCLay (P : Program) (ρ : Ren) : Prop where
  mixed : P.follows .mixedOrders = true
  f240 : P.funcs[ρ.f 240]? = some (Body.n240 ρ)
  f276 : P.funcs[ρ.f 276]? = some (Body.n276 ρ)
  t4 : P.underlying (ρ.t 4) = some (TypeDesc.bool)
  a4 : ∀ w, (isAgg (ρ.t 4)).run P w = .ok false w
  z4 : ∀ w, (Go.sizeOf (ρ.t 4)).run P w = .ok 1 w
  v4 : ∀ w, (zeroValue (ρ.t 4)).run P w = .ok (Value.bool false) w
  t70 : P.underlying (ρ.t 70) = some (TypeDesc.pointer (ρ.t 72))
  a70 : ∀ w, (isAgg (ρ.t 70)).run P w = .ok false w
  z70 : ∀ w, (Go.sizeOf (ρ.t 70)).run P w = .ok 1 w
  v70 : ∀ w, (zeroValue (ρ.t 70)).run P w = .ok (Value.pointer none) w
  t72 : P.underlying (ρ.t 72) = some (TypeDesc.struct #[{ name := "addr", type := ρ.t 70, offset := 0, embedded := false, tag := "", pkgPath := "strings", byteOffset := 0 }, { name := "buf", type := ρ.t 37, offset := 1, embedded := false, tag := "", pkgPath := "strings", byteOffset := 8 }])
  a72 : ∀ w, (isAgg (ρ.t 72)).run P w = .ok true w
  z72 : ∀ w, (Go.sizeOf (ρ.t 72)).run P w = .ok 2 w
  v72 : ∀ w, (zeroValue (ρ.t 72)).run P w = .ok (Value.agg #[Value.pointer none, Value.slice none 0 0]) w
  t164 : P.underlying (ρ.t 164) = some (TypeDesc.unsafePointer)
  a164 : ∀ w, (isAgg (ρ.t 164)).run P w = .ok false w
  z164 : ∀ w, (Go.sizeOf (ρ.t 164)).run P w = .ok 1 w
  v164 : ∀ w, (zeroValue (ρ.t 164)).run P w = .ok (Value.pointer none) w

end Go.Proofs
/-
  The library's functions on texts as primitives, out of the shelf's contracts.
-/
namespace Go.Ab
open Go.Shelf Go.Proofs
variable {P : Program} {g : GMap} {ρ : Go.Shelf.Ren}

theorem primStrIndex (L : Lays.n219 P ρ) (hm : ∀ κ, g.inv κ → ∃ m, κ.C (ρ.g 1) 0 = some (.int .i64 m)) {pf : Func} (hpf : P.funcs[ρ.f 219]? = some pf) (hb : pf.body.isSome = true) (hn : pf.name ≠ "runtime.NumGoroutine") : PrimOK P g (ρ.f 219) pStrIndex := by
  refine prim_of_calls hpf hb hn (fun κ w args ps v hi hC hsz hargs hp => ?_)
  obtain ⟨m, hm⟩ := hm κ hi
  have hmc := hC _ _ _ hm
  unfold pStrIndex at hp
  split at hp
  · rename_i a b
    split at hp
    · rename_i hlen
      cases hp
      obtain ⟨u1, u2, rfl⟩ : ∃ u1 u2, args = #[u1, u2] := by
        obtain ⟨l⟩ := args
        match l, hsz with
        | [u1, u2], _ => exact ⟨u1, u2, rfl⟩
      have r1 := hargs 0 u1 _ rfl rfl
      have r2 := hargs 1 u2 _ rfl rfl
      cases r1 with | str sa _ ha => cases r2 with | str sb _ hb =>
      refine (Any.stringslite_Index L sa sb m w (by rw [← ha] at hlen; simpa using hlen) hmc).mono ?_
      rintro e w' ⟨rfl, rfl⟩
      exact ⟨_, rfl, fun κ' => by rw [ha, hb]; exact .int .i64 _ (by decide), rfl, rfl, rfl, rfl⟩
    · cases hp
  · cases hp

theorem primStrIndexByte (L : Lays.n137 P ρ) {pf : Func} (hpf : P.funcs[ρ.f 137]? = some pf) (hb : pf.body.isSome = true) (hn : pf.name ≠ "runtime.NumGoroutine") : PrimOK P g (ρ.f 137) pStrIndexByte := by
  refine prim_of_calls hpf hb hn (fun κ w args ps v hi hC hsz hargs hp => ?_)
  unfold pStrIndexByte at hp
  split at hp
  · rename_i a c
    cases hp
    obtain ⟨u1, u2, rfl⟩ : ∃ u1 u2, args = #[u1, u2] := by
      obtain ⟨l⟩ := args
      match l, hsz with
      | [u1, u2], _ => exact ⟨u1, u2, rfl⟩
    have r1 := hargs 0 u1 _ rfl rfl
    have r2 := hargs 1 u2 _ rfl rfl
    cases r1 with | str sa _ ha => cases r2 with | b8 _ n hn =>
    refine (Any.strings_IndexByte L sa n w).mono ?_
    rintro e w' ⟨rfl, rfl⟩
    refine ⟨_, rfl, fun κ' => ?_, rfl, rfl, rfl, rfl⟩
    have : n.toNat.toUInt8 = c := by rw [hn]; simp
    rw [ha, this]; exact .int .i64 _ (by decide)
  · cases hp

theorem SR.kill {base : Nat} {κ : K} {w w' : World} {st : St} (h : SR P g base κ w st) {i blk e ce : Nat} {rs : Array Value} {el : TypeId} {fz fz' : Nat × Nat} (hi : st.toks[i]? = some true) (hτ : κ.τ[i]? = some (blk, e, ce))
    (hw : w.heap[blk]? = some (.cells rs el fz)) (hw' : w'.heap = (setBlk w blk rs el fz').heap) : SR P g base κ w' { st with toks := st.toks.set i false } := by
  have hk := h.tk i blk e ce hi hτ
  suffices hs : SR P g base κ (setBlk w blk rs el fz') { st with toks := st.toks.set i false } from hs.heap hw'
  have hcell : ∀ b i, (setBlk w blk rs el fz').cell? ⟨b, i, none⟩ = w.cell? ⟨b, i, none⟩ := fun b i => by
    by_cases hb : b = blk
    · subst hb
      have hlt := (Array.getElem?_eq_some_iff.1 hw).1
      have h2 : (setBlk w b rs el fz').heap[b]? = some (.cells rs el fz') := by simp [setBlk, hlt]
      simp only [World.cell?]
      rw [h2, hw]
    · exact cell_setBlk_other hb
  have hobj : ∀ (k : Nat) (o : Obj), w.heap[k]? = some o → isCells o = false → (setBlk w blk rs el fz').heap[k]? = some o := fun k o ho hc => by
    rw [setBlk_other]
    · exact ho
    · rintro rfl; rw [hw] at ho; cases ho; simp [isCells] at hc
  have hset : ∀ j : Nat, (st.toks.set i false)[j]? = some true → st.toks[j]? = some true ∧ j ≠ i := fun j hj => by
    by_cases hji : j = i
    · subst hji
      rw [List.getElem?_set] at hj
      simp at hj
    · rw [List.getElem?_set_ne (fun h => hji h.symm)] at hj
      exact ⟨hj, hji⟩
  refine { cC := fun b i v hc => by rw [hcell]; exact h.cC b i v hc, sh := fun b t hb => (h.sh b t hb).imp fun n hn => (by rw [shape_setBlk hw rfl]; exact hn), bl := h.bl, bn := h.bn, mx := fun b k cs h1 h2 hm => (h.mx b k cs h1 h2 hm).setBlk hw, mz := h.mz, bx := fun b k cs h1 h2 hm => ?_, tl := by simp [h.tl], tk := fun j k e ce h1 h2 => ?_,
           td := fun a b ba ea ca bb eb cb h1 h2 h3 h4 h5 => h.td a b ba ea ca bb eb cb (hset a h1).1 (hset b h2).1 h3 h4 h5, ll := h.ll, ln := h.ln, lb := h.lb, lp := fun k l D r h1 h2 => (h.lp k l D r h1 h2).mono (K.le.refl _) hobj, hb := by simpa [setBlk] using h.hb, gv := h.gv }
  · have hx := h.bx b k cs h1 h2 hm
    have hne : k ≠ blk := by rintro rfl; exact hk.nb (List.mem_of_getElem? h2)
    obtain ⟨rs', hc, h3, h4⟩ := hx.ex
    exact ⟨hx.ge, hx.nc, ⟨rs', hc.congr (setBlk_other hne), h3, h4⟩, hx.lf, hx.lw, fun hm => by rw [← hx.sb hm]; exact shape_congr (setBlk_other hne)⟩
  · obtain ⟨q1, q2⟩ := hset j h1
    have hx := h.tk j k e ce q1 h2
    have hne : k ≠ blk := h.td j i k e ce blk _ _ q1 hi h2 hτ q2
    obtain ⟨rs', hc, h3⟩ := hx.ex
    exact ⟨hx.ge, hx.nb, hx.nc, ⟨rs', hc.congr (setBlk_other hne), h3⟩⟩

end Go.Ab
/-
  strings.Split as a primitive: a new row of texts.
-/
namespace Go.Ab
open Go.Shelf Go.Proofs
variable {P : Program} {g : GMap} {ρ : Go.Shelf.Ren} {base : Nat}

theorem prim_of_lays {f' : FuncId} {p : List PV → Option PV} {pf : Func} (hpf : P.funcs[f']? = some pf) (hb : pf.body.isSome = true) (hn : pf.name ≠ "runtime.NumGoroutine")
    (h : ∀ (κ : K) (w : World) (args : Array Value) (ps : List PV) (v : PV), g.inv κ → (∀ b i v, κ.C b i = some v → w.cell? ⟨b, i, none⟩ = some v) → args.size = ps.length → (∀ (i : Nat) (u : Value) (q : PV), args[i]? = some u → ps[i]? = some q → R g κ u q) → p ps = some v →
      ∃ (z : Value) (rs : Array Value) (el : TypeId), Calls P f' args w (fun e w' => e = .returned z ∧ w' = w.alloc (.cells rs el)) ∧ R g (κ.addC w.heap.size fun i => rs[i]?) z v) : PrimOK P g f' p := by
  intro base κ w st args ps v hsr hsz hargs hp F hF nn o a next Q hnext
  have hrun : (callFunc f' args).run P w = .ok (.enter f' args) w := by
    have hb2 : pf.body.isNone = false := by
      cases hbb : pf.body with
      | none => rw [hbb] at hb; cases hb
      | some c => rfl
    have hn2 : (pf.name == "runtime.NumGoroutine") = false := by simpa using hn
    unfold callFunc
    simp only [Sem.run_bind, Go.program, Sem.run, Result.andThen, hpf, hn2, hb2]
    rfl
  rw [hrun]
  refine ⟨hF.deep, callsIn_of_calls hF ?_⟩
  obtain ⟨z, rs, el, hc, hr⟩ := h κ w args ps v hsr.gv hsr.cC hsz hargs hp
  refine hc.mono ?_
  rintro e w' ⟨rfl, rfl⟩
  obtain ⟨hle, hs⟩ := hsr.addC (w' := w.alloc (.cells rs el)) rs el (0, 0) rfl
  exact hnext _ z _ hle rfl hs hr (Fr.push hsr.hb rfl rfl rfl rfl)

theorem occ_one {c : UInt8} {s : List UInt8} {j : Nat} : Lib.occAt s [c] j = true → s[j]? = some c := fun h => Lib.occAt_head rfl h
theorem index_one_cases (c : UInt8) (s : List UInt8) : (c ∉ s ∧ Lib.index s [c] = -1) ∨ ∃ n r, s = n ++ c :: r ∧ c ∉ n ∧ Lib.index s [c] = n.length := by
  rcases Lib.index_spec s [c] with ⟨h1, h2⟩ | ⟨i, h1, h2, h3, h4⟩
  · refine .inl ⟨fun hm => ?_, h1⟩
    obtain ⟨j, hj, e⟩ := List.mem_iff_getElem.1 hm
    have := h2 j (by omega)
    rw [Lib.occAt_iff_take _ _ _ (by simp; omega)] at this
    rw [List.drop_eq_getElem_cons hj] at this
    simp [e] at this
  · have hi := occ_one h3
    have hlt := (List.getElem?_eq_some_iff.1 hi).1
    have he := (List.getElem?_eq_some_iff.1 hi).2
    refine .inr ⟨s.take i, s.drop (i + 1), ?_, fun hm => ?_, ?_⟩
    · rw [← he, ← List.drop_eq_getElem_cons hlt, List.take_append_drop]
    · obtain ⟨j, hj, e⟩ := List.mem_iff_getElem.1 hm
      simp only [List.length_take] at hj
      simp only [List.getElem_take] at e
      have := h4 j (by omega)
      rw [Lib.occAt_iff_take _ _ _ (by simp; omega)] at this
      rw [List.drop_eq_getElem_cons (show j < s.length by omega)] at this
      simp [e] at this
    · rw [h1]; simp; omega
theorem splitOn_none {c : UInt8} : ∀ (n acc : List UInt8), c ∉ n → splitOn c acc n = [acc ++ n] := by
  intro n
  induction n with
  | nil => intro acc _; simp [splitOn]
  | cons d n ih =>
    intro acc h
    simp only [List.mem_cons, not_or] at h
    rw [splitOn, if_neg (fun e => h.1 e.symm), ih _ h.2]; simp
theorem splitOn_hit {c : UInt8} {r : List UInt8} : ∀ (n acc : List UInt8), c ∉ n → splitOn c acc (n ++ c :: r) = (acc ++ n) :: splitOn c [] r := by
  intro n
  induction n with
  | nil => intro acc _; simp [splitOn]
  | cons d n ih =>
    intro acc h
    simp only [List.mem_cons, not_or] at h
    rw [List.cons_append, splitOn, if_neg (fun e => h.1 e.symm), ih _ h.2]; simp
theorem splitK_on {c : UInt8} : ∀ (f : Nat) (s : List UInt8), s.length < f → Lib.splitK [c] 0 (Lib.countFrom [c] f s) s = splitOn c [] s := by
  intro f
  induction f with
  | zero => intro s h; omega
  | succ f ih =>
    intro s h
    rcases index_one_cases c s with ⟨h1, h2⟩ | ⟨n, r, h1, h2, h3⟩
    · rw [splitOn_none s [] h1]
      simp [Lib.countFrom, h2, Lib.splitK]
    · have hne : (Lib.index s [c] == -1) = false := by rw [h3, beq_eq_false_iff_ne]; omega
      have hd : s.drop (n.length + 1) = r := by rw [h1, ← List.drop_drop, List.drop_left]; rfl
      have ht : s.take n.length = n := by rw [h1, List.take_left]
      have hc : Lib.countFrom [c] (f + 1) s = Lib.countFrom [c] f r + 1 := by
        simp only [Lib.countFrom, hne]
        rw [h3]
        simp only [Int.toNat_natCast, List.length_singleton, hd]
        simp; omega
      have hl := congrArg List.length h1
      simp only [List.length_append, List.length_cons] at hl
      rw [hc, Lib.splitK, hne, h3]
      simp only [Int.toNat_natCast, List.length_singleton, Nat.add_zero, ht, hd]
      rw [ih r (by omega), h1, splitOn_hit n [] h2]
      simp
theorem primStrSplit (L : Lays.n146 P ρ) (hi9 : (P.info? (ρ.t 9)).map (fun i => (i.zero, i.size, i.bytes)) = some (some (.string ByteArray.empty), 1, 16)) (hm : ∀ κ, g.inv κ → ∃ m, κ.C (ρ.g 1) 0 = some (.int .i64 m)) {pf : Func} (hpf : P.funcs[ρ.f 146]? = some pf) (hb : pf.body.isSome = true) (hn : pf.name ≠ "runtime.NumGoroutine") : PrimOK P g (ρ.f 146) pStrSplit := by
  refine prim_of_lays hpf hb hn (fun κ w args ps v hi hC hsz hargs hp => ?_)
  obtain ⟨m, hm⟩ := hm κ hi
  have hmc := hC _ _ _ hm
  unfold pStrSplit at hp
  split at hp
  · rename_i a c
    split at hp
    · rename_i hlen
      cases hp
      obtain ⟨u1, u2, rfl⟩ : ∃ u1 u2, args = #[u1, u2] := by
        obtain ⟨l⟩ := args
        match l, hsz with
        | [u1, u2], _ => exact ⟨u1, u2, rfl⟩
      have r1 := hargs 0 u1 _ rfl rfl
      have r2 := hargs 1 u2 _ rfl rfl
      cases r1 with | str sa _ ha => cases r2 with | str sb _ hb2 =>
      have hsa : sa.size = a.length := by rw [← ha]; simp
      have hsb : sb.size = 1 := by
        have := congrArg List.length hb2
        simpa using this
      refine ⟨_, _, _, Any.strings_Split L hi9 sa sb m w (by omega) hmc (by omega), ?_⟩
      -- the pieces
      obtain ⟨bs, hbs⟩ : ∃ bs, bs = Lib.splitB sb 0 (Lib.countB sa sb) sa := ⟨_, rfl⟩
      have hdat : bs.map (·.data.toList) = splitOn c [] a := by
        rw [hbs, Lib.splitB_data, hb2, ha]
        have hcnt : Lib.countB sa sb = Lib.countFrom [c] (a.length + 1) a := by
          show Lib.count sa.data.toList sb.data.toList = _
          rw [hb2, ha]; rfl
        rw [hcnt]
        exact splitK_on _ _ (by omega)
      have hlenb : bs.length = Lib.countB sa sb + 1 := by rw [hbs]; exact Lib.splitB_all sb (by omega) 0 _ sa rfl
      have hlen2 : (splitOn c [] a).length = bs.length := by rw [← hdat]; simp
      rw [← hbs, ← hlenb]
      have hflat : flat ((splitOn c [] a).map PV.str) = (splitOn c [] a).map PV.str := by
        generalize splitOn c [] a = xs
        induction xs with
        | nil => rfl
        | cons x xs ih => simp only [List.map_cons, flat, List.flatMap_cons, PV.cells] at ih ⊢; rw [ih]; rfl
      have hgetR : ∀ (i : Nat) (v : Value) (p : PV), (bs.map Value.string)[i]? = some v → ((splitOn c [] a).map PV.str)[i]? = some p → ∀ κ', R g κ' v p := by
        intro i v p h1 h2 κ'
        rw [← hdat] at h2
        simp only [List.getElem?_map, Option.map_eq_some_iff] at h1 h2
        obtain ⟨b, e1, rfl⟩ := h1
        obtain ⟨y, ⟨b2, e2, rfl⟩, rfl⟩ := h2
        rw [e1] at e2; cases e2
        exact .str b _ rfl
      refine .sl w.heap.size 0 bs.length bs.length 1 .no _ (bs.map Value.string) (by simp [hlen2]) (Nat.le_refl _) (fun x hx => ?_) (by rw [hflat]; simp [hlen2]) (fun i v hv => ?_) (fun i v p h1 h2 => ?_) ?_ ?_ trivial
      · obtain ⟨y, _, rfl⟩ := List.mem_map.1 hx; rfl
      · have hne : (bs.map Value.string).toArray[i]? = some v := by simpa using hv
        simp only [K.addC, Nat.zero_add, if_pos]
        rw [hne]
      · rw [hflat] at h2; exact hgetR i v p h1 h2 _
      · generalize splitOn c [] a = xs
        induction xs with
        | nil => rfl
        | cons x xs ih => simp [dataAll, PV.data, ih]
      · rw [hflat, List.all_eq_true]
        intro x hx
        obtain ⟨y, _, rfl⟩ := List.mem_map.1 hx; rfl
    · cases hp
  · cases hp
end Go.Ab
/-
  A row that lists variables: the wrap, the world's shape and what the listed variables hold kept.
-/
namespace Go.Ab
open Go
variable {H : Type} {enc : TypeId × Value → H}

theorem returns_laid_shaped {a : Assume} {C : Checked} {os : Os} {f : FuncId} {fn : Func} {s : ChangeSpec} {conds : List PathCond} {apart fresh handsOn again : Bool} (X : World → Prop) (hX : ∀ w w' : World, w.heap = w'.heap → X w → X w')
    (own : ownKnob C.prog.godebug = none) (started : os.Started) (noInit : C.prog.inits.idxOf? f = none) (hfn : C.prog.funcs[f]? = some fn)
    (witness : ∃ (w : World) (tape : Tape) (i : Input), w.os = os ∧ (w.forCall tape i).Shaped C.prog ∧ i.vars = [] ∧ Input.okWide C.prog (w.forCall tape i) .any w.heap.size f i ∧
      ((s.pre enc C.prog fn conds apart (w.forCall tape i).memory i.args ∧ X (w.forCall tape i).memory) ∧ sizedMet enc C.prog fn (OpenSpec.ofChange s) apart (w.forCall tape i).memory i.args) ∧ a.holds C.prog (lone (Frame.enter C.prog f i.args .normal) [] (w.forCall tape i)))
    (contract : ∀ (W : World) (base : Nat) (args : Array Value) (ds gs : List (DataW H)) (before : List MemPlace),
      (∀ (j : Nat) t v, fn.params[j]? = some t → args[j]? = some v → Value.okWide C.prog W .any base t v) →
      DataW.Whole enc C.prog fn.params.toList s.vars apart W args.toList ds gs before →
      X W →
      (DataW.weightsEach C.prog (fn.params.toList ++ s.plain.varTypes C.prog) (ds ++ gs)).all (· ≤ reachBytes) = true →
      W.ShapedOpen C.prog →
      a.holds C.prog (lone (Frame.enter C.prog f args .normal) [] W) →
      Calls C.prog f args W fun e W' => ∃ v, e = .returned v ∧ s.post enc C.prog fn apart fresh handsOn again W args v W') :
    ReturnsInHanded a C os f .any (fun w args => (s.pre enc C.prog fn conds apart w args ∧ X w) ∧ sizedMet enc C.prog fn (OpenSpec.ofChange s) apart w args) (s.post enc C.prog fn apart fresh handsOn again) := by
  refine returnsInHanded_of_calls own started noInit witness ?_
  intro w tape i _ hshape _ hok hpre hholds
  obtain ⟨_, _, _, fn2, hfn2, _, _, _, _, hval⟩ := hok
  obtain rfl : fn2 = fn := Option.some.inj (hfn2.symm.trans hfn)
  obtain ⟨⟨⟨ds, gs, before, hwhole, _⟩, hlaid⟩, hsized⟩ := hpre
  have hlaid2 : X (w.forCall tape i) := hX _ _ (by rfl) hlaid
  have hwhole2 := DataW.Whole.of_heap (w' := w.forCall tape i) (by rfl) hwhole
  have hrun := contract _ w.heap.size i.args ds gs before hval hwhole2 hlaid2 (hsized.weights hwhole) hshape hholds
  refine hrun.mono ?_
  rintro e W2 ⟨v, rfl, hpost⟩
  exact ChangeSpec.post_blind hpost
end Go.Ab
