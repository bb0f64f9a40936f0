/-
  The document's lines.
-/
import Derived.Test.YtanlheneakdngaaDoorA4
import Derived.Test.YtanlheneakdngaaDoorA3
import Derived.KernelRfl
set_option linter.unusedVariables false
set_option linter.unusedSimpArgs false
namespace Go.Ab
variable {st : St} {e : Env}

def segs : List UInt8 → List UInt8 → List (List UInt8 × Bool)
  | [], acc => if acc = [] then [] else [(acc, false)]
  | [c], acc => [(acc ++ [c], false)]
  | c :: d :: r, acc => if c = 13 ∧ d = 10 then (acc, true) :: segs r [] else segs (d :: r) (acc ++ [c])

def place : Nat → List (List UInt8 × Bool) → List (Nat × List UInt8 × Bool)
  | _, [] => []
  | a, (b, w) :: r => (a, b, w) :: place (a + b.length + 2) r

def refLines (l : List UInt8) : List (Nat × List UInt8 × Bool) := place 0 (segs l [])

def lnV (q : Nat × List UInt8 × Bool) : PV := .agg [.int .i64 (q.1 : Int), .bys .no q.2.1, .bool q.2.2]

theorem segs_pair {l acc : List UInt8} {i : Nat} (h : pairAt l i = true) : segs (l.drop i) acc = (acc, true) :: segs (l.drop (i + 2)) [] := by
  simp only [pairAt, decide_eq_true_eq] at h
  obtain ⟨h1, h2, h3⟩ := h
  rw [List.drop_eq_getElem_cons (show i < l.length by omega), List.drop_eq_getElem_cons (show i + 1 < l.length by omega)]
  simp only [List.getD_eq_getElem?_getD, List.getElem?_eq_getElem (show i < l.length by omega), List.getElem?_eq_getElem (show i + 1 < l.length by omega), Option.getD_some] at h2 h3
  simp [segs, h2, h3]
theorem segs_step {l acc : List UInt8} {i : Nat} (h : pairAt l i = false) (hi : i < l.length) : segs (l.drop i) acc = segs (l.drop (i + 1)) (acc ++ [l.getD i 0]) := by
  simp only [pairAt, decide_eq_false_iff_not] at h
  rw [List.drop_eq_getElem_cons hi]
  have hg : l.getD i 0 = l[i] := by simp [List.getD, hi]
  rw [hg]
  by_cases h1 : i + 1 < l.length
  · rw [List.drop_eq_getElem_cons h1]
    have hg1 : l.getD (i + 1) 0 = l[i + 1] := by simp [List.getD, h1]
    rw [hg, hg1] at h
    simp only [segs]
    rw [if_neg (fun hc => h ⟨h1, hc⟩)]
  · rw [List.drop_of_length_le (show l.length ≤ i + 1 by omega)]
    simp [segs]
theorem segs_end {l acc : List UInt8} {i : Nat} (hi : l.length ≤ i) : segs (l.drop i) acc = if acc = [] then [] else [(acc, false)] := by
  rw [List.drop_of_length_le hi]; rfl

theorem take_drop_snoc {l : List UInt8} {a i : Nat} (ha : a ≤ i) (hi : i < l.length) : (l.take i).drop a ++ [l.getD i 0] = (l.take (i + 1)).drop a := by
  rw [List.take_succ_eq_append_getElem hi, List.drop_append_of_le_length (by simp; omega)]
  simp [List.getD, hi]

theorem Lines_big {x : PV} {l : List UInt8} (hx : x.by = some l) (hl : l.length ≤ 100000000) : call prog (.fn 8 []) [x] st = some (newSl st 3 ((refLines l).map lnV), newS st ((refLines l).map lnV).isEmpty) := by
  refine call_of_W prog_8 ?_
  unfold F_posthornref05_Lines; dsimp only
  simp (maxSteps := 1000000) (disch := omega) only [qaaz, qabz, qadz, qajz, qalz, evOp, qapz, qarz, qatz, List.append_nil, qazz]
  obtain ⟨I, hI⟩ : ∃ I : Nat → Env → St → Prop, I = fun n e s => ∃ (i a : Nat) (out : List (Nat × List UInt8 × Bool)) (v : PV), n = l.length - i ∧ a ≤ i ∧ i ≤ l.length ∧ out.length ≤ i ∧ refLines l = out ++ place a (segs (l.drop i) ((l.take i).drop a)) ∧
      Grew st s ∧ Own st s 3 v (out.map lnV) ∧ (out.map lnV = [] → v = .nils) ∧ e 0 = x ∧ e 3 = v ∧ e 4 = .int .i64 (a : Int) ∧ e 5 = .int .i64 (i : Int) := ⟨_, rfl⟩
  refine W_loop I ?_ (n := l.length) (by rw [hI]; exact ⟨0, 0, [], .nils, rfl, by omega, by omega, by simp, by simp [refLines], Grew.start, .inl ⟨rfl, rfl⟩, fun _ => rfl, rfl, rfl, rfl, rfl⟩)
  intro n e s h
  rw [hI] at h
  obtain ⟨i, a, out, v, rfl, hai, hil, hol, hr, hg, hown, hnil, h0, h3, h4, h5⟩ := h
  by_cases hlt : i < l.length
  · cases hp : pairAt l i with
    | true =>
      have hmid := midB_by (i := a) (j := i) hx
      have hxs : ∃ t, x = .bys t l := by
        rcases by_cases' hx with ⟨rfl, rfl⟩ | h
        · simp at hlt
        · exact h
      obtain ⟨t, rfl⟩ := hxs
      have hp2 : i + 1 < l.length := by simp only [pairAt, decide_eq_true_eq] at hp; exact hp.1
      have happ := appV_own (u := lnV (a, (l.take i).drop a, true)) (t := .own s.toks.length) hown.tok1 (by simp [room]; omega)
      obtain ⟨hg2, hown2⟩ := Own.app (ys := out.map lnV ++ [lnV (a, (l.take i).drop a, true)]) hg.tok1 hown.tok1
      have hlit : ∀ z, litFill 3 (List.replicate 1 z) [(0, .agg [.int .i64 (a : Int), (PV.bys t l).midB a i, .bool true])] = some [lnV (a, (l.take i).drop a, true)] := fun z => lit1 rfl rfl
      simp (maxSteps := 1000000) (disch := omega) only [h0, h3, h4, h5, hlt, hp, len_by hx, Pair_spec hx, slc_lohi hx, add_n, build3 Leaf_int (Leaf_by hmid) Leaf_bool, hlit, freshT_eq, happ, qaaz, qabz, qacz, qadz, qaez, qajz, qalz, evOp, qaoz, qapz, qaqz, qarz, qatz, qavz,
 ↓reduceIte, Nat.reduceEqDiff, List.map_cons, List.map_nil, Option.map_some, Option.map_none, qazz, qbdz, qbhz, qbpz, decide_true, Int.toNat_natCast, Int.ofNat_lt, Bool.false_eq_true, Int.reduceToNat, reduceCtorEq]
      refine loopQ_intro (m := l.length - (i + 2)) (by omega) ?_
      rw [hI]
      refine ⟨i + 2, i + 2, out ++ [(a, (l.take i).drop a, true)], _, rfl, by omega, by omega, by simp; omega, ?_, hg2, by rw [List.map_append]; exact hown2, fun hm => by simp at hm, h0, rfl, ?_, ?_⟩
      · rw [hr, segs_pair hp]
        simp only [place, List.append_assoc, List.cons_append, List.nil_append]
        rw [show a + ((l.take i).drop a).length + 2 = i + 2 by simp; omega, List.drop_take_self]
      · rfl
      · rfl
    | false =>
      simp (maxSteps := 1000000) (disch := omega) only [h0, h5, hlt, hp, len_by hx, Pair_spec hx, add_n, qaaz, qabz, qacz, qadz, qaez, qajz, qalz, evOp, qaoz, qapz, qaqz, qarz, qatz, qavz,
 ↓reduceIte, Nat.reduceEqDiff, List.map_cons, List.map_nil, Option.map_some, qazz, qbdz, qbhz, qbpz, decide_true, Int.ofNat_lt, Bool.false_eq_true, Int.reduceToNat, reduceCtorEq]
      refine loopQ_intro (m := l.length - (i + 1)) (by omega) ?_
      rw [hI]
      exact ⟨i + 1, a, out, v, rfl, by omega, by omega, by omega, by rw [hr, segs_step hp hlt, take_drop_snoc hai hlt], hg, hown, hnil, h0, h3, h4, rfl⟩
  · obtain rfl : i = l.length := by omega
    rw [segs_end (Nat.le_refl _), List.take_length] at hr
    by_cases hal : a < l.length
    · have hmid := dropB_by (i := a) hx
      have hxs : ∃ t, x = .bys t l := by
        rcases by_cases' hx with ⟨rfl, rfl⟩ | h
        · simp at hal
        · exact h
      obtain ⟨t, rfl⟩ := hxs
      have happ := appV_own (u := lnV (a, l.drop a, false)) (t := .own s.toks.length) hown.tok1 (by simp [room]; omega)
      obtain ⟨hg2, hown2⟩ := Own.app (ys := out.map lnV ++ [lnV (a, l.drop a, false)]) hg.tok1 hown.tok1
      have hlit : ∀ z, litFill 3 (List.replicate 1 z) [(0, .agg [.int .i64 (a : Int), (PV.bys t l).dropB a, .bool false])] = some [lnV (a, l.drop a, false)] := fun z => lit1 rfl rfl
      simp (maxSteps := 1000000) (disch := omega) only [h0, h3, h4, h5, hal, hlt, len_by hx, slc_lo hx, build3 Leaf_int (Leaf_by hmid) Leaf_bool, hlit, freshT_eq, happ, qaaz, qabz, qacz, qagz, qaiz, qajz, qalz, evOp, qaoz, qapz, qarz, qatz, qavz,
 ↓reduceIte, Nat.reduceEqDiff, List.map_cons, List.map_nil, Option.map_some, Option.map_none, qazz, qbbz, qbfz, qbhz, qbjz, qblz, qbpz, decide_true, decide_false,
 Int.toNat_natCast, Int.ofNat_lt, Bool.false_eq_true, reduceCtorEq]
      have hne : l.drop a ≠ [] := fun h => by
        have := congrArg List.length h
        simp at this; omega
      rw [if_neg hne] at hr
      simp only [place] at hr
      rw [hr, List.map_append]
      exact ⟨_, rfl, leave_own hg2 hown2 (fun hm => by simp at hm)⟩
    · simp (maxSteps := 1000000) (disch := omega) only [h0, h3, h4, h5, hal, hlt, len_by hx, qaaz, qabz, qacz, qaez, qagz, qaiz, qajz, qalz, evOp, qaoz, qarz, qatz, qavz,
 ↓reduceIte, Nat.reduceEqDiff, Option.map_some, qazz, qbbz, qbfz, qbhz, qbjz, qblz, qbpz, decide_false,
 Int.ofNat_lt, Bool.false_eq_true, reduceCtorEq]
      rw [List.drop_of_length_le (by omega)] at hr
      simp only [if_true, place, List.append_nil] at hr
      rw [hr]
      exact ⟨v, by rcases hown with ⟨rfl, _⟩ | ⟨i, rfl, _⟩ <;> rfl, leave_own hg hown hnil⟩
theorem segs_index : ∀ (m acc : List UInt8), (Lib.index m [13, 10] = -1 ∧ segs m acc = if acc ++ m = [] then [] else [(acc ++ m, false)]) ∨
    (∃ n : Nat, Lib.index m [13, 10] = n ∧ n + 2 ≤ m.length ∧ segs m acc = (acc ++ m.take n, true) :: segs (m.drop (n + 2)) []) := by
  intro m
  induction m with
  | nil => intro acc; left; simp [Lib.index, segs]
  | cons c m ih =>
    intro acc
    cases m with
    | nil =>
      left
      simp [Lib.index, segs, List.isPrefixOf]
    | cons d r =>
      by_cases h : c = 13 ∧ d = 10
      · right
        obtain ⟨rfl, rfl⟩ := h
        exact ⟨0, by simp [Lib.index, List.isPrefixOf], by simp, by simp [segs]⟩
      · have hp : ([13, 10] : List UInt8).isPrefixOf (c :: d :: r) = false := by
          simp only [List.isPrefixOf, Bool.and_true]
          rw [Bool.eq_false_iff]
          intro hh
          simp only [Bool.and_eq_true, beq_iff_eq] at hh
          exact h ⟨hh.1.symm, hh.2.symm⟩
        have hi : Lib.index (c :: d :: r) [13, 10] = if Lib.index (d :: r) [13, 10] == -1 then -1 else Lib.index (d :: r) [13, 10] + 1 := by
          rw [Lib.index, hp]; simp
        have hs : segs (c :: d :: r) acc = segs (d :: r) (acc ++ [c]) := by simp only [segs]; rw [if_neg h]
        rcases ih (acc ++ [c]) with ⟨h1, h2⟩ | ⟨n, h1, h2, h3⟩
        · left
          refine ⟨by rw [hi, h1]; rfl, ?_⟩
          rw [hs, h2]; simp
        · right
          refine ⟨n + 1, ?_, by simp at h2 ⊢; omega, ?_⟩
          · rw [hi, h1]
            rw [if_neg (by simp <;> omega)]; rfl
          · rw [hs, h3]; simp

def full (q : Nat × List UInt8 × Bool) : List UInt8 := q.2.1 ++ (if q.2.2 then [13, 10] else [])

theorem segs_take {m : List UInt8} {n : Nat} (h : Lib.index m [13, 10] = n) : m.take (n + 2) = m.take n ++ [13, 10] := by
  induction m generalizing n with
  | nil => simp [Lib.index] at h
  | cons c m ih =>
    rw [Lib.index] at h
    split at h
    · rename_i hp
      obtain rfl : n = 0 := by omega
      match m, hp with
      | [], hp => simp [List.isPrefixOf] at hp
      | d :: r, hp =>
        simp [List.isPrefixOf] at hp
        obtain ⟨rfl, rfl⟩ := hp
        simp
    · split at h
      · omega
      · obtain ⟨k, rfl⟩ : ∃ k, n = k + 1 := ⟨n - 1, by rename_i h1 h2; have := Lib.index_ge m [13, 10]; simp at h2; omega⟩
        have := ih (n := k) (by omega)
        rw [show k + 1 + 2 = (k + 2) + 1 by omega, List.take_succ_cons, this, List.take_succ_cons]; rfl

end Go.Ab
/-
  The lines of written lines: the plain law.
-/
namespace Go.Ab

end Go.Ab
/-
  Lines' folds are undone, lines are read: the plain law.
-/
namespace Go.Ab

theorem unfV_nil : unfV [] = [] := by unfold unfV; rfl
theorem unfV_cons {a : UInt8} {l : Bs} (h : a ≠ 13) : unfV (a :: l) = a :: unfV l := by
  match l with
  | [] => rw [unfV_nil]; unfold unfV; rfl
  | [b] =>
    have h1 : unfV [a, b] = [a, b] := by unfold unfV; rfl
    have h2 : unfV [b] = [b] := by unfold unfV; rfl
    rw [h1, h2]
  | b :: c :: r => rw [unfV, if_neg (fun q => h q.1)]
theorem unfV_app {y z : Bs} (h : ∀ c ∈ y, c ≠ 13) : unfV (y ++ z) = y ++ unfV z := by
  induction y with
  | nil => rfl
  | cons a r ih => rw [List.cons_append, unfV_cons (h a (by simp)), ih (fun c hc => h c (by simp [hc]))]; rfl
theorem unfV_fold {z : Bs} : unfV (13 :: 10 :: 32 :: z) = unfV z := by rw [unfV, if_pos ⟨rfl, rfl, .inl rfl⟩]
theorem unfV_pair {z : Bs} (h : z.getD 0 0 ≠ 32) (h9 : z.getD 0 0 ≠ 9) : unfV (13 :: 10 :: z) = 13 :: 10 :: unfV z := by
  match z with
  | [] => 
    have h1 : unfV [13, 10] = [13, 10] := by unfold unfV; rfl
    rw [h1, unfV_nil]
  | c :: r =>
    rw [unfV, if_neg, unfV_cons (by decide)]
    rintro ⟨-, -, q | q⟩
    · exact h q
    · exact h9 q
theorem unfV_len : ∀ (k : Nat) (l : Bs), l.length ≤ k → (unfV l).length ≤ l.length := by
  intro k
  induction k with
  | zero =>
    intro l h
    have : l = [] := List.eq_nil_of_length_eq_zero (by omega)
    subst this; rw [unfV_nil]; simp
  | succ k ih =>
    intro l h
    match l with
    | [] => rw [unfV_nil]; simp
    | [a] => unfold unfV; simp
    | [a, b] => unfold unfV; simp
    | a :: b :: c :: r =>
      rw [unfV]
      split
      · have := ih r (by simp at h; omega)
        simp; omega
      · have := ih (b :: c :: r) (by simp at h ⊢; omega)
        simp at this ⊢; omega
theorem unf_foldW {z : Bs} (hz : z.getD 0 0 ≠ 32) (hz9 : z.getD 0 0 ≠ 9) : ∀ (k : Nat) (l : Bs), l.length ≤ k → Fine l → 1 ≤ l.length → unfV ((foldW k l).flatMap crW ++ z) = l ++ 13 :: 10 :: unfV z := by
  intro k
  induction k with
  | zero => intro l h1 _ h2; omega
  | succ k ih =>
    intro l hl hf h1
    simp only [foldW]
    by_cases h75 : 75 < l.length
    · simp only [if_pos h75]
      obtain ⟨c1, c2⟩ := cut75 h75
      obtain ⟨f1, f2⟩ := cut_fine hf h75
      have hb := (Fine.one (c := 32) (by decide) (by decide)).app f2
      have hi := ih (32 :: l.drop (cutOf l 75)) (by simp; omega) (by simpa using hb) (by simp)
      obtain ⟨i1, -, r, i3, i4⟩ := foldW_fine k (32 :: l.drop (cutOf l 75)) (by simp; omega) (by simpa using hb) (by simp)
      generalize foldW k (32 :: l.drop (cutOf l 75)) = F at *
      cases F with
      | nil => exact absurd rfl i4
      | cons p q =>
        have hp := (i1 p (by simp)).2.1
        simp only [List.getD_cons_zero] at i3
        cases p with
        | nil => simp at hp
        | cons x p =>
          simp only [List.cons_append, List.cons.injEq] at i3
          obtain ⟨rfl, i3⟩ := i3
          simp only [List.flatMap_cons, crW, List.append_assoc, List.cons_append, List.nil_append] at hi ⊢
          rw [unfV_cons (by decide)] at hi
          rw [unfV_app f1.2, unfV_fold, (List.cons.inj hi).2, ← List.append_assoc, List.take_append_drop]
    · simp only [if_neg h75]
      simp only [List.flatMap_cons, List.flatMap_nil, crW, List.append_assoc, List.cons_append, List.nil_append]
      rw [unfV_app hf.2, unfV_pair hz hz9]
noncomputable def readG : List (Nat × Bs × Bool) → Except Nat (List LnD)
  | [] => .ok []
  | (a, x, w) :: r => match (if w = true then oneL x else none) with
    | none => .error a
    | some d => (match readG r with
      | .ok l => .ok (d :: l)
      | .error j => .error j)
noncomputable def readL (b : Bs) : Except (Nat × Int) (List LnD) := match ptsOf ((unfV b).length + 1) (unfV b) 0 with
  | .error j => .error (j, 20)
  | .ok _ => (match readG (refLines (unfV b)) with
    | .ok l => .ok l
    | .error j => .error (j, 90))
def ofLn (L : Ln) : LnD := (L.n, L.ps, L.v)
theorem segs_sum2 : ∀ (k : Nat) (l acc : Bs), l.length ≤ k → ((segs l acc).map fun z => if z.2 = true then z.1.length + 2 else 1).sum ≤ acc.length + l.length := by
  intro k
  induction k with
  | zero =>
    intro l acc h
    have : l = [] := List.eq_nil_of_length_eq_zero (by omega)
    subst this
    simp only [segs]
    split
    · simp
    · rename_i hne
      have : 1 ≤ acc.length := List.length_pos_iff.2 hne
      simp; omega
  | succ k ih =>
    intro l acc h
    match l with
    | [] =>
      simp only [segs]
      split
      · simp
      · rename_i hne
        have : 1 ≤ acc.length := List.length_pos_iff.2 hne
        simp; omega
    | [c] => simp [segs]
    | c :: d :: r =>
      simp only [segs]
      split
      · have := ih r [] (by simp at h; omega)
        simp at this ⊢; omega
      · have := ih (d :: r) (acc ++ [c]) (by simp at h ⊢; omega)
        simp at this ⊢; omega
theorem place_sum2 {f : Bs × Bool → Nat} : ∀ (q : List (Bs × Bool)) (a : Nat), ((place a q).map fun z => f z.2).sum = (q.map f).sum := by
  intro q
  induction q with
  | nil => intro a; rfl
  | cons z r ih => intro a; simp [place, ih]
theorem refLines_len {l : Bs} : (refLines l).length ≤ l.length ∧ ∀ ds, readG (refLines l) = .ok ds → (∀ d ∈ ds, rtB (toLn d) = true) ∧ (ds.map fun d => (textOfL (toLn d)).length + 2).sum ≤ l.length ∧ ds.length = (refLines l).length := by
  have hs := segs_sum2 l.length l [] (Nat.le_refl _)
  rw [← place_sum2 (f := fun z => if z.2 = true then z.1.length + 2 else 1) (segs l []) 0] at hs
  change ((refLines l).map fun z => if z.2.2 = true then z.2.1.length + 2 else 1).sum ≤ _ at hs
  simp only [List.length_nil, Nat.zero_add] at hs
  generalize refLines l = q at *
  have h1 : q.length ≤ (q.map fun z => if z.2.2 = true then z.2.1.length + 2 else 1).sum := by
    clear hs
    induction q with
    | nil => simp
    | cons z r ih => simp only [List.map_cons, List.sum_cons, List.length_cons]; split <;> omega
  refine ⟨by omega, ?_⟩
  have h2 : ∀ ds, readG q = .ok ds → (∀ d ∈ ds, rtB (toLn d) = true) ∧ (ds.map fun d => (textOfL (toLn d)).length + 2).sum ≤ (q.map fun z => if z.2.2 = true then z.2.1.length + 2 else 1).sum ∧ ds.length = q.length := by
    clear hs h1
    induction q with
    | nil => intro ds h; cases h; simp
    | cons z r ih =>
      intro ds h
      obtain ⟨a, x, w⟩ := z
      simp only [readG] at h
      cases w with
      | false => simp at h
      | true =>
        simp only [if_true] at h
        cases ho : oneL x with
        | none => rw [ho] at h; cases h
        | some d =>
          rw [ho] at h
          simp only at h
          cases hr : readG r with
          | error j => rw [hr] at h; cases h
          | ok l' =>
            rw [hr] at h
            cases h
            obtain ⟨i1, i2, i3⟩ := ih l' hr
            obtain ⟨o1, o2⟩ := one_some ho
            refine ⟨fun e he => ?_, ?_, by simp [i3]⟩
            · rcases List.mem_cons.1 he with rfl | he
              · exact o1
              · exact i1 e he
            · simp only [List.map_cons, List.sum_cons, if_true]; omega
  intro ds h
  obtain ⟨j1, j2, j3⟩ := h2 ds h
  exact ⟨j1, by omega, j3⟩
end Go.Ab
/-
  A line's text is read, walked.
-/
namespace Go.Ab
set_option maxRecDepth 20000
variable {st s : St} {e : Env}

structure Wrote (S S' : St) (b : Nat) (cs : List PV) : Prop where
  at_ : At S' b cs
  ot : ∀ c ds, c ≠ b → At S c ds → At S' c ds
  kp : ∀ st, Kept st S → st.boxes.length ≤ b → Kept st S'
  tk : S'.toks = S.toks
  bl : S'.boxes.length = S.boxes.length
  lp : S'.loops = S.loops
  lw : S'.low ≤ S.low
theorem At.lt {b : Nat} {cs : List PV} (h : At s b cs) : b < s.boxes.length := (List.getElem?_eq_some_iff.1 h).1
theorem At.bx {s' : St} {b : Nat} {cs : List PV} (h : At s b cs) (hb : s'.boxes = s.boxes) : At s' b cs := by unfold At at *; rw [hb]; exact h
theorem wrote_set {S : St} {b lo : Nat} {cs ds : List PV} (h : At S b cs) (hlo : lo = S.low ∨ lo = min S.low b) : Wrote S ⟨S.boxes.set b ds, S.toks, S.loops, lo⟩ b ds := by
  have hlt := h.lt
  refine ⟨by simp [At, hlt], fun c es hc hA => by simp only [At] at *; rw [List.getElem?_set_ne (Ne.symm hc)]; exact hA, fun st hk hb => ?_, rfl, by simp, rfl, by rcases hlo with rfl | rfl <;> simp only <;> omega⟩
  refine hk.of (by simp [List.take_set, List.set_eq_of_length_le (show (List.take st.boxes.length S.boxes).length ≤ b by simp; omega)]) rfl ?_ (fun i _ => rfl) hk.tl
  have := hk.lw
  simp only
  rcases hlo with rfl | rfl <;> omega
theorem At.st1 {S : St} {b off : Nat} {cs : List PV} {v : PV} (h : At S b cs) (hv : Leaf v) (hb : v.inB (b + 1) = true) (ho : off < cs.length) : ∃ S', storePV S 1 (.ptr b off) v = some S' ∧ Wrote S S' b (cs.set off v) := by
  refine ⟨_, ?_, wrote_set (ds := cs.set off v) (lo := if hasTok v.cells then min S.low b else S.low) h (by split <;> simp)⟩
  unfold At at h
  simp only [storePV, h, hv.1, setCells]
  rw [if_pos ⟨rfl, by omega, hb, by simp [hv.2]⟩]
theorem At.st2 {S : St} {b : Nat} {c0 c1 v0 v1 : PV} (h : At S b [c0, c1]) (l0 : leafOk v0 = true) (l1 : leafOk v1 = true) (i0 : v0.inB (b + 1) = true) (i1 : v1.inB (b + 1) = true) : ∃ S', storePV S 2 (.ptr b 0) (.agg [v0, v1]) = some S' ∧ Wrote S S' b [v0, v1] := by
  refine ⟨_, ?_, wrote_set (ds := [v0, v1]) (lo := if hasTok [v0, v1] then min S.low b else S.low) h (by split <;> simp)⟩
  unfold At at h
  simp [storePV, h, PV.cells, setCells, PV.inB, PV.inB.inBAll, l0, l1, i0, i1]; rfl
theorem At.st3 {S : St} {b : Nat} {c0 c1 c2 v0 v1 v2 : PV} (h : At S b [c0, c1, c2]) (l0 : leafOk v0 = true) (l1 : leafOk v1 = true) (l2 : leafOk v2 = true) (i0 : v0.inB (b + 1) = true) (i1 : v1.inB (b + 1) = true) (i2 : v2.inB (b + 1) = true) :
    ∃ S', storePV S 3 (.ptr b 0) (.agg [v0, v1, v2]) = some S' ∧ Wrote S S' b [v0, v1, v2] := by
  refine ⟨_, ?_, wrote_set (ds := [v0, v1, v2]) (lo := if hasTok [v0, v1, v2] then min S.low b else S.low) h (by split <;> simp)⟩
  unfold At at h
  simp [storePV, h, PV.cells, setCells, PV.inB, PV.inB.inBAll, l0, l1, l2, i0, i1, i2]; rfl
theorem At.ld2 {S : St} {b : Nat} {x y : PV} (h : At S b [x, y]) : loadPV S true 2 (.ptr b 0) = some (.agg [x, y]) := by
  unfold At at h; simp [loadPV, h, readCells]
theorem At.ld3 {S : St} {b : Nat} {x y z : PV} (h : At S b [x, y, z]) : loadPV S true 3 (.ptr b 0) = some (.agg [x, y, z]) := by
  unfold At at h; simp [loadPV, h, readCells]
theorem Own.tks {s' : St} {esz : Nat} {v : PV} {xs : List PV} (h : Own st s esz v xs) (ht : s'.toks = s.toks) : Own st s' esz v xs := by
  rcases h with h | ⟨i, h1, h2, h3⟩
  · exact .inl h
  · exact .inr ⟨i, h1, h2, by rw [ht]; exact h3⟩
theorem own_leaf {esz : Nat} {v : PV} {xs : List PV} (h : Own st s esz v xs) : Leaf v ∧ ∀ n, v.inB n = true := by
  rcases h with ⟨rfl, _⟩ | ⟨i, rfl, _⟩
  · exact ⟨⟨rfl, rfl⟩, fun _ => rfl⟩
  · exact ⟨⟨rfl, rfl⟩, fun _ => rfl⟩
theorem own_vs {v : PV} {xs : List PV} (h : Own st s 2 v xs) : v.vs 2 = some xs := by
  rcases h with ⟨rfl, rfl⟩ | ⟨i, rfl, _⟩
  · simp [PV.vs]
  · simp [PV.vs]
theorem leave_line {S : St} {pv : PV} {xs : List PV} {n v : Bs} {k : IntKind} {c : Int} (hk : Kept st S) (h : Own st S 2 pv xs) (hne : xs = [] → pv = .nils) :
    leave st S (.tup [.agg [.str n, pv, .str v], .int k c]) = (.tup [.agg [.str n, newSl st 2 xs, .str v], .int k c], newS st xs.isEmpty) := by
  have e1 := hk.bx; have e2 := hk.lp; have e3 := hk.tk
  rcases h with ⟨rfl, rfl⟩ | ⟨i, rfl, h2, h3⟩
  · simp [leave, PV.inB, PV.inB.inBAll, hk.lw, keepRes, keepVals, keepVal, keepCells, keepLeaf, newSl, newS, e1, e2, e3]
  · by_cases hx : xs = []
    · have := hne hx; cases this
    · simp [leave, PV.inB, PV.inB.inBAll, hk.lw, keepRes, keepVals, keepVal, keepCells, keepLeaf, keepTok, newSl, newS, hx, h3, show ¬ i < st.toks.length by omega, e1, e2, e3, St.tok1]

def oneV (st : St) (r : Option LnD) : PV × St := match r with
  | none => (.tup [.agg [.str [], .nils, .str []], .int .i64 90], st)
  | some d => (.tup [.agg [.str d.1, newSl st 2 (d.2.1.map fV), .str d.2.2], .int .i64 0], newS st (d.2.1.map fV).isEmpty)
theorem W_cutX {A : AP} {a b : ACode} {Q : Ex → Env → St → Prop} (M : Env → St → Prop) (h1 : W A a e st (fun x e' s' => (x = .normal ∧ M e' s') ∨ (x ≠ .normal ∧ Q x e' s'))) (h2 : ∀ e' s', M e' s' → W A b e' s' Q) : W A (.seq a b) e st Q := by
  rw [qaaz]
  refine W_mono h1 ?_
  rintro x e s (⟨rfl, h⟩ | ⟨hx, h⟩)
  · exact h2 e s h
  · cases x with
    | normal => exact absurd rfl hx
    | ret => rw [qbaz]; exact h
    | exit i => rw [qbbz]; exact h
    | goto i => rw [qbcz]; exact h

theorem goL_bad {f : Nat} {acc : List Fld} {b : UInt8} {r : Bs} (h1 : b ≠ 59) (h2 : b ≠ 58) : goL f acc b r = none := by
  cases f with
  | zero => rfl
  | succ f => simp [goL, h1, h2]
set_option maxHeartbeats 4000000 in
theorem One_spec {x : Bs} (hl : x.length ≤ 1000000) : call prog (.fn 55 []) [.str x] st = some (oneV st (oneL x)) := by
  refine call_of_W prog_55 ?_
  unfold F_sheet_One; dsimp only
  obtain ⟨b2, hb2⟩ : ∃ b2, b2 = st.boxes.length := ⟨_, rfl⟩
  obtain ⟨Z, hZ⟩ : ∃ Z : List PV, Z = [.str [], .nils, .str []] := ⟨_, rfl⟩
  refine W_cut (fun E S => Kept st S ∧ At S b2 Z ∧ E 0 = .str x ∧ E 2 = .ptr b2 0) ?_ ?_
  · simp (maxSteps := 1000000) (disch := omega) only [allocPV, qabz, qajz, qalz, evOp, qapz, qarz, qatz, qavz,
 ↓reduceIte, Nat.reduceEqDiff, List.append_nil, qawz, true_and, reduceCtorEq]
    exact ⟨Kept.start.alloc', by rw [hb2, hZ]; exact At.last (s := ⟨st.boxes, st.toks, st.loops, st.boxes.length⟩), by rw [hb2]⟩
  rintro e S ⟨hk, hA2, h0, h2⟩
  refine W_scope1 rfl ?_
  generalize hR : scopeQ prog _ _ _ = R
  have fin : ∀ (E : Env) (S : St) (n v : Bs) (pv : PV) (ps : List Fld), Kept st S → Own st S 2 pv (ps.map fV) → (ps.map fV = [] → pv = .nils) → At S b2 [.str n, pv, .str v] → oneL x = some (n, ps, v) → E 2 = .ptr b2 0 → E 3 = .int .i64 0 → R .ret E S := by
    intro E S n v pv ps k1 ko kn kA ho k2 k3
    rw [← hR]
    show endQ _ _ _ .ret E S
    rw [qblz]
    refine ⟨.tup [.agg [.str n, pv, .str v], .int .i64 0], by simp [resOf, rvAll, rv1, k2, k3, kA.ld3, notTup, packRes], ?_⟩
    rw [ho]; exact leave_line k1 ko kn
  have wrong : ∀ (E : Env) (S : St), Kept st S → At S b2 Z → E 2 = .ptr b2 0 → oneL x = none → R (.goto 0) E S := by
    intro E S k1 kA k2 ho
    rw [← hR]
    simp only [scopeQ, if_true]
    refine W_scopeAt ?_
    rw [hZ] at kA
    obtain ⟨S', a1, w1⟩ := kA.st3 (v0 := .str []) (v1 := .nils) (v2 := .str []) rfl rfl rfl rfl rfl rfl
    have hbu : buildCells [.str [], .nils, .str []] [] = some [.str [], .nils, .str []] := rfl
    simp (maxSteps := 1000000) (disch := omega) only [k2, hbu, a1, qaaz, qabz, qaez, qaiz, qajz, qalz, evOp, qaoz, qapz, qarz, qatz, qauz, qavz,
 ↓reduceIte, Nat.reduceEqDiff, List.map_nil, Option.map_some, qazz, qblz]
    refine ⟨.tup [.agg [.str [], .nils, .str []], .int .i64 90], by simp [resOf, rvAll, rv1, qavz, k2, w1.at_.ld3, notTup, packRes], ?_⟩
    rw [ho]
    exact (w1.kp st k1 (by omega)).leave' ⟨fun _ => rfl, fun _ _ => rfl⟩
  clear hR
  obtain ⟨b4, hb4⟩ : ∃ b4, b4 = S.boxes.length := ⟨_, rfl⟩
  have hne24 : b2 ≠ b4 := by have := hA2.lt; omega
  have hle4 : st.boxes.length ≤ b4 := by have := hk.bl; omega
  refine W_cut (fun E S => Kept st S ∧ At S b2 Z ∧ At S b4 Z ∧ E 0 = .str x ∧ E 2 = .ptr b2 0 ∧ E 4 = .ptr b4 0) ?_ ?_
  · simp (maxSteps := 1000000) (disch := omega) only [allocPV, h0, h2, qabz, qajz, qalz, evOp, qarz, qatz, qavz,
 ↓reduceIte, Nat.reduceEqDiff, true_and, reduceCtorEq]
    exact ⟨hk.alloc', hA2.alloc, by rw [hb4, hZ]; exact At.last, by rw [hb4]⟩
  clear hk hA2 h0 h2 hb4
  rintro e S ⟨hk, hA2, hA4, h0, h2, h4⟩
  obtain ⟨c, hc⟩ : ∃ c, c = cutV [59, 58] x := ⟨_, rfl⟩
  have hcs := cutV_sum (e := [59, 58]) (s := x)
  rw [← hc] at hcs
  obtain ⟨nm, hnm⟩ : ∃ nm, nm = upOf c.1 := ⟨_, rfl⟩
  have hnl : nm.length ≤ 1000000 := by rw [hnm]; simp [upOf]; omega
  refine W_cut (fun E S => Kept st S ∧ At S b2 Z ∧ At S b4 Z ∧ E 2 = .ptr b2 0 ∧ E 4 = .ptr b4 0 ∧ E 5 = .str c.1 ∧ E 6 = .b8 c.2.1 ∧ E 7 = .str c.2.2) ?_ ?_
  · have hcut := fun S : St => cut_spec (st := S) (x := x) (e := [59, 58]) (by omega) (by simp)
    rw [← hc] at hcut
    simp (maxSteps := 1000000) (disch := omega) only [h0, h2, h4, hcut, qabz, qajz, qalz, evOp, qaoz, qapz, qaqz, qarz, qatz, qavz,
 ↓reduceIte, Nat.reduceEqDiff, List.map_cons, List.map_nil, Option.map_some, qcjz, List.getElem?_cons_zero, List.getElem?_cons_succ, true_and, and_true]
    exact ⟨hk, hA2, hA4⟩
  clear hk hA2 hA4 h0 h2 h4
  rintro e S ⟨hk, hA2, hA4, h2, h4, h5, h6, h7⟩
  refine W_cut (fun E S => Kept st S ∧ At S b2 Z ∧ At S b4 [.str nm, .nils, .str []] ∧ E 2 = .ptr b2 0 ∧ E 4 = .ptr b4 0 ∧ E 6 = .b8 c.2.1 ∧ E 7 = .str c.2.2) ?_ ?_
  · have hup := fun S : St => upper_spec (st := S) (s := c.1) (by omega)
    rw [← hnm] at hup
    rw [hZ] at hA4
    obtain ⟨S', a1, w1⟩ := hA4.st1 (off := 0) (v := .str nm) Leaf_str rfl (by simp)
    simp (maxSteps := 1000000) (disch := omega) only [h2, h4, h5, h6, h7, hup, faddrPV, Nat.zero_add, a1, qabz, qajz, qalz, evOp, qaoz, qaqz, qarz, qatz, qauz, qavz,
 ↓reduceIte, Nat.reduceEqDiff, List.map_cons, List.map_nil, Option.map_some, true_and, and_true]
    exact ⟨w1.kp st hk hle4, w1.ot _ _ hne24 hA2, w1.at_⟩
  clear hk hA2 hA4 h2 h4 h5 h6 h7
  rintro e S ⟨hk, hA2, hA4, h2, h4, h6, h7⟩
  obtain ⟨G, hG⟩ : ∃ G, G = goL (x.length + 1) [] c.2.1 c.2.2 := ⟨_, rfl⟩
  have hone : oneL x = oneG nm G := by
    rw [hG, hc, hnm, hc]; rfl
  have hnone : G = none → oneL x = none := fun h => by rw [hone, h]; rfl
  obtain ⟨J, hJ⟩ : ∃ J : Bs → Env → St → Prop, J = fun rest E S => ∃ (fuel : Nat) (acc : List Fld) (pv : PV) (b : UInt8), rest.length < fuel ∧ acc.length + rest.length ≤ 1000000 ∧ (∀ p ∈ acc, p.1.length + p.2.length ≤ 1000000) ∧ G = goL fuel acc b rest ∧
      Kept st S ∧ At S b2 Z ∧ At S b4 [.str nm, pv, .str []] ∧ Own st S 2 pv (acc.map fV) ∧ (acc.map fV = [] → pv = .nils) ∧ E 2 = .ptr b2 0 ∧ E 4 = .ptr b4 0 ∧ E 6 = .b8 b ∧ E 7 = .str rest := ⟨_, rfl⟩
  refine W_cutX (fun E S => ∃ rest, J rest E S ∧ E 6 ≠ .b8 59) ?_ ?_
  · obtain ⟨QQ, hQQ⟩ : ∃ QQ : Ex → Env → St → Prop, QQ = fun xx e' s' => (xx = .normal ∧ ∃ rest, J rest e' s' ∧ e' 6 ≠ .b8 59) ∨ (xx ≠ .normal ∧ R xx e' s') := ⟨_, rfl⟩
    rw [← hQQ]
    have wr : ∀ (E : Env) (S : St), Kept st S → At S b2 Z → E 2 = .ptr b2 0 → G = none → QQ (.goto 0) E S := fun E S k1 k2 k3 k4 => by
      rw [hQQ]; exact .inr ⟨by simp, wrong E S k1 k2 k3 (hnone k4)⟩
    rw [qadz]
    refine W_loop (fun n E S => ∃ rest, n = rest.length ∧ J rest E S) ?_ (n := c.2.2.length) ⟨c.2.2, rfl, by
      rw [hJ]
      exact ⟨x.length + 1, [], .nils, c.2.1, by omega, by simp; omega, fun p hp => by simp at hp, hG, hk, hA2, hA4, .inl ⟨rfl, rfl⟩, fun _ => rfl, h2, h4, h6, h7⟩⟩
    clear hk hA2 hA4 h2 h4 h6 h7
    rintro n e S ⟨rest, rfl, hh⟩
    have hJJ := hh
    rw [hJ] at hh
    obtain ⟨fuel, acc, pv, b, hf, hal, hps, hg, hk, hA2, hA4, ho, hn, h2, h4, h6, h7⟩ := hh
    by_cases hb : b = 59
    · obtain ⟨f, rfl⟩ : ∃ f, fuel = f + 1 := ⟨fuel - 1, by omega⟩
      subst hb
      rw [goL, if_pos rfl] at hg
      obtain ⟨b8, hb8⟩ : ∃ b8, b8 = S.boxes.length := ⟨_, rfl⟩
      have hne28 : b2 ≠ b8 := by have := hA2.lt; omega
      have hne48 : b4 ≠ b8 := by have := hA4.lt; omega
      have hle8 : st.boxes.length ≤ b8 := by have := hk.bl; omega
      have hown8 : ∀ S' : St, S'.toks = S.toks → Own st S' 2 pv (acc.map fV) := fun S' h => ho.tks h
      obtain ⟨c1, hc1⟩ : ∃ c1, c1 = cutV [61, 59, 58] rest := ⟨_, rfl⟩
      have hc1s := cutV_sum (e := [61, 59, 58]) (s := rest)
      rw [← hc1] at hc1s
      have hpar : parL rest = if c1.2.1 = 61 then
          if [34] <+: c1.2.2 then
            if (cutV [34] (c1.2.2.drop 1)).2.1 = 0 then none
            else some ((upOf c1.1, (cutV [34] (c1.2.2.drop 1)).1), (cutV [34] (c1.2.2.drop 1)).2.2.getD 0 0, (cutV [34] (c1.2.2.drop 1)).2.2.drop 1)
          else some ((upOf c1.1, (cutV [59, 58, 44, 34] c1.2.2).1), (cutV [59, 58, 44, 34] c1.2.2).2.1, (cutV [59, 58, 44, 34] c1.2.2).2.2)
        else none := by rw [hc1]; rfl
      rw [qaaz]
      simp (maxSteps := 1000000) (disch := omega) only [h6, qaaz, qabz, qacz, qaez, qajz, qalz, evOp, qaoz, qapz, qarz, qatz, qavz,
 ↓reduceIte, Option.map_some, qazz, qbhz, qbvz, decide_true]
      rw [qadz]
      refine W_cut (fun E S => Kept st S ∧ At S b2 Z ∧ At S b4 [.str nm, pv, .str []] ∧ At S b8 [.str [], .str []] ∧ Own st S 2 pv (acc.map fV) ∧ E 2 = .ptr b2 0 ∧ E 4 = .ptr b4 0 ∧ E 7 = .str rest ∧ E 8 = .ptr b8 0) ?_ ?_
      · simp (maxSteps := 1000000) (disch := omega) only [allocPV, h2, h4, h7, qabz, qajz, qalz, evOp, qarz, qatz, qavz,
 ↓reduceIte, Nat.reduceEqDiff, true_and]
        exact ⟨hk.alloc', hA2.alloc, hA4.alloc, by rw [hb8]; exact At.last, hown8 _ rfl, by rw [hb8]⟩
      clear hk hA2 hA4 h2 h4 h6 h7 ho hown8 hb8
      rintro e S ⟨hk, hA2, hA4, hA8, ho, h2, h4, h7, h8⟩
      refine W_cut (fun E S => Kept st S ∧ At S b2 Z ∧ At S b4 [.str nm, pv, .str []] ∧ At S b8 [.str c1.1, .str []] ∧ Own st S 2 pv (acc.map fV) ∧ E 2 = .ptr b2 0 ∧ E 4 = .ptr b4 0 ∧ E 6 = .b8 c1.2.1 ∧ E 7 = .str c1.2.2 ∧ E 8 = .ptr b8 0) ?_ ?_
      · have hcut := fun S : St => cut_spec (st := S) (x := rest) (e := [61, 59, 58]) (by omega) (by simp)
        rw [← hc1] at hcut
        obtain ⟨S', a1, w1⟩ := hA8.st1 (off := 0) (v := .str c1.1) Leaf_str rfl (by simp)
        simp (maxSteps := 1000000) (disch := omega) only [h2, h4, h7, h8, hcut, faddrPV, Nat.zero_add, a1, qabz, qajz, qalz, evOp, qaoz, qapz, qaqz, qarz, qatz, qauz, qavz,
 ↓reduceIte, Nat.reduceEqDiff, List.map_cons, List.map_nil, Option.map_some, qcjz, List.getElem?_cons_zero, List.getElem?_cons_succ, true_and, and_true]
        exact ⟨w1.kp st hk hle8, w1.ot _ _ hne28 hA2, w1.ot _ _ hne48 hA4, w1.at_, ho.tks w1.tk⟩
      clear hk hA2 hA4 hA8 h2 h4 h7 h8 ho
      rintro e S ⟨hk, hA2, hA4, hA8, ho, h2, h4, h6, h7, h8⟩
      refine W_cut (fun E S => Kept st S ∧ At S b2 Z ∧ At S b4 [.str nm, pv, .str []] ∧ At S b8 [.str (upOf c1.1), .str []] ∧ Own st S 2 pv (acc.map fV) ∧ E 2 = .ptr b2 0 ∧ E 4 = .ptr b4 0 ∧ E 6 = .b8 c1.2.1 ∧ E 7 = .str c1.2.2 ∧ E 8 = .ptr b8 0) ?_ ?_
      · have hup := fun S : St => upper_spec (st := S) (s := c1.1) (by omega)
        have hld := hA8.load (k := 0) (v := .str c1.1) (r := [.str []]) rfl
        obtain ⟨S', a1, w1⟩ := hA8.st1 (off := 0) (v := .str (upOf c1.1)) Leaf_str rfl (by simp)
        simp (maxSteps := 1000000) (disch := omega) only [h2, h4, h6, h7, h8, hld, hup, faddrPV, Nat.zero_add, a1, qabz, qajz, qalz, evOp, qaoz, qaqz, qarz, qatz, qauz, qavz,
 ↓reduceIte, Nat.reduceEqDiff, List.map_cons, List.map_nil, Option.map_some, true_and, and_true]
        exact ⟨w1.kp st hk hle8, w1.ot _ _ hne28 hA2, w1.ot _ _ hne48 hA4, w1.at_, ho.tks w1.tk⟩
      clear hk hA2 hA4 hA8 h2 h4 h6 h7 h8 ho
      rintro e S ⟨hk, hA2, hA4, hA8, ho, h2, h4, h6, h7, h8⟩
      by_cases h61 : c1.2.1 = 61
      · rw [if_pos h61] at hpar
        have h61d : decide (c1.2.1 ≠ 61) = false := by simp [h61]
        -- a value was read
        have tail : ∀ (S : St) (w : Bs) (b' : UInt8) (r' : Bs), parL rest = some ((upOf c1.1, w), b', r') → Kept st S → At S b2 Z → At S b4 [.str nm, pv, .str []] → At S b8 [.str (upOf c1.1), .str w] → Own st S 2 pv (acc.map fV) →
            ∃ v' s' S', Ab.appV 2 S.tok1 pv (.sl 2 (.own S.toks.length) [fV (upOf c1.1, w)]) = some (v', s') ∧ storePV s' 1 (.ptr b4 1) v' = some S' ∧ r'.length < rest.length ∧ loadPV S false 1 (.ptr b4 1) = some pv ∧ loadPV S true 2 (.ptr b8 0) = some (.agg [.str (upOf c1.1), .str w]) ∧ (∀ E' : Env, E' 2 = .ptr b2 0 → E' 4 = .ptr b4 0 → E' 6 = .b8 b' → E' 7 = .str r' → J r' E' S') := by
          intro S w b' r' hp hk hA2 hA4 hA8 ho
          have hlt := parL_lt hp
          simp only at hlt
          obtain ⟨v', s', q1, q2, q3, q4⟩ := hk.appV (u := fV (upOf c1.1, w)) (w := .undef) ho (by simp [room]; omega)
          obtain ⟨S', q5, w5⟩ := (hA4.bx q4).st1 (off := 1) (v := v') (own_leaf q3).1 ((own_leaf q3).2 _) (by simp)
          refine ⟨v', s', S', q1, q5, hlt.1, hA4.load (k := 1) (v := pv) (r := [.str []]) rfl, hA8.ld2, fun E' k2 k4 k6 k7 => ?_⟩
          rw [hJ]
          refine ⟨f, acc ++ [(upOf c1.1, w)], v', b', by omega, by simp; omega, ?_, by rw [hg, hp], w5.kp st q2 hle4, w5.ot _ _ hne24 (hA2.bx q4), w5.at_, ?_, fun h => by simp at h, k2, k4, k6, k7⟩
          · intro p hpm
            rcases List.mem_append.1 hpm with hpm | hpm
            · exact hps p hpm
            · simp only [List.mem_singleton] at hpm; subst hpm; simp only; omega
          · have := q3.tks w5.tk
            simpa using this
        have hlit : ∀ z w, litFill 2 (List.replicate 1 z) [(0, .agg [.str (upOf c1.1), .str w])] = some [fV (upOf c1.1, w)] := fun z w => lit1 rfl rfl
        have hbad : ∀ (b' : UInt8) (p : Fld) (r' : Bs), parL rest = some (p, b', r') → b' ≠ 59 → b' ≠ 58 → G = none := fun b' p r' hp k1 k2 => by
          rw [hg, hp]
          exact goL_bad k1 k2
        by_cases h34 : [34] <+: c1.2.2
        · rw [if_pos h34] at hpar
          have hpos := h34.length_le
          simp only [List.length_singleton] at hpos
          obtain ⟨d, hd⟩ : ∃ d, d = cutV [34] (c1.2.2.drop 1) := ⟨_, rfl⟩
          have hds := cutV_sum (e := [34]) (s := c1.2.2.drop 1)
          rw [← hd] at hpar hds
          simp only [List.length_drop] at hds
          have hcut := fun S : St => cut_spec (st := S) (x := c1.2.2.drop 1) (e := [34]) (by simp; omega) (by simp)
          rw [← hd] at hcut
          have hs1 : slcPV 0 (.str c1.2.2) (some (.int .i64 1)) none none = some (.str (c1.2.2.drop 1)) := by
            rw [slc_s_lo (by omega) (by simpa using hpos)]; rfl
          obtain ⟨S1, a1, w1⟩ := hA8.st1 (off := 1) (v := .str d.1) Leaf_str rfl (by simp)
          have k1 := w1.kp st hk hle8
          have k2 := w1.ot _ _ hne28 hA2
          have k4 := w1.ot _ _ hne48 hA4
          have k8 : At S1 b8 [.str (upOf c1.1), .str d.1] := w1.at_
          have ko := ho.tks w1.tk
          by_cases hd0 : d.2.1 = 0
          · rw [if_pos hd0] at hpar
            simp (maxSteps := 1000000) (disch := omega) only [h6, h7, h8, eq_true h61, sHasPrefix_spec, h34, hs1, hcut, faddrPV, Nat.zero_add, a1, eq_true hd0, qaaz, qabz, qacz, qaez, qahz, qajz, qakz, qalz, qamz, qanz, evOp, qaoz, qapz, qaqz, qarz, qatz, qauz, qavz,
 ↓reduceIte, Nat.reduceEqDiff, List.map_cons, List.map_nil, Option.map_some, Option.map_none, qazz, qbcz, qbgz, qbhz, qbkz, qbvz, qbwz, beq_false, decide_true, decide_false,
 Bool.false_eq_true, qcjz, List.getElem?_cons_zero, List.getElem?_cons_succ, Bool.not_true, ne_eq, not_true_eq_false]
            exact wr _ _ k1 k2 h2 (by rw [hg, hpar])
          · rw [if_neg hd0] at hpar
            by_cases hr : d.2.2 = []
            · simp (maxSteps := 1000000) (disch := omega) only [h6, h7, h8, eq_true h61, sHasPrefix_spec, h34, hs1, hcut, faddrPV, Nat.zero_add, a1, hd0, eq_true hr, qaaz, qabz, qacz, qaez, qahz, qajz, qakz, qalz, qamz, qanz, evOp, qaoz, qapz, qaqz, qarz, qatz, qauz, qavz,
 ↓reduceIte, Nat.reduceEqDiff, List.map_cons, List.map_nil, Option.map_some, Option.map_none, qazz, qbcz, qbgz, qbhz, qbkz, qbvz, qbwz, qcbz, beq_false, decide_true, decide_false,
 Bool.false_eq_true, qcjz, List.getElem?_cons_zero, List.getElem?_cons_succ, Bool.not_false, ne_eq, not_true_eq_false]
              exact wr _ _ k1 k2 h2 (hbad _ _ _ hpar (by rw [hr]; decide) (by rw [hr]; decide))
            · have hrl := List.length_pos_iff.2 hr
              obtain ⟨b', hb'⟩ : ∃ b', b' = d.2.2.getD 0 0 := ⟨_, rfl⟩
              have hix : idxSPV (.str d.2.2) (.int .i64 0) = some (.b8 b') := by
                have := idx_s (l := d.2.2) (k := .i64) (c := 0) (by omega) (by simpa using hrl)
                rw [hb']; exact this
              have hs2 : slcPV 0 (.str d.2.2) (some (.int .i64 1)) none none = some (.str (d.2.2.drop 1)) := by
                rw [slc_s_lo (by omega) (show (1 : Int).toNat ≤ _ by rw [show (1 : Int).toNat = 1 from rfl]; omega)]; rfl
              rw [← hb'] at hpar
              obtain ⟨v', s', S', t1, t2, t3, t4, t5, t6⟩ := tail S1 d.1 b' (d.2.2.drop 1) hpar k1 k2 k4 k8 ko
              by_cases h59 : b' = 59
              · simp (maxSteps := 1000000) (disch := omega) only [h4, h6, h7, h8, eq_true h61, sHasPrefix_spec, h34, hs1, hcut, faddrPV, Nat.zero_add, a1, hd0, hr, hix, hs2, eq_true h59, t4, t5, hlit, freshT_eq, t1, t2, loopQ_normal, qaaz, qabz, qacz, qaez, qajz, qakz, qalz, qamz, qanz, evOp, qaoz, qapz, qaqz, qarz, qatz, qauz, qavz,
 ↓reduceIte, Nat.reduceEqDiff, List.map_cons, List.map_nil, Option.map_some, Option.map_none, qazz, qbdz, qbhz, qbvz, qbwz, qcbz, beq_true, beq_false, decide_true, decide_false,
 Bool.false_eq_true, qcjz, List.getElem?_cons_zero, List.getElem?_cons_succ, Bool.not_false, ne_eq, not_true_eq_false]
                exact ⟨_, t3, _, rfl, t6 _ h2 h4 rfl rfl⟩
              · by_cases h58 : b' = 58
                · simp (maxSteps := 1000000) (disch := omega) only [h4, h6, h7, h8, eq_true h61, sHasPrefix_spec, h34, hs1, hcut, faddrPV, Nat.zero_add, a1, hd0, hr, hix, hs2, h59, eq_true h58, t4, t5, hlit, freshT_eq, t1, t2, loopQ_normal, qaaz, qabz, qacz, qaez, qajz, qakz, qalz, qamz, qanz, evOp, qaoz, qapz, qaqz, qarz, qatz, qauz, qavz,
 ↓reduceIte, Nat.reduceEqDiff, List.map_cons, List.map_nil, Option.map_some, Option.map_none, qazz, qbdz, qbhz, qbvz, qbwz, qcbz, beq_true, beq_false, decide_true, decide_false,
 Bool.false_eq_true, qcjz, List.getElem?_cons_zero, List.getElem?_cons_succ, Bool.not_false, ne_eq, not_true_eq_false, not_false_eq_true]
                  exact ⟨_, t3, _, rfl, t6 _ h2 h4 rfl rfl⟩
                · simp (maxSteps := 1000000) (disch := omega) only [h6, h7, h8, eq_true h61, sHasPrefix_spec, h34, hs1, hcut, faddrPV, Nat.zero_add, a1, hd0, hr, hix, hs2, h59, h58, qaaz, qabz, qacz, qaez, qahz, qajz, qakz, qalz, qamz, qanz, evOp, qaoz, qapz, qaqz, qarz, qatz, qauz, qavz,
 ↓reduceIte, Nat.reduceEqDiff, List.map_cons, List.map_nil, Option.map_some, Option.map_none, qazz, qbcz, qbgz, qbhz, qbkz, qbvz, qbwz, qcbz, beq_true, beq_false, decide_true, decide_false,
 Bool.false_eq_true, qcjz, List.getElem?_cons_zero, List.getElem?_cons_succ, Bool.not_false, ne_eq, not_true_eq_false, not_false_eq_true]
                  exact wr _ _ k1 k2 h2 (hbad _ _ _ hpar h59 h58)
        · rw [if_neg h34] at hpar
          obtain ⟨d, hd⟩ : ∃ d, d = cutV [59, 58, 44, 34] c1.2.2 := ⟨_, rfl⟩
          have hds := cutV_sum (e := [59, 58, 44, 34]) (s := c1.2.2)
          rw [← hd] at hpar hds
          have hcut := fun S : St => cut_spec (st := S) (x := c1.2.2) (e := [59, 58, 44, 34]) (by omega) (by simp)
          rw [← hd] at hcut
          obtain ⟨S1, a1, w1⟩ := hA8.st1 (off := 1) (v := .str d.1) Leaf_str rfl (by simp)
          have k1 := w1.kp st hk hle8
          have k2 := w1.ot _ _ hne28 hA2
          have k4 := w1.ot _ _ hne48 hA4
          have k8 : At S1 b8 [.str (upOf c1.1), .str d.1] := w1.at_
          have ko := ho.tks w1.tk
          obtain ⟨v', s', S', t1, t2, t3, t4, t5, t6⟩ := tail S1 d.1 d.2.1 d.2.2 hpar k1 k2 k4 k8 ko
          simp (maxSteps := 1000000) (disch := omega) only [h4, h6, h7, h8, eq_true h61, sHasPrefix_spec, h34, hcut, faddrPV, Nat.zero_add, a1, t4, t5, hlit, freshT_eq, t1, t2, loopQ_normal, qaaz, qabz, qacz, qaez, qajz, qalz, evOp, qaoz, qapz, qaqz, qarz, qatz, qauz, qavz,
 ↓reduceIte, Nat.reduceEqDiff, List.map_cons, List.map_nil, Option.map_some, qazz, qbdz, qbhz, qbwz, decide_false,
 Bool.false_eq_true, qcjz, List.getElem?_cons_zero, List.getElem?_cons_succ, ne_eq, not_true_eq_false]
          exact ⟨_, t3, _, rfl, t6 _ h2 h4 rfl rfl⟩
      · rw [if_neg h61] at hpar
        have h61d : decide (c1.2.1 ≠ 61) = true := by simp [h61]
        simp (maxSteps := 1000000) (disch := omega) only [h6, h61, qaaz, qabz, qacz, qahz, qajz, qalz, evOp, qaoz, qapz, qarz, qatz, qavz,
 ↓reduceIte, Option.map_some, qazz, qbcz, qbgz, qbhz, qbkz, qbwz, decide_true, ne_eq, not_false_eq_true]
        exact wr _ _ hk hA2 h2 (by rw [hg, hpar])
    · simp (maxSteps := 1000000) (disch := omega) only [h6, hb, qaaz, qabz, qacz, qagz, qajz, qalz, evOp, qaoz, qapz, qarz, qatz, qavz,
 ↓reduceIte, Option.map_some, qazz, qbbz, qbfz, qbhz, qbjz, qbvz, decide_false,
 Bool.false_eq_true]
      rw [hQQ]
      exact .inl ⟨rfl, rest, by rw [hJ]; exact ⟨fuel, acc, pv, b, hf, hal, hps, hg, hk, hA2, hA4, ho, hn, h2, h4, h6, h7⟩, by show e 6 ≠ .b8 59; rw [h6]; simpa using hb⟩
  · clear hk hA2 hA4 h2 h4 h6 h7
    rintro e S ⟨rest, hh, h59⟩
    rw [hJ] at hh
    obtain ⟨fuel, acc, pv, b, hf, hal, hps, hg, hk, hA2, hA4, ho, hn, h2, h4, h6, h7⟩ := hh
    rw [h6] at h59
    have h59' : b ≠ 59 := fun q => h59 (by rw [q])
    obtain ⟨f, rfl⟩ : ∃ f, fuel = f + 1 := ⟨fuel - 1, by omega⟩
    rw [goL, if_neg h59'] at hg
    obtain ⟨S1, a1, w1⟩ := hA4.st1 (off := 2) (v := .str rest) Leaf_str rfl (by simp)
    have k1 := w1.kp st hk hle4
    have k2 := w1.ot _ _ hne24 hA2
    have k4 : At S1 b4 [.str nm, pv, .str rest] := w1.at_
    have ko := ho.tks w1.tk
    clear hk hA2 hA4 ho w1
    by_cases h58 : b = 58
    · rw [if_pos h58] at hg
      rw [hg] at hone
      have hok : (⟨nm, pv, acc, rest⟩ : Ln).okR := ⟨own_vs ko, (own_leaf ko).2, (own_leaf ko).1.2, hnl, by simp only; omega, by simp only; omega, hps⟩
      have hrt := fun S : St => sRightR_spec (st := S) hok
      simp only [lV] at hrt
      rw [rtB_pv (w := .nils)] at hrt
      simp only [oneG] at hone
      cases hrb : rtB ⟨nm, .nils, acc, rest⟩ with
      | true =>
        rw [hrb] at hrt hone
        rw [if_pos rfl] at hone
        rw [hZ] at k2
        obtain ⟨S2, a2, w2⟩ := k2.st3 (v0 := .str nm) (v1 := pv) (v2 := .str rest) rfl (own_leaf ko).1.2 rfl rfl ((own_leaf ko).2 _) rfl
        simp (maxSteps := 1000000) (disch := omega) only [h2, h4, h6, h7, faddrPV, Nat.zero_add, a1, eq_true h58, k4.ld3, hrt, a2, qaaz, qabz, qacz, qaez, qaiz, qajz, qakz, qalz, qamz, qanz, evOp, qaoz, qapz, qaqz, qarz, qatz, qauz, qavz,
 ↓reduceIte, Nat.reduceEqDiff, List.map_cons, List.map_nil, Option.map_some, qazz, qbaz, qbhz, qbwz, qcfz, beq_false, decide_false,
 Bool.false_eq_true, Bool.not_true, Bool.not_false, ne_eq, not_true_eq_false]
        exact fin _ _ _ _ _ _ (w2.kp st k1 (by omega)) (ko.tks w2.tk) hn w2.at_ hone h2 rfl
      | false =>
        rw [hrb] at hrt hone
        rw [if_neg (by simp)] at hone
        simp (maxSteps := 1000000) (disch := omega) only [h4, h6, h7, faddrPV, Nat.zero_add, a1, eq_true h58, k4.ld3, hrt, qaaz, qabz, qacz, qahz, qajz, qakz, qalz, qamz, qanz, evOp, qaoz, qapz, qaqz, qarz, qatz, qauz, qavz,
 ↓reduceIte, Nat.reduceEqDiff, List.map_cons, List.map_nil, Option.map_some, qazz, qbcz, qbhz, qbwz, qcfz, beq_false, decide_false,
 Bool.false_eq_true, Bool.not_false, ne_eq, not_true_eq_false]
        exact wrong _ _ k1 k2 h2 hone
    · rw [if_neg h58] at hg
      simp (maxSteps := 1000000) (disch := omega) only [h4, h6, h7, faddrPV, Nat.zero_add, a1, h58, qaaz, qabz, qacz, qahz, qajz, qakz, qalz, qamz, qanz, evOp, qaoz, qapz, qarz, qatz, qauz, qavz,
 ↓reduceIte, Nat.reduceEqDiff, Option.map_some, qazz, qbcz, qbhz, qbwz, beq_false, decide_true, Bool.false_eq_true, Bool.not_true, ne_eq, not_false_eq_true]
      exact wrong _ _ k1 k2 h2 (hnone hg)
end Go.Ab
/-
  Lines are read, walked.
-/
namespace Go.Ab
set_option maxRecDepth 20000
variable {st s : St} {e : Env}

theorem sLines_spec {x : PV} {l : Bs} (hx : x.by = some l) : call prog (.fn 97 []) [x] st = some (.fn 102 [.ptr st.boxes.length 0], { boxes := st.boxes ++ [[x]], toks := st.toks, loops := st.loops, low := min st.low st.boxes.length }) := by
  refine call_of_W prog_97 ?_
  unfold F_sheet_lines; dsimp only
  have hc := Leaf_by hx
  simp (maxSteps := 1000000) (disch := omega) only [by_inB hx, and_self, allocPV, hc.1, hc.2, capOk, List.all_cons, List.all_nil, Bool.and_true, qaaz, qabz, qaiz, qajz, qalz, evOp, qaoz, qapz, qarz, qatz, qavz,
 ↓reduceIte, Nat.reduceEqDiff, List.append_nil, List.map_cons, List.map_nil, qawz, qazz, qblz]
  exact ⟨.fn 102 [.ptr st.boxes.length 0], rfl, by simp [leave, PV.inB, PV.inB.inBAll]⟩

theorem slines_iter {x : PV} {l : Bs} (hx : x.by = some l) (hl : l.length ≤ 100000000) {b k : Nat} {P : List (Nat × Bs × Bool) → St → Prop} {D : St → Prop}
    (hbox : ∀ r s, P r s → s.boxes[b]? = some [x]) (htok : ∀ r s, P r s → P r s.tok1)
    (hE : ∀ s q, P [q] s → q.2.2 = false → ∃ t s', call prog (.yld k) [.int .i64 (q.1 : Int), .nils] s = some (.bool t, s') ∧ D s')
    (hY : ∀ q r s v, P (q :: r) s → q.2.2 = true → v.by = some (full q) → (∃ s', call prog (.yld k) [.int .i64 (q.1 : Int), v] s = some (.bool true, s') ∧ P r s') ∨ (∃ s', call prog (.yld k) [.int .i64 (q.1 : Int), v] s = some (.bool false, s') ∧ D s'))
    (h0 : P (refLines l) { st with low := st.boxes.length }) : ∃ s1, (D s1 ∨ P [] s1) ∧ call prog (.fn 102 [.ptr b 0]) [.yld k] st = some (leave st s1 (.tup [])) := by
  have key : W prog F_sheet_lines_c1.body (env0 ([.yld k] ++ [.ptr b 0])) { st with low := st.boxes.length } (fun xx e1 s1 => (xx = .normal ∨ xx = .ret) ∧ (D s1 ∨ P [] s1)) := by
    obtain ⟨QQ, hQQ⟩ : ∃ QQ : Ex → Env → St → Prop, QQ = fun xx e1 s1 => (xx = .normal ∨ xx = .ret) ∧ (D s1 ∨ P [] s1) := ⟨_, rfl⟩
    rw [← hQQ]
    unfold F_sheet_lines_c1; dsimp only
    simp (maxSteps := 1000000) (disch := omega) only [qaaz, qabz, qadz, qajz, qalz, evOp, qapz, qarz, qatz, List.nil_append, List.cons_append, qazz]
    obtain ⟨I, hI⟩ : ∃ I : Nat → Env → St → Prop, I = fun n e s => ∃ (a : Nat), n = l.length - a ∧ a ≤ l.length ∧ P (place a (segs (l.drop a) [])) s ∧ e 0 = .yld k ∧ e 1 = .ptr b 0 ∧ e 3 = .int .i64 (a : Int) := ⟨_, rfl⟩
    refine W_loop I ?_ (n := l.length) (by rw [hI]; exact ⟨0, rfl, by omega, h0, rfl, rfl, rfl⟩)
    intro n e s h
    rw [hI] at h
    obtain ⟨a, rfl, ha, hP, e0, e1, e3⟩ := h
    have hb := hbox _ _ hP
    have hld : loadPV s false 1 (.ptr b 0) = some x := by simp [loadPV, hb, readCells]
    by_cases hal : a < l.length
    · have hd := dropB_by (i := a) hx
      have hP1 := htok _ _ hP
      have hb1 := hbox _ _ hP1
      have hld1 : loadPV s.tok1 false 1 (.ptr b 0) = some x := by simp [loadPV, hb1, readCells]
      have htk : s.tok1.toks[s.toks.length]? = some true := by simp [St.tok1]
      have hidx : call prog (.fn 32 []) [x.dropB a, .bys (.own s.toks.length) [13, 10]] s.tok1 = some (.int .i64 (Lib.index (l.drop a) [13, 10]), s.tok1) := bIndex_spec hd rfl (by simp; omega) (by simp)
      rcases segs_index (l.drop a) [] with ⟨i1, i2⟩ | ⟨n, i1, i2, i3⟩
      · have hq : ¬ ([] : List UInt8) ++ l.drop a = [] := fun hq => by
          have := congrArg List.length hq
          simp at this; omega
        rw [i2, if_neg hq] at hP1
        obtain ⟨t, s', c1, c2⟩ := hE _ _ hP1 rfl
        simp only at c1
        simp (maxSteps := 1000000) (disch := omega) only [e0, e1, e3, hld, len_by hx, hal, slc_lo hx, lit8_2, freshT_eq, htk, hidx, i1, Int.reduceNeg, Int.reduceLT, c1, qaaz, qabz, qacz, qadz, qaez, qaiz, qajz, qalz, evOp, qaoz, qapz, qaqz, qarz, qatz, qavz,
 ↓reduceIte, Nat.reduceEqDiff, List.map_cons, List.map_nil, Option.map_some, Option.map_none, qazz, qbaz, qbez, qbhz, qbiz, qbpz, decide_true, Int.toNat_natCast, Int.ofNat_lt, reduceCtorEq, Int.reduceLT]
        rw [hQQ]; exact ⟨.inr rfl, .inl c2⟩
      · simp only [List.length_drop] at i2
        have hm := midB_by (i := a) (j := a + n + 2) hx
        have hfull : (l.take (a + n + 2)).drop a = full (a, (l.drop a).take n, true) := by
          simp only [full, if_true]
          rw [List.drop_take, show a + n + 2 - a = n + 2 by omega, segs_take i1]
        rw [i3] at hP1
        simp only [place, List.nil_append] at hP1
        have hlen : ((l.drop a).take n).length = n := by simp; omega
        rw [hlen, List.drop_drop, show a + (n + 2) = a + n + 2 by omega] at hP1
        have hn0 : ¬ ((n : Int) < 0) := by omega
        rcases hY (a, (l.drop a).take n, true) _ s.tok1 (x.midB a (a + n + 2)) hP1 rfl (by rw [hm, hfull]) with ⟨s', c1, c2⟩ | ⟨s', c1, c2⟩
        · simp (maxSteps := 1000000) (disch := omega) only [e0, e1, e3, hld, len_by hx, hal, slc_lo hx, lit8_2, freshT_eq, htk, hidx, hld1, i1, hn0, add_n, slc_lohi hx, c1, qaaz, qabz, qacz, qadz, qaez, qajz, qalz, evOp, qaoz, qapz, qaqz, qarz, qatz, qavz,
 ↓reduceIte, Nat.reduceEqDiff, List.map_cons, List.map_nil, Option.map_some, Option.map_none, qazz, qbdz, qbhz, qbpz, qcfz, decide_true, decide_false,
 Int.toNat_natCast, Int.ofNat_lt, Bool.false_eq_true, Int.reduceToNat, reduceCtorEq, Bool.not_true]
          refine loopQ_intro (m := l.length - (a + (n + 2))) (by omega) ?_
          rw [hI]
          exact ⟨a + (n + 2), rfl, by omega, by rw [show a + (n + 2) = a + n + 2 by omega]; exact c2, e0, e1, rfl⟩
        · simp (maxSteps := 1000000) (disch := omega) only [e0, e1, e3, hld, len_by hx, hal, slc_lo hx, lit8_2, freshT_eq, htk, hidx, hld1, i1, hn0, add_n, slc_lohi hx, c1, qaaz, qabz, qacz, qadz, qaez, qaiz, qajz, qalz, evOp, qaoz, qapz, qaqz, qarz, qatz, qavz,
 ↓reduceIte, Nat.reduceEqDiff, List.map_cons, List.map_nil, Option.map_some, Option.map_none, qazz, qbaz, qbez, qbhz, qbiz, qbpz, qcfz, decide_true, decide_false,
 Int.toNat_natCast, Int.ofNat_lt, Bool.false_eq_true, Int.reduceToNat, reduceCtorEq, Bool.not_false]
          rw [hQQ]; exact ⟨.inr rfl, .inl c2⟩
    · rw [List.drop_of_length_le (by omega)] at hP
      have hP' : P [] s := hP
      simp (maxSteps := 1000000) (disch := omega) only [e1, e3, hld, len_by hx, hal, qaaz, qabz, qacz, qagz, qajz, qalz, evOp, qaoz, qarz, qatz, qavz,
 ↓reduceIte, Nat.reduceEqDiff, Option.map_some, qazz, qbbz, qbfz, qbhz, qbjz, qbpz, decide_false,
 Int.ofNat_lt, Bool.false_eq_true]
      rw [hQQ]; exact ⟨.inl rfl, .inr hP'⟩
  obtain ⟨⟨xx, e1, s1⟩, h1, h2, h3⟩ := key
  refine ⟨s1, h3, ?_⟩
  rw [call_fn prog_102, h1]
  have hr : resOf e1 s1 F_sheet_lines_c1.results = some (.tup []) := rfl
  rcases h2 with rfl | rfl <;> simp [finish, hr]

theorem leave_unit {c s1 : St} : ∃ X : St, leave c s1 (.tup []) = (.tup [], X) ∧ X.boxes = s1.boxes.take c.boxes.length ∧ X.loops = s1.loops ∧ (X.low = c.low ∨ X.low = min c.low s1.low) ∧ (X.toks = s1.toks ∨ (X.toks = s1.toks.take c.toks.length ∧ c.boxes.length ≤ s1.low)) := by
  by_cases h : c.boxes.length ≤ s1.low
  · exact ⟨⟨s1.boxes.take c.boxes.length, s1.toks.take c.toks.length, s1.loops, c.low⟩, by simp [leave, PV.inB, PV.inB.inBAll, keepRes, keepVals, h], rfl, rfl, .inl rfl, .inr ⟨rfl, h⟩⟩
  · exact ⟨⟨s1.boxes.take c.boxes.length, s1.toks, s1.loops, min c.low s1.low⟩, by simp [leave, PV.inB, PV.inB.inBAll, h], rfl, rfl, .inr rfl, .inl rfl⟩
theorem At.take {X : St} {b n : Nat} {cs : List PV} (h : At s b cs) (hb : b < n) (hX : X.boxes = s.boxes.take n) : At X b cs := by
  unfold At at *; rw [hX, List.getElem?_take, if_pos hb]; exact h
def stL (st : St) (rs : List LoopS) : St := ⟨st.boxes, st.toks, st.loops ++ rs, st.low⟩
theorem At.stk {S : St} {b : Nat} (h : At S b [.nils]) : storePV S 1 (.ptr b 0) .nils = some S := by
  unfold At at h
  have h2 := (List.getElem?_eq_some_iff.1 h)
  obtain ⟨hlt, hg⟩ := h2
  have : S.boxes.set b [.nils] = S.boxes := by rw [← hg]; simp
  simp [storePV, h, PV.cells, PV.inB, setCells, leafOk, hasTok, tokOf, this]
theorem At.st1own {S : St} {b i esz : Nat} {c : PV} {xs : List PV} (h : At S b [c]) : ∃ S', storePV S 1 (.ptr b 0) (.sl esz (.own i) xs) = some S' ∧ Wrote S S' b [.sl esz (.own i) xs] ∧ S'.low ≤ b := by
  refine ⟨_, ?_, wrote_set (ds := [.sl esz (.own i) xs]) (lo := min S.low b) h (.inr rfl), by simp only; omega⟩
  unfold At at h
  simp [storePV, h, PV.cells, PV.inB, setCells, leafOk, hasTok, tokOf]

def dV (d : LnD) : PV := lV (toLn d)
def readV (st : St) : Except (Nat × Int) (List LnD) → PV × St
  | .error (j, c) => (.tup [.nils, .agg [.int .i64 (j : Int), .int .i64 c]], st)
  | .ok ds => (.tup [newSl st 3 (ds.map dV), .agg [.int .i64 0, .int .i64 0]], newS st (ds.map dV).isEmpty)
def preE (ds : List LnD) : Except Nat (List LnD) → Except Nat (List LnD)
  | .error j => .error j
  | .ok l => .ok (ds ++ l)
theorem preE_nil {r : Except Nat (List LnD)} : preE [] r = r := by cases r <;> rfl
theorem leave_rows {S : St} {v : PV} {xs : List PV} {a c : Int} (hk : Kept st S) (h : Own st S 3 v xs) (hne : xs = [] → v = .nils) :
    leave st S (.tup [v, .agg [.int .i64 a, .int .i64 c]]) = (.tup [newSl st 3 xs, .agg [.int .i64 a, .int .i64 c]], newS st xs.isEmpty) := by
  have e1 := hk.bx; have e2 := hk.lp; have e3 := hk.tk
  rcases h with ⟨rfl, rfl⟩ | ⟨i, rfl, h2, h3⟩
  · simp [leave, PV.inB, PV.inB.inBAll, hk.lw, keepRes, keepVals, keepVal, keepCells, keepLeaf, newSl, newS, e1, e2, e3]
  · by_cases hx : xs = []
    · have := hne hx; cases this
    · simp [leave, PV.inB, PV.inB.inBAll, hk.lw, keepRes, keepVals, keepVal, keepCells, keepLeaf, keepTok, newSl, newS, hx, h3, show ¬ i < st.toks.length by omega, e1, e2, e3, St.tok1]
theorem lit_line {S : St} {d : LnD} {z : PV} : litFill 3 (List.replicate 1 z) [(0, .agg [.str d.1, newSl S 2 (d.2.1.map fV), .str d.2.2])] = some [dV d] := by
  refine lit1 ?_ rfl
  obtain ⟨n, ps, v⟩ := d
  cases ps with
  | nil => simp [newSl, strip, stripAll, stripLeaf, dV, lV, toLn]
  | cons p r => simp [newSl, strip, stripAll, stripLeaf, dV, lV, toLn]
theorem newS_bx {S : St} {b : Bool} : (newS S b).boxes = S.boxes ∧ (newS S b).low = S.low ∧ (newS S b).loops = S.loops := by cases b <;> exact ⟨rfl, rfl, rfl⟩
theorem Kept.newS {S : St} {b : Bool} (h : Kept st S) : Kept st (newS S b) := by cases b; exact h.tok1; exact h
theorem Own.newS {S : St} {b : Bool} {esz : Nat} {v : PV} {xs : List PV} (h : Own st S esz v xs) : Own st (newS S b) esz v xs := by cases b; exact h.tok1; exact h
theorem newSl_leaf {S : St} {esz : Nat} {xs : List PV} : leafOk (newSl S esz xs) = true ∧ ∀ n, (newSl S esz xs).inB n = true := by unfold newSl; split <;> exact ⟨rfl, fun _ => rfl⟩
end Go.Ab
/-
  Lines are read, walked.
-/
namespace Go.Ab
set_option maxRecDepth 20000
variable {st s : St} {e : Env}

theorem eqnB {t : Tok} {l : List UInt8} : binPV .eql .slice (.bys t l) .nils = some (.bool false) := rfl
theorem eqnN : binPV .eql .slice .nils .nils = some (.bool true) := rfl
theorem lenB {t : Tok} {l : List UInt8} : lenPV false (.bys t l) = some (.int .i64 (l.length : Int)) := rfl
theorem own_len {esz : Nat} {v : PV} {xs : List PV} (h : Own st s esz v xs) : lenPV false v = some (.int .i64 (xs.length : Int)) := by
  rcases h with ⟨rfl, rfl⟩ | ⟨i, rfl, _⟩ <;> simp [lenPV]
theorem Kept.swap {S : St} {r r' : LoopS} (h : Kept (stL st [r]) S) : Kept (stL st [r']) { S with loops := S.loops.set st.loops.length r' } := by
  refine ⟨h.bx, ?_, h.lw, h.tk⟩
  have := h.lp
  simp only [stL] at this ⊢
  rw [this, set_app0]
theorem Kept.lget {S : St} {r : LoopS} (h : Kept (stL st [r]) S) : S.loops[st.loops.length]? = some r := by
  have := h.lp
  simp only [stL] at this
  rw [this]; exact get_app0

theorem segs_each : ∀ (k : Nat) (l acc : Bs), l.length ≤ k → ∀ q ∈ segs l acc, q.1.length ≤ acc.length + l.length := by
  intro k
  induction k with
  | zero =>
    intro l acc h q hq
    have : l = [] := List.eq_nil_of_length_eq_zero (by omega)
    subst this
    simp only [segs] at hq
    split at hq
    · simp at hq
    · simp only [List.mem_singleton] at hq; subst hq; simp
  | succ k ih =>
    intro l acc h q hq
    match l with
    | [] =>
      simp only [segs] at hq
      split at hq
      · simp at hq
      · simp only [List.mem_singleton] at hq; subst hq; simp
    | [c] => simp only [segs, List.mem_singleton] at hq; subst hq; simp
    | c :: d :: r =>
      simp only [segs] at hq
      split at hq
      · rcases List.mem_cons.1 hq with rfl | hq
        · (first | (simp; done) | (simp; omega))
        · have := ih r [] (by simp at h; omega) q hq
          simp at this ⊢; omega
      · have := ih (d :: r) (acc ++ [c]) (by simp at h ⊢; omega) q hq
        simp at this ⊢; omega
theorem place_mem : ∀ (p : List (Bs × Bool)) (a : Nat) (q : Nat × Bs × Bool), q ∈ place a p → q.2 ∈ p := by
  intro p
  induction p with
  | nil => intro a q h; simp [place] at h
  | cons z r ih =>
    intro a q h
    obtain ⟨b, w⟩ := z
    simp only [place, List.mem_cons] at h
    rcases h with rfl | h
    · simp
    · exact List.mem_cons_of_mem _ (ih _ _ h)
theorem refLines_each {l : Bs} {q : Nat × Bs × Bool} (h : q ∈ refLines l) : q.2.1.length ≤ l.length := by
  have := segs_each l.length l [] (Nat.le_refl _) q.2 (place_mem _ _ _ h)
  simpa using this

set_option maxHeartbeats 8000000 in
theorem Read_big {y : PV} {l : Bs} (hy : y.by = some l) (hl : l.length ≤ 1048576) (hq : ∀ q ∈ refLines (unfV l), q.2.1.length ≤ 1000000) (hN : (refLines (unfV l)).length ≤ 4096) : call prog (.fn 89 []) [y] st = some (readV st (readL l)) := by
  refine call_of_W prog_89 ?_
  unfold F_sheet_Read; dsimp only
  generalize hQ1 : endQ st _ _ = Q0
  have hQ0 : Q0 = endQ st [.cell 2 false 1, .cell 3 true 2] (readV st (readL l)) := hQ1.symm
  clear hQ1
  obtain ⟨b2, hb2⟩ : ∃ b2, b2 = st.boxes.length := ⟨_, rfl⟩
  obtain ⟨b3, hb3⟩ : ∃ b3, b3 = st.boxes.length + 1 := ⟨_, rfl⟩
  have hne23 : b2 ≠ b3 := by omega
  obtain ⟨u, hu⟩ : ∃ u, u = unfV l := ⟨_, rfl⟩
  have hul : u.length ≤ 1048576 := by rw [hu]; exact Nat.le_trans (unfV_len _ l (Nat.le_refl _)) hl
  rw [← hu] at hN hq
  have hq' := hq
  clear hq
  have hrd : readL l = match ptsOf (u.length + 1) u 0 with
    | .error j => .error (j, 20)
    | .ok _ => (match readG (refLines u) with
      | .ok l => .ok l
      | .error j => .error (j, 90)) := by rw [hu]; rfl
  obtain ⟨bst, hbst⟩ : ∃ f : Int → Int → PV, f = fun a c => .agg [.int .i64 a, .int .i64 c] := ⟨_, rfl⟩
  have finE : ∀ (E : Env) (S : St) (j : Nat) (c : Int), Kept st S → At S b2 [.nils] → At S b3 [.int .i64 (j : Int), .int .i64 c] → readL l = .error (j, c) → E 2 = .ptr b2 0 → E 3 = .ptr b3 0 → Q0 .ret E S := by
    intro E S j c k1 k2 k3 ho e2 e3
    rw [hQ0, qblz]
    have h2 := k2.load (k := 0) (v := .nils) (r := []) rfl
    refine ⟨.tup [.nils, .agg [.int .i64 (j : Int), .int .i64 c]], by simp [resOf, rvAll, rv1, e2, e3, h2, k3.ld2, notTup, packRes], ?_⟩
    rw [ho]
    exact k1.leave' ⟨fun _ => rfl, fun _ _ => rfl⟩
  have finO : ∀ (E : Env) (S : St) (out : PV) (ds : List LnD), Kept st S → At S b2 [out] → At S b3 [.int .i64 0, .int .i64 0] → Own st S 3 out (ds.map dV) → (ds.map dV = [] → out = .nils) → readL l = .ok ds → E 2 = .ptr b2 0 → E 3 = .ptr b3 0 → Q0 .ret E S := by
    intro E S out ds k1 k2 k3 ko kn ho e2 e3
    rw [hQ0, qblz]
    have h2 := k2.load (k := 0) (v := out) (r := []) rfl
    have hnt := own_nt ko
    refine ⟨.tup [out, .agg [.int .i64 0, .int .i64 0]], by rcases ko with ⟨rfl, _⟩ | ⟨i, rfl, _⟩ <;> simp [resOf, rvAll, rv1, e2, e3, h2, k3.ld2, notTup, packRes], ?_⟩
    rw [ho]
    exact leave_rows k1 ko kn
  refine W_cut (fun E S => Kept st S ∧ At S b2 [.nils] ∧ At S b3 [.int .i64 0, .int .i64 0] ∧ E 0 = y ∧ E 2 = .ptr b2 0 ∧ E 3 = .ptr b3 0) ?_ ?_
  · simp (maxSteps := 1000000) (disch := omega) only [allocPV, qabz, qajz, qalz, evOp, qarz, qatz, qavz,
 ↓reduceIte, Nat.reduceEqDiff, List.append_nil, qawz, true_and, reduceCtorEq]
    refine ⟨Kept.start.alloc'.alloc', ?_, ?_, by rw [hb2], by rw [hb3]; simp⟩
    · rw [hb2]; exact (At.last (s := ⟨st.boxes, st.toks, st.loops, st.boxes.length⟩) (z := [.nils]) (T := st.toks) (Lp := st.loops) (lo := st.boxes.length)).alloc
    · rw [hb3]; unfold At; simp
  rintro e S ⟨hk, hA2, hA3, h0, h2, h3⟩
  refine W_cut (fun E S => Kept st S ∧ At S b2 [.nils] ∧ At S b3 [.int .i64 0, .int .i64 0] ∧ E 0 = y ∧ E 2 = .ptr b2 0 ∧ E 3 = .ptr b3 0) ?_ ?_
  · have e1 : ¬ (1048576 : Int) < (l.length : Int) := by omega
    simp (maxSteps := 1000000) (disch := omega) only [h0, h2, h3, len_by hy, e1, qaaz, qabz, qacz, qaez, qajz, qalz, evOp, qaoz, qapz, qarz, qatz, qavz,
 ↓reduceIte, Nat.reduceEqDiff, Option.map_some, qazz, qbhz, qbrz, decide_false,
 Bool.false_eq_true, true_and, and_true, reduceCtorEq]
    exact ⟨hk, hA2, hA3⟩
  clear hk hA2 hA3 h0 h2 h3
  rintro e S ⟨hk, hA2, hA3, h0, h2, h3⟩
  refine W_cut (fun E S => Kept st S ∧ At S b2 [.nils] ∧ At S b3 [.int .i64 0, .int .i64 0] ∧ (∃ x, E 0 = x ∧ x.by = some u) ∧ E 2 = .ptr b2 0 ∧ E 3 = .ptr b3 0) ?_ ?_
  · obtain ⟨⟨x, S'⟩, q1, T, q2, q3⟩ := unfold_spec (st := S) hy (by omega)
    simp only at q2 q3
    rw [q2] at q1
    rw [← hu] at q3
    simp (maxSteps := 1000000) (disch := omega) only [h0, h2, h3, q1, qabz, qajz, qalz, evOp, qaoz, qaqz, qarz, qatz, qavz,
 ↓reduceIte, Nat.reduceEqDiff, List.map_cons, List.map_nil, true_and, and_true, reduceCtorEq, exists_eq_left']
    exact ⟨hk.toks, hA2.bx rfl, hA3.bx rfl, q3⟩
  clear hk hA2 hA3 h0 h2 h3
  rintro e S ⟨hk, hA2, hA3, ⟨x, h0, hx⟩, h2, h3⟩
  obtain ⟨b5, hb5⟩ : ∃ b5, b5 = S.boxes.length := ⟨_, rfl⟩
  have hne25 : b2 ≠ b5 := by have := hA2.lt; omega
  have hne35 : b3 ≠ b5 := by have := hA3.lt; omega
  have hle5 : st.boxes.length ≤ b5 := by have := hk.bl; omega
  have hpt := uPoints_spec (st := S) hx (by omega)
  have hA5 := At.last (s := S) (z := [.int .i64 0, .int .i64 0]) (T := S.toks) (Lp := S.loops) (lo := S.low)
  refine W_cutX (fun E S => Kept st S ∧ At S b2 [.nils] ∧ At S b3 [.int .i64 0, .int .i64 0] ∧ (∃ r, ptsOf (u.length + 1) u 0 = .ok r) ∧ E 0 = x ∧ E 2 = .ptr b2 0 ∧ E 3 = .ptr b3 0) ?_ ?_
  · cases hp : ptsOf (u.length + 1) u 0 with
    | error j =>
      rw [hp] at hpt hrd
      simp only [ptsV] at hpt
      rw [← hb5] at hA5
      obtain ⟨S1, a1, w1⟩ := hA5.st2 (v0 := .int .i64 (j : Int)) (v1 := .int .i64 20) rfl rfl rfl rfl
      have k1 := w1.kp st hk.alloc' hle5
      have k2 := w1.ot _ _ hne25 hA2.alloc
      have k3 := w1.ot _ _ hne35 hA3.alloc
      have hld := w1.at_.load (k := 1) (v := .int .i64 20) (r := []) rfl
      obtain ⟨S2, a2, w2⟩ := k3.st2 (v0 := .int .i64 (j : Int)) (v1 := .int .i64 20) rfl rfl rfl rfl
      simp (maxSteps := 1000000) (disch := omega) only [h0, h2, h3, hpt, allocPV, ← hb5, a1, faddrPV, Nat.zero_add, hld, w1.at_.ld2, k2.stk, a2, qaaz, qabz, qacz, qaiz, qajz, qalz, evOp, qaoz, qapz, qaqz, qarz, qatz, qauz, qavz,
 ↓reduceIte, Nat.reduceEqDiff, List.map_cons, List.map_nil, Option.map_some, qazz, qbhz, qboz,
 qbuz, decide_true, qcjz, List.getElem?_cons_zero, List.getElem?_cons_succ, true_and, and_true, reduceCtorEq, ne_eq, Int.reduceEq, not_false_eq_true]
      right
      exact finE _ _ j 20 (w2.kp st k1 (by omega)) (w2.ot _ _ hne23 k2) w2.at_ hrd h2 h3
    | ok r =>
      rw [hp] at hpt
      simp only [ptsV] at hpt
      obtain ⟨S0, hS0⟩ : ∃ S0, S0 = newS S (r.map ptV).isEmpty := ⟨_, rfl⟩
      obtain ⟨nb, nl, np⟩ := newS_bx (S := S) (b := (r.map ptV).isEmpty)
      have k0 := hk.newS (b := (r.map ptV).isEmpty)
      rw [← hS0] at hpt nb nl np k0
      have hA5' := At.last (s := S0) (z := [.int .i64 0, .int .i64 0]) (T := S0.toks) (Lp := S0.loops) (lo := S0.low)
      have hb5' : b5 = S0.boxes.length := by rw [nb]; exact hb5
      rw [← hb5'] at hA5'
      obtain ⟨S1, a1, w1⟩ := hA5'.st2 (v0 := .int .i64 0) (v1 := .int .i64 0) rfl rfl rfl rfl
      have k1 := w1.kp st k0.alloc' hle5
      have k2 := w1.ot _ _ hne25 (hA2.bx nb).alloc
      have k3 := w1.ot _ _ hne35 (hA3.bx nb).alloc
      have hld := w1.at_.load (k := 1) (v := .int .i64 0) (r := []) rfl
      simp (maxSteps := 1000000) (disch := omega) only [h0, h2, h3, hpt, allocPV, ← hb5', a1, faddrPV, Nat.zero_add, hld, qaaz, qabz, qacz, qaez, qajz, qalz, evOp, qaoz, qapz, qaqz, qarz, qatz, qauz, qavz,
 ↓reduceIte, Nat.reduceEqDiff, List.map_cons, List.map_nil, Option.map_some, qazz, qbhz, qbuz, decide_false,
 Bool.false_eq_true, qcjz, List.getElem?_cons_zero, List.getElem?_cons_succ, true_and, and_true, reduceCtorEq, ne_eq, not_true_eq_false]
      left
      exact ⟨k1, k2, k3, ⟨r, rfl⟩⟩
  clear hk hA2 hA3 h0 h2 h3 hpt hA5
  clear hle5 hne35 hne25 hb5 b5
  rintro e S ⟨hk, hA2, hA3, ⟨r0, hpt⟩, h0, h2, h3⟩
  obtain ⟨W, hW⟩ : ∃ W, W = readG (refLines u) := ⟨_, rfl⟩
  rw [hpt, ← hW] at hrd
  simp only at hrd
  obtain ⟨b6, hb6⟩ : ∃ b6, b6 = S.boxes.length := ⟨_, rfl⟩
  have hne26 : b2 ≠ b6 := by have := hA2.lt; omega
  have hne36 : b3 ≠ b6 := by have := hA3.lt; omega
  have hle6 : st.boxes.length ≤ b6 := by have := hk.bl; omega
  refine W_cut (fun E S => Kept st S ∧ At S b2 [.nils] ∧ At S b3 [.int .i64 0, .int .i64 0] ∧ At S b6 [.nils] ∧ S.boxes.length = b6 + 1 ∧ E 0 = x ∧ E 2 = .ptr b2 0 ∧ E 3 = .ptr b3 0 ∧ E 6 = .ptr b6 0) ?_ ?_
  · simp (maxSteps := 1000000) (disch := omega) only [h0, h2, h3, allocPV, qabz, qajz, qalz, evOp, qarz, qatz, qavz,
 ↓reduceIte, Nat.reduceEqDiff, true_and, reduceCtorEq]
    exact ⟨hk.alloc', hA2.alloc, hA3.alloc, by rw [hb6]; exact At.last, by rw [hb6]; simp, by rw [hb6]⟩
  clear hk hA2 hA3 h0 h2 h3 hb6
  rintro e S ⟨hk, hA2, hA3, hA6, hbl, h0, h2, h3, h6⟩
  obtain ⟨bi, hbi⟩ : ∃ bi, bi = S.boxes.length := ⟨_, rfl⟩
  have hbi6 : bi = b6 + 1 := by omega
  have hli := sLines_spec (st := S) hx
  rw [← hbi] at hli
  -- the whole range
  obtain ⟨J, hJ⟩ : ∃ J : Env → St → Prop, J = fun E S => ∃ out ds, Kept st S ∧ At S b2 [.nils] ∧ At S b3 [.int .i64 0, .int .i64 0] ∧ At S b6 [out] ∧ Own st S 3 out (ds.map dV) ∧ (ds.map dV = [] → out = .nils) ∧ W = .ok ds ∧ E 2 = .ptr b2 0 ∧ E 3 = .ptr b3 0 ∧ E 6 = .ptr b6 0 := ⟨_, rfl⟩
  refine W_cutX J ?_ ?_
  · have hxl := Leaf_by hx
    obtain ⟨Sc, hSc⟩ : ∃ Sc : St, Sc = ⟨S.boxes ++ [[x]], S.toks, S.loops, min S.low bi⟩ := ⟨_, rfl⟩
    rw [← hSc] at hli
    have kc : Kept st Sc := by
      have h1 := hk.alloc' (z := [x])
      rw [hSc]
      exact ⟨h1.bx, h1.lp, by have := hk.lw; have := hk.bl; simp only; omega, h1.tk⟩
    have c2 : At Sc b2 [.nils] := by rw [hSc]; exact hA2.alloc
    have c3 : At Sc b3 [.int .i64 0, .int .i64 0] := by rw [hSc]; exact hA3.alloc
    have c6 : At Sc b6 [.nils] := by rw [hSc]; exact hA6.alloc
    have ci : At Sc bi [x] := by rw [hSc, hbi]; exact At.last
    have cbl : Sc.boxes.length = b6 + 2 := by rw [hSc]; simp; omega
    clear hSc hk hA2 hA3 hA6 hbi hbl
    rw [qaaz]
    simp (maxSteps := 1000000) (disch := omega) only [h0, hli, qazz, qabz, qajz, qalz, evOp, qaoz, qaqz, qarz, qatz, qavz,
 ↓reduceIte, List.map_cons, List.map_nil, qazz, ne_eq]
    rw [qadz]
    refine W_rangeFunc (fid := 102) (caps := [.ptr bi 0]) rfl prog_102 ?_
    generalize hrec : recOf _ _ _ _ = rec
    have hra := congrArg LoopS.assign hrec.symm
    have hrb := congrArg LoopS.body hrec.symm
    dsimp only [recOf] at hra hrb
    have r0 : rec.status = 0 := by rw [← hrec]; rfl
    have r1 : rec.pend = .normal := by rw [← hrec]; rfl
    have r2 : rec.params = [28, 29] := by rw [← hrec]; rfl
    have r3 : rec.env 2 = .ptr b2 0 := by rw [← hrec]; exact h2
    have r4 : rec.env 3 = .ptr b3 0 := by rw [← hrec]; exact h3
    have r6 : rec.env 6 = .ptr b6 0 := by rw [← hrec]; exact h6
    have r5 : rec = { rec with status := 0, pend := .normal } := by rw [← hrec]; rfl
    clear hrec
    have hlp := kc.lp
    obtain ⟨P, hP⟩ : ∃ P : List (Nat × Bs × Bool) → St → Prop, P = fun r S => ∃ out ds, Kept (stL st [rec]) S ∧ At S b2 [.nils] ∧ At S b3 [.int .i64 0, .int .i64 0] ∧ At S b6 [out] ∧ At S bi [x] ∧ Own st S 3 out (ds.map dV) ∧ (ds.map dV = [] → out = .nils) ∧ (out = .nils ∨ S.low ≤ b6) ∧ W = preE ds (readG r) ∧ ds.length + r.length ≤ 4096 ∧ ∀ q ∈ r, q.2.1.length ≤ 1000000 := ⟨_, rfl⟩
    obtain ⟨D, hD⟩ : ∃ D : St → Prop, D = fun S => ∃ j : Nat, Kept (stL st [{ rec with status := 2, pend := .ret }]) S ∧ At S b2 [.nils] ∧ At S b3 [.int .i64 (j : Int), .int .i64 90] ∧ W = .error j := ⟨_, rfl⟩
    obtain ⟨rec1, hrec1⟩ : ∃ r, r = ({ rec with status := 1 } : LoopS) := ⟨_, rfl⟩
    have hasg : ∀ (a : Int) (v : PV) (S : St), ex prog rec.assign (updAll rec.env rec.params [.int .i64 a, v]) S = some (.normal, upd (upd (upd (upd rec.env 28 (.int .i64 a)) 29 v) 7 (.int .i64 a)) 8 v, S) := fun a v S => by
      refine ex_of_W ?_
      simp (maxSteps := 1000000) (disch := omega) only [hra, r2, updAll, qaaz, qabz, qajz, qalz, evOp, qaoz, qarz, qatz, qavz,
 ↓reduceIte, Nat.reduceEqDiff, qazz, true_and, and_true]
    -- how a round ends with a fault
    have out : ∀ (K : Bool → St → Prop), (∀ s, D s → K false s) → ∀ (E : Env) (S : St) (j : Nat), Kept (stL st [rec1]) S → At S b2 [.nils] → At S b3 [.int .i64 (j : Int), .int .i64 90] → W = .error j → roundQ st.loops.length K .ret E S := by
      intro K hK E S j k1 k2 k3 kw
      refine ⟨rec1, k1.lget, ?_⟩
      have : decide (Ex.ret = Ex.normal) = false := rfl
      rw [this]
      apply hK
      rw [hD]
      refine ⟨j, ?_, k2.bx rfl, k3.bx rfl, kw⟩
      have := k1.swap (r' := { rec with status := 2, pend := .ret })
      first | exact this | (rw [hrec1]; exact this) | (rw [hrec1] at this; exact this)
    obtain ⟨s1, hs1, hcall⟩ := slines_iter (st := { Sc with loops := Sc.loops ++ [rec] }) hx (by omega) (b := bi) (k := st.loops.length) (P := P) (D := D)
      (fun r S h => by rw [hP] at h; obtain ⟨out, ds, _, _, _, _, h5, _⟩ := h; exact h5)
      (fun r S h => by
        rw [hP] at h ⊢
        obtain ⟨out, ds, k1, k2, k3, k6, ki, ko, kn, kl, kr⟩ := h
        exact ⟨out, ds, k1.tok1, k2, k3, k6, ki, ko.tok1, kn, kl, kr⟩)
      (fun S q h hq => by
        rw [hP] at h
        obtain ⟨out', ds, k1, k2, k3, k6, ki, ko, kn, kl, kw, kr, kq⟩ := h
        have hw : W = .error q.1 := by
          rw [kw]
          obtain ⟨a, m, w⟩ := q
          simp only at hq
          subst hq
          rfl
        refine yld_of_W (r := rec) (K := fun _ s' => D s') (args := [.int .i64 (q.1 : Int), .nils]) k1.lget r0 (by rw [r2]; rfl) (hasg q.1 .nils _) ?_
        have kk := k1.swap (r' := rec1)
        rw [← hrec1]
        obtain ⟨S0, hS0⟩ : ∃ S0 : St, S0 = { S with loops := S.loops.set st.loops.length rec1 } := ⟨_, rfl⟩
        rw [← hS0] at kk ⊢
        have j2 : At S0 b2 [.nils] := by rw [hS0]; exact k2.bx rfl
        have j3 : At S0 b3 [.int .i64 0, .int .i64 0] := by rw [hS0]; exact k3.bx rfl
        obtain ⟨S2, a2, w2⟩ := j3.st2 (v0 := .int .i64 (q.1 : Int)) (v1 := .int .i64 90) rfl rfl rfl rfl
        rw [hrb]
        simp (maxSteps := 1000000) (disch := omega) only [r3, r4, eqnN, build2 Leaf_int Leaf_int, j2.stk, a2, qaaz, qabz, qacz, qadz, qaiz, qajz, qalz, evOp, qaoz, qapz, qarz, qatz, qauz, qavz,
 ↓reduceIte, Nat.reduceEqDiff, List.map_cons, List.map_nil, Option.map_some, qazz, qbaz, qbez, qbhz, qboz]
        exact out (fun _ s' => D s') (fun s h => h) _ _ q.1 (w2.kp _ kk (by simp only [stL]; omega)) (w2.ot _ _ hne23 j2) w2.at_ hw)
      (fun q r S v h hw hv => by
        rw [hP] at h
        obtain ⟨out', ds, k1, k2, k3, k6, ki, ko, kn, kl, kw, kr, kq⟩ := h
        obtain ⟨K, hK⟩ : ∃ K : Bool → St → Prop, K = fun b s' => (b = true ∧ P r s') ∨ (b = false ∧ D s') := ⟨_, rfl⟩
        have hKD : ∀ s, D s → K false s := fun s h => by rw [hK]; exact .inr ⟨rfl, h⟩
        have hmain : ∃ b s', call prog (.yld st.loops.length) [.int .i64 (q.1 : Int), v] S = some (.bool b, s') ∧ K b s' := by
          refine yld_of_W (r := rec) (args := [.int .i64 (q.1 : Int), v]) k1.lget r0 (by rw [r2]; rfl) (hasg q.1 v _) ?_
          have kk := k1.swap (r' := rec1)
          rw [← hrec1]
          obtain ⟨S0, hS0⟩ : ∃ S0 : St, S0 = { S with loops := S.loops.set st.loops.length rec1 } := ⟨_, rfl⟩
          have hS0l : S0.low = S.low := by rw [hS0]
          have hS0t : S0.toks = S.toks := by rw [hS0]
          have j2 : At S0 b2 [.nils] := by rw [hS0]; exact k2.bx rfl
          have j3 : At S0 b3 [.int .i64 0, .int .i64 0] := by rw [hS0]; exact k3.bx rfl
          have j6 : At S0 b6 [out'] := by rw [hS0]; exact k6.bx rfl
          have ji : At S0 bi [x] := by rw [hS0]; exact ki.bx rfl
          have jo := ko.tks hS0t
          rw [← hS0] at kk ⊢
          have hfull : full q = q.2.1 ++ [13, 10] := by simp [full, hw]
          rw [hfull] at hv
          obtain ⟨t, rfl⟩ : ∃ t, v = .bys t (q.2.1 ++ [13, 10]) := by
            rcases by_cases' hv with ⟨_, h⟩ | h
            · exact absurd h (by simp)
            · exact h
          have hql := kq q (by simp)
          have hln : (q.2.1 ++ [13, 10]).length = q.2.1.length + 2 := by simp
          have hsl : slcPV 1 (.bys t (q.2.1 ++ [13, 10])) none (some (.int .i64 (((q.2.1 ++ [13, 10]).length - 2 : Nat) : Int))) none = some (.bys .no q.2.1) := by
            rw [slc_hi qcgz (by omega) (by simp)]
            simp [PV.takeB]
          have hone := One_spec (st := S0) (x := q.2.1) (by omega)
          obtain ⟨S1, hS1⟩ : ∃ S1, S1 = (oneV S0 (oneL q.2.1)).2 := ⟨_, rfl⟩
          obtain ⟨b9, hb9⟩ : ∃ b9, b9 = S0.boxes.length := ⟨_, rfl⟩
          have hne29 : b2 ≠ b9 := by have := j2.lt; omega
          have hne39 : b3 ≠ b9 := by have := j3.lt; omega
          have hne69 : b6 ≠ b9 := by have := j6.lt; omega
          have hnei9 : bi ≠ b9 := by have := ji.lt; omega
          have hle9 : st.boxes.length ≤ b9 := by have := kk.bl; simp only [stL] at this; omega
          have hl69 : b6 ≤ b9 := by have := j6.lt; omega
          rw [hrb]
          cases ho : oneL q.2.1 with
          | none =>
            rw [ho] at hone hS1
            simp only [oneV] at hone hS1
            have hwE : W = .error q.1 := by
              rw [kw]
              obtain ⟨a, m, w⟩ := q
              simp only at hw ho
              subst hw
              simp only [readG, if_true, ho]
              rfl
            have hA9 := At.last (s := S0) (z := [.str [], .nils, .str []]) (T := S0.toks) (Lp := S0.loops) (lo := S0.low)
            rw [← hb9] at hA9
            obtain ⟨S2, a2, w2⟩ := hA9.st3 (v0 := .str []) (v1 := .nils) (v2 := .str []) rfl rfl rfl rfl rfl rfl
            have m1 := w2.kp _ kk.alloc' hle9
            have m2 := w2.ot _ _ hne29 j2.alloc
            have m3 := w2.ot _ _ hne39 j3.alloc
            obtain ⟨S3, a3, w3⟩ := m3.st2 (v0 := .int .i64 (q.1 : Int)) (v1 := .int .i64 90) rfl rfl rfl rfl
            simp (maxSteps := 1000000) (disch := omega) only [r3, r4, eqnB, lenB, sub_n, hsl, b2s_by qcgz, hone, allocPV, ← hb9, a2, build2 Leaf_int Leaf_int, m2.stk, a3, qaaz, qabz, qacz, qadz, qaez, qaiz, qajz, qakz, qalz, qamz, qanz, evOp, qaoz, qapz, qaqz, qarz, qatz, qauz, qavz,
 ↓reduceIte, Nat.reduceEqDiff, List.map_cons, List.map_nil, Option.map_some, Option.map_none, qazz, qbaz, qbez, qbhz, qboz,
 qbtz, qbuz, beq_true, decide_true, decide_false,
 Bool.false_eq_true, qcjz, List.getElem?_cons_zero, List.getElem?_cons_succ, Int.reduceToNat, ne_eq, Int.reduceEq, not_false_eq_true]
            exact out K hKD _ _ q.1 (w3.kp _ m1 (by simp only [stL]; omega)) (w3.ot _ _ hne23 m2) w3.at_ hwE
          | some d =>
            rw [ho] at hone hS1
            simp only [oneV] at hone hS1
            rw [← hS1] at hone
            have hwO : W = preE (ds ++ [d]) (readG r) := by
              rw [kw]
              obtain ⟨a, m, w⟩ := q
              simp only at hw ho
              subst hw
              simp only [readG, if_true, ho]
              cases readG r with
              | ok l' => simp [preE]
              | error j => rfl
            obtain ⟨nb, nl, np⟩ := newS_bx (S := S0) (b := (d.2.1.map fV).isEmpty)
            have n0 := kk.newS (b := (d.2.1.map fV).isEmpty)
            have no := jo.newS (b := (d.2.1.map fV).isEmpty)
            rw [← hS1] at nb nl np n0 no
            have hb9' : b9 = S1.boxes.length := by rw [nb]; exact hb9
            have hA9 := At.last (s := S1) (z := [.str [], .nils, .str []]) (T := S1.toks) (Lp := S1.loops) (lo := S1.low)
            rw [← hb9'] at hA9
            obtain ⟨lf1, lf2⟩ := newSl_leaf (S := S0) (esz := 2) (xs := d.2.1.map fV)
            obtain ⟨S2, a2, w2⟩ := hA9.st3 (v0 := .str d.1) (v1 := newSl S0 2 (d.2.1.map fV)) (v2 := .str d.2.2) rfl lf1 rfl rfl (lf2 _) rfl
            have m1 := w2.kp _ n0.alloc' hle9
            have m2 := w2.ot _ _ hne29 (j2.bx nb).alloc
            have m3 := w2.ot _ _ hne39 (j3.bx nb).alloc
            have m6 := w2.ot _ _ hne69 (j6.bx nb).alloc
            have mi := w2.ot _ _ hnei9 (ji.bx nb).alloc
            have mo := no.tks (s' := S2) w2.tk
            have hld6 := m6.load (k := 0) (v := out') (r := []) rfl
            simp only [List.length_cons] at kr
            have hlt : ¬ (4096 : Int) ≤ ((ds.map dV).length : Int) := by simp only [List.length_map]; omega
            obtain ⟨v', s', q1, q2, q3, q4⟩ := m1.appV (u := dV d) (w := .undef) (v := out') (esz := 3) (xs := ds.map dV) mo (by simp [room]; omega)
            rcases q3 with ⟨_, q3⟩ | ⟨i, rfl, q3, q3'⟩
            · simp at q3
            obtain ⟨S3, a3, w3, w3l⟩ := (m6.bx q4).st1own (i := i) (esz := 3) (xs := ds.map dV ++ [dV d])
            simp (maxSteps := 1000000) (disch := omega) only [r6, eqnB, lenB, sub_n, hsl, b2s_by qcgz, hone, allocPV, ← hb9', a2, hld6, own_len mo, hlt, w2.at_.ld3, lit_line, freshT_eq, q1, a3, qaaz, qabz, qacz, qadz, qaez, qajz, qakz, qalz, qamz, qanz, evOp, qaoz, qapz, qaqz, qarz, qatz, qauz, qavz,
 ↓reduceIte, Nat.reduceEqDiff, List.map_cons, List.map_nil, Option.map_some, Option.map_none, qazz, qbdz, qbhz, qbsz, qbtz, qbuz, beq_true, decide_true, decide_false,
 Bool.false_eq_true, qcjz, List.getElem?_cons_zero, List.getElem?_cons_succ, Int.reduceToNat, ne_eq, not_true_eq_false]
            refine ⟨rec1, (w3.kp _ q2 (by simp only [stL]; omega)).lget, ?_⟩
            rw [hK]
            left
            refine ⟨rfl, ?_⟩
            rw [hP]
            have kz := (w3.kp _ q2 (by simp only [stL]; omega)).swap (r' := rec)
            refine ⟨.sl 3 (.own i) (ds.map dV ++ [dV d]), ds ++ [d], ?_, (w3.ot _ _ hne26 (m2.bx q4)).bx rfl, (w3.ot _ _ hne36 (m3.bx q4)).bx rfl, w3.at_.bx rfl, (w3.ot _ _ (by omega) (mi.bx q4)).bx rfl, .inr ⟨i, by simp, q3, by simp only; rw [w3.tk]; exact q3'⟩, fun h => by simp at h, .inr w3l, hwO, by simp; omega, fun q' hq' => kq q' (by simp [hq'])⟩
            rw [hrec1]
            simp only [if_true]
            have e5 : ({ status := 0, pend := Ex.normal, env := rec.env, params := rec.params, assign := rec.assign, body := rec.body } : LoopS) = rec := by rw [r5]
            rw [e5]
            exact kz
        obtain ⟨b, s', c1, c2⟩ := hmain
        rw [hK] at c2
        rcases c2 with ⟨rfl, c2⟩ | ⟨rfl, c2⟩
        · exact .inl ⟨s', c1, c2⟩
        · exact .inr ⟨s', c1, c2⟩)
      (by
        rw [hP]
        refine ⟨.nils, [], ?_, c2.bx rfl, c3.bx rfl, c6.bx rfl, ci.bx rfl, .inl ⟨rfl, rfl⟩, fun _ => rfl, .inl rfl, by rw [preE_nil]; exact hW, by simpa using hN, fun q hq => ?_⟩
        · exact ⟨kc.bx, by simp only [stL]; rw [hlp], by have := kc.bl; simpa [stL] using this, kc.tk⟩
        · exact hq' q hq)
    obtain ⟨X, x1, x2, x3, x4, x5⟩ := leave_unit (c := { Sc with loops := Sc.loops ++ [rec] }) (s1 := s1)
    rw [x1] at hcall
    have hcl := kc.lw
    have hcb := kc.bl
    have hct := kc.tl
    rw [hlp] at hcall ⊢
    have keptX : ∀ r, Kept (stL st [r]) s1 → Kept st { X with loops := X.loops.take st.loops.length } ∧ X.loops[st.loops.length]? = some r := by
      intro r k
      refine ⟨⟨?_, ?_, ?_, ?_⟩, ?_⟩
      · have := k.bx
        simp only [stL] at this
        simp only
        rw [x2, List.take_take, Nat.min_eq_left (by simpa using hcb)]; exact this
      · have := k.lp
        simp only [stL] at this
        simp only [x3, this, List.take_left]
      · have := k.lw
        simp only [stL] at this
        simp only at x4 ⊢
        rcases x4 with h | h <;> rw [h] <;> omega
      · have := k.tk
        simp only [stL] at this
        simp only at x5 ⊢
        rcases x5 with h | ⟨h, _⟩
        · rw [h]; exact this
        · rw [h, List.take_take, Nat.min_eq_left (by simpa using hct)]; exact this
      · rw [x3]; exact k.lget
    rcases hs1 with hs1 | hs1
    · rw [hD] at hs1
      obtain ⟨j, k1, k2, k3, kw⟩ := hs1
      obtain ⟨kx, kg⟩ := keptX _ k1
      refine ⟨_, X, _, hcall, kg, by show (2 : Nat) ≠ 1; decide, ?_⟩
      simp only [qbez]
      right
      refine ⟨by simp, ?_⟩
      exact finE _ _ j 90 kx (k2.take (n := Sc.boxes.length) (by omega) x2) (k3.take (n := Sc.boxes.length) (by omega) x2) (by rw [hrd, kw]) h2 h3
    · rw [hP] at hs1
      obtain ⟨out', ds, k1, k2, k3, k6, ki, ko, kn, kl, kw, -, -⟩ := hs1
      obtain ⟨kx, kg⟩ := keptX _ k1
      refine ⟨_, X, _, hcall, kg, by rw [r0]; decide, ?_⟩
      rw [r1]
      simp only [qbdz]
      left
      refine ⟨by first | rfl | trivial, ?_⟩
      rw [hJ]
      refine ⟨out', ds, kx, k2.take (n := Sc.boxes.length) (by omega) x2, k3.take (n := Sc.boxes.length) (by omega) x2, k6.take (n := Sc.boxes.length) (by omega) x2, ?_, kn, by rw [kw]; simp [preE, readG], h2, h3, h6⟩
      rcases ko with h | ⟨i, ho1, ho2, ho3⟩
      · exact .inl h
      · refine .inr ⟨i, ho1, ho2, ?_⟩
        rcases x5 with h | ⟨_, h⟩
        · simp only; rw [h]; exact ho3
        · rcases kl with kl | kl
          · rw [ho1] at kl; cases kl
          · simp only at h; omega
  · clear hA2 hA3 hA6 hk h0 h2 h3 h6
    rintro e S hj
    rw [hJ] at hj
    obtain ⟨out', ds, k1, k2, k3, k6, ko, kn, kw, h2, h3, h6⟩ := hj
    rw [kw] at hrd
    have hld := k6.load (k := 0) (v := out') (r := []) rfl
    obtain ⟨lf, li⟩ := own_leaf ko
    obtain ⟨S1, a1, w1⟩ := k2.st1 (off := 0) (v := out') lf (li _) (by simp)
    have m3 := w1.ot _ _ hne23.symm k3
    obtain ⟨S2, a2, w2⟩ := m3.st2 (v0 := .int .i64 0) (v1 := .int .i64 0) rfl rfl rfl rfl
    simp (maxSteps := 1000000) (disch := omega) only [h2, h3, h6, hld, build0i, a1, a2, qaaz, qabz, qaiz, qajz, qalz, evOp, qaoz, qarz, qatz, qauz, qavz,
 ↓reduceIte, Nat.reduceEqDiff, List.map_nil, Option.map_some, qazz]
    exact finO _ _ out' ds (w2.kp st (w1.kp st k1 (by omega)) (by omega)) (w2.ot _ _ hne23 w1.at_) w2.at_ ((ko.tks w1.tk).tks w2.tk) kn hrd h2 h3
end Go.Ab
/-
  A line's text is read by the document, walked.
-/
namespace Go.Ab
set_option maxRecDepth 20000
variable {st s : St} {e : Env}

theorem cutV_at {e x : Bs} {f : Nat} (hf : f ≤ x.length) : cutV e (x.drop f) = ((x.take (f + endI e (x.drop f))).drop f, x.getD (f + endI e (x.drop f)) 0, x.drop (f + endI e (x.drop f) + 1)) := by
  have h1 : (x.take (f + endI e (x.drop f))).drop f = (x.drop f).take (endI e (x.drop f)) := by rw [List.drop_take, Nat.add_sub_cancel_left]
  have h2 : (if endI e (x.drop f) < (x.drop f).length then (x.drop f).getD (endI e (x.drop f)) 0 else 0) = x.getD (f + endI e (x.drop f)) 0 := by
    rw [drop_get]
    split
    · rfl
    · rename_i h
      simp only [List.length_drop] at h
      simp [List.getD, show x.length ≤ f + endI e (x.drop f) by omega]
  unfold cutV
  rw [h1, h2, List.drop_drop]
  rfl
theorem endI_has {e : Bs} : ∀ {s : Bs}, endI e s < s.length → e.contains (s.getD (endI e s) 0) = true := by
  intro s
  induction s with
  | nil => intro h; simp at h
  | cons d r ih =>
    intro h
    rw [endI_cons] at h ⊢
    cases hd : e.contains d with
    | true => simpa using hd
    | false =>
      rw [hd, if_neg (by simp)] at h
      rw [if_neg (by simp)]
      exact ih (by simpa using h)

set_option maxHeartbeats 4000000 in
theorem rOne_spec {x : Bs} (hl : x.length ≤ 1000000) : call prog (.fn 91 []) [.str x] st = some (oneV st (oneL x)) := by
  refine call_of_W prog_91 ?_
  unfold F_posthornref10_One; dsimp only
  generalize hQ1 : endQ st _ _ = Q0
  have hQ0 : Q0 = endQ st [.cell 2 true 3, .tmp 3] (oneV st (oneL x)) := hQ1.symm
  clear hQ1
  obtain ⟨b2, hb2⟩ : ∃ b2, b2 = st.boxes.length := ⟨_, rfl⟩
  obtain ⟨Z, hZ⟩ : ∃ Z : List PV, Z = [.str [], .nils, .str []] := ⟨_, rfl⟩
  have fin : ∀ (E : Env) (S : St) (n v : Bs) (pv : PV) (ps : List Fld), Kept st S → Own st S 2 pv (ps.map fV) → (ps.map fV = [] → pv = .nils) → At S b2 [.str n, pv, .str v] → oneL x = some (n, ps, v) → E 2 = .ptr b2 0 → E 3 = .int .i64 0 → Q0 .ret E S := by
    intro E S n v pv ps k1 ko kn kA ho k2 k3
    rw [hQ0, qblz]
    refine ⟨.tup [.agg [.str n, pv, .str v], .int .i64 0], by simp [resOf, rvAll, rv1, k2, k3, kA.ld3, notTup, packRes], ?_⟩
    rw [ho]; exact leave_line k1 ko kn
  have bd : ∀ (S : St) (b4 : Nat), Kept st S → At S b2 Z → At S b4 Z → oneL x = none → ∃ S', loadPV S true 3 (.ptr b4 0) = some (.agg [.str [], .nils, .str []]) ∧ storePV S 3 (.ptr b2 0) (.agg [.str [], .nils, .str []]) = some S' ∧ ∀ E : Env, E 2 = .ptr b2 0 → E 3 = .int .i64 90 → Q0 .ret E S' := by
    intro S b4 k1 kA k4 ho
    rw [hZ] at kA k4
    obtain ⟨S', a1, w1⟩ := kA.st3 (v0 := .str []) (v1 := .nils) (v2 := .str []) rfl rfl rfl rfl rfl rfl
    refine ⟨S', k4.ld3, a1, fun E k2 k3 => ?_⟩
    rw [hQ0, qblz]
    refine ⟨.tup [.agg [.str [], .nils, .str []], .int .i64 90], by simp [resOf, rvAll, rv1, k2, k3, w1.at_.ld3, notTup, packRes], ?_⟩
    rw [ho]
    exact (w1.kp st k1 (by omega)).leave' ⟨fun _ => rfl, fun _ _ => rfl⟩
  have hbu : buildCells [.str [], .nils, .str []] [] = some [.str [], .nils, .str []] := rfl
  have hbu1 : ∀ n : Bs, buildCells [.str [], .nils, .str []] [(0, 1, .str n)] = some [.str n, .nils, .str []] := fun n => rfl
  have hbu2 : ∀ n : Bs, buildCells [.str [], .str []] [(0, 1, .str n)] = some [.str n, .str []] := fun n => rfl
  have hidx : ∀ k : Nat, k < x.length → idxSPV (.str x) (.int .i64 (k : Int)) = some (.b8 (x.getD k 0)) := fun k hk => by
    rw [idx_s (by omega) (by rw [Int.toNat_natCast]; exact hk), Int.toNat_natCast]
  have hslc : ∀ a b : Nat, a ≤ b → b ≤ x.length → slcPV 0 (.str x) (some (.int .i64 (a : Int))) (some (.int .i64 (b : Int))) none = some (.str ((x.take b).drop a)) := fun a b h1 h2 => by
    rw [slc_s (by omega) (by omega) (by omega), Int.toNat_natCast, Int.toNat_natCast]
  refine W_cut (fun E S => Kept st S ∧ At S b2 Z ∧ E 0 = .str x ∧ E 2 = .ptr b2 0) ?_ ?_
  · simp (maxSteps := 1000000) (disch := omega) only [allocPV, qabz, qajz, qalz, evOp, qapz, qarz, qatz, qavz,
 ↓reduceIte, Nat.reduceEqDiff, List.append_nil, qawz, true_and, reduceCtorEq]
    exact ⟨Kept.start.alloc', by rw [hb2, hZ]; exact At.last (s := ⟨st.boxes, st.toks, st.loops, st.boxes.length⟩), by rw [hb2]⟩
  rintro e S ⟨hk, hA2, h0, h2⟩
  obtain ⟨b4, hb4⟩ : ∃ b4, b4 = S.boxes.length := ⟨_, rfl⟩
  have hne24 : b2 ≠ b4 := by have := hA2.lt; omega
  have hle4 : st.boxes.length ≤ b4 := by have := hk.bl; omega
  refine W_cut (fun E S => Kept st S ∧ At S b2 Z ∧ At S b4 Z ∧ E 0 = .str x ∧ E 2 = .ptr b2 0 ∧ E 4 = .ptr b4 0) ?_ ?_
  · have hA := At.last (s := S) (z := [.str [], .nils, .str []]) (T := S.toks) (Lp := S.loops) (lo := S.low)
    rw [← hb4] at hA
    obtain ⟨S', a1, w1⟩ := hA.st3 (v0 := .str []) (v1 := .nils) (v2 := .str []) rfl rfl rfl rfl rfl rfl
    simp (maxSteps := 1000000) (disch := omega) only [hbu, allocPV, ← hb4, h0, h2, a1, qabz, qajz, qalz, evOp, qaoz, qarz, qatz, qauz, qavz,
 ↓reduceIte, Nat.reduceEqDiff, List.map_nil, Option.map_some, true_and, and_true, reduceCtorEq]
    exact ⟨w1.kp st hk.alloc' hle4, w1.ot _ _ hne24 hA2.alloc, by rw [hZ]; exact w1.at_⟩
  clear hk hA2 h0 h2 hb4
  rintro e S ⟨hk, hA2, hA4, h0, h2, h4⟩
  obtain ⟨c, hc⟩ : ∃ c, c = cutV [59, 58] x := ⟨_, rfl⟩
  obtain ⟨a0, ha0⟩ : ∃ a0, a0 = endI [59, 58] x := ⟨_, rfl⟩
  have ha0l : a0 ≤ x.length := by rw [ha0]; exact endI_le
  have hcc := cutV_at (e := [59, 58]) (x := x) (f := 0) (by omega)
  rw [List.drop_zero, Nat.zero_add, ← hc, ← ha0, List.drop_zero] at hcc
  refine W_cut (fun E S => Kept st S ∧ At S b2 Z ∧ At S b4 Z ∧ E 0 = .str x ∧ E 2 = .ptr b2 0 ∧ E 4 = .ptr b4 0 ∧ E 5 = .int .i64 (a0 : Int)) ?_ ?_
  · have hpl := fun S : St => place_spec (st := S) (x := x) (e := [59, 58]) (f := 0) hl (by simp) (by omega)
    rw [List.drop_zero, Nat.zero_add, ← ha0] at hpl
    simp (maxSteps := 1000000) (disch := omega) only [h0, h2, h4, show call prog (.fn 99 []) [.str x, .int .i64 0, .str [59, 58]] S = some (.int .i64 (a0 : Int), S) from hpl S, qabz, qajz, qalz, evOp, qaoz, qapz, qaqz, qarz, qatz, qavz,
 ↓reduceIte, Nat.reduceEqDiff, List.map_cons, List.map_nil, true_and, and_true, reduceCtorEq]
    exact ⟨hk, hA2, hA4⟩
  clear hk hA2 hA4 h0 h2 h4
  rintro e S ⟨hk, hA2, hA4, h0, h2, h4, h5⟩
  obtain ⟨nm, hnm⟩ : ∃ nm, nm = upOf c.1 := ⟨_, rfl⟩
  have hc1t : c.1 = x.take a0 := by rw [hcc]
  have hnl : nm.length ≤ 1000000 := by rw [hnm, hc1t]; simp [upOf]; omega
  obtain ⟨b6, hb6⟩ : ∃ b6, b6 = S.boxes.length := ⟨_, rfl⟩
  have hne26 : b2 ≠ b6 := by have := hA2.lt; omega
  have hne46 : b4 ≠ b6 := by have := hA4.lt; omega
  have hle6 : st.boxes.length ≤ b6 := by have := hk.bl; omega
  refine W_cut (fun E S => Kept st S ∧ At S b2 Z ∧ At S b4 Z ∧ At S b6 [.str nm, .nils, .str []] ∧ E 0 = .str x ∧ E 2 = .ptr b2 0 ∧ E 4 = .ptr b4 0 ∧ E 5 = .int .i64 (a0 : Int) ∧ E 6 = .ptr b6 0) ?_ ?_
  · have hup := fun S : St => rUpper_spec (st := S) (l := c.1) (by rw [hc1t]; simp; omega)
    rw [← hnm] at hup
    have hs1 : slcPV 0 (.str x) none (some (.int .i64 (a0 : Int))) none = some (.str c.1) := by rw [slc_s_hi (by omega) (by omega), Int.toNat_natCast, hc1t]
    have hA := At.last (s := S) (z := [.str [], .nils, .str []]) (T := S.toks) (Lp := S.loops) (lo := S.low)
    rw [← hb6] at hA
    obtain ⟨S', a1, w1⟩ := hA.st3 (v0 := .str nm) (v1 := .nils) (v2 := .str []) rfl rfl rfl rfl rfl rfl
    simp (maxSteps := 1000000) (disch := omega) only [h0, h2, h4, h5, hs1, hup, hbu1, allocPV, ← hb6, a1, qabz, qajz, qalz, evOp, qaoz, qaqz, qarz, qatz, qauz, qavz,
 ↓reduceIte, Nat.reduceEqDiff, List.map_cons, List.map_nil, Option.map_some, Option.map_none, true_and, and_true, reduceCtorEq]
    exact ⟨w1.kp st hk.alloc' hle6, w1.ot _ _ hne26 hA2.alloc, w1.ot _ _ hne46 hA4.alloc, w1.at_⟩
  clear hk hA2 hA4 h0 h2 h4 h5 hb6
  rintro e S ⟨hk, hA2, hA4, hA6, h0, h2, h4, h5, h6⟩
  obtain ⟨G, hG⟩ : ∃ G, G = goL (x.length + 1) [] (x.getD a0 0) (x.drop (a0 + 1)) := ⟨_, rfl⟩
  have hone : oneL x = oneG nm G := by
    have h1 : c.2.1 = x.getD a0 0 := by rw [hcc]
    have h2 : c.2.2 = x.drop (a0 + 1) := by rw [hcc]
    rw [hG, hnm, ← h1, ← h2, hc]; rfl
  have hnone : G = none → oneL x = none := fun h => by rw [hone, h]; rfl
  obtain ⟨J, hJ⟩ : ∃ J : Nat → Env → St → Prop, J = fun at_ E S => ∃ (fuel : Nat) (acc : List Fld) (pv : PV), at_ ≤ x.length ∧ x.length - at_ < fuel ∧ acc.length ≤ at_ ∧ (∀ p ∈ acc, p.1.length + p.2.length ≤ 1000000) ∧ G = goL fuel acc (x.getD at_ 0) (x.drop (at_ + 1)) ∧
      Kept st S ∧ At S b2 Z ∧ At S b4 Z ∧ At S b6 [.str nm, pv, .str []] ∧ Own st S 2 pv (acc.map fV) ∧ (acc.map fV = [] → pv = .nils) ∧ E 0 = .str x ∧ E 2 = .ptr b2 0 ∧ E 4 = .ptr b4 0 ∧ E 5 = .int .i64 (at_ : Int) ∧ E 6 = .ptr b6 0 := ⟨_, rfl⟩
  refine W_cutX (fun E S => ∃ at_, J at_ E S ∧ ¬ (at_ < x.length ∧ x.getD at_ 0 = 59)) ?_ ?_
  · obtain ⟨QQ, hQQ⟩ : ∃ QQ : Ex → Env → St → Prop, QQ = fun xx e' s' => (xx = .normal ∧ ∃ at_, J at_ e' s' ∧ ¬ (at_ < x.length ∧ x.getD at_ 0 = 59)) ∨ (xx ≠ .normal ∧ Q0 xx e' s') := ⟨_, rfl⟩
    rw [← hQQ]
    have wr : ∀ (S : St), Kept st S → At S b2 Z → At S b4 Z → G = none → ∃ S', loadPV S true 3 (.ptr b4 0) = some (.agg [.str [], .nils, .str []]) ∧ storePV S 3 (.ptr b2 0) (.agg [.str [], .nils, .str []]) = some S' ∧ ∀ E : Env, E 2 = .ptr b2 0 → E 3 = .int .i64 90 → QQ .ret E S' := fun S k1 k2 k3 k4 => by
      obtain ⟨S', q1, q2, q3⟩ := bd S b4 k1 k2 k3 (hnone k4)
      exact ⟨S', q1, q2, fun E i1 i2 => by rw [hQQ]; exact .inr ⟨by simp, q3 E i1 i2⟩⟩
    rw [qadz]
    refine W_loop (fun n E S => ∃ at_, n = x.length - at_ ∧ J at_ E S) ?_ (n := x.length - a0) ⟨a0, rfl, by
      rw [hJ]
      exact ⟨x.length + 1, [], .nils, ha0l, by omega, by simp, fun p hp => by simp at hp, hG, hk, hA2, hA4, hA6, .inl ⟨rfl, rfl⟩, fun _ => rfl, h0, h2, h4, h5, h6⟩⟩
    clear hk hA2 hA4 hA6 h0 h2 h4 h5 h6
    rintro n e S ⟨at_, rfl, hh⟩
    have hJJ := hh
    rw [hJ] at hh
    obtain ⟨fuel, acc, pv, hat, hf, hal, hps, hg, hk, hA2, hA4, hA6, ho, hn, h0, h2, h4, h5, h6⟩ := hh
    by_cases hb : at_ < x.length ∧ x.getD at_ 0 = 59
    · obtain ⟨hlt, h59⟩ := hb
      have hi0 := hidx at_ hlt
      rw [h59] at hi0
      obtain ⟨f, rfl⟩ : ∃ f, fuel = f + 1 := ⟨fuel - 1, by omega⟩
      rw [h59, goL, if_pos rfl] at hg
      rw [qaaz]
      simp (maxSteps := 1000000) (disch := omega) only [h0, h5, len_s, hlt, hi0, qaaz, qabz, qacz, qaez, qajz, qakz, qalz, qamz, qanz, evOp, qaoz, qapz, qarz, qatz, qavz,
 ↓reduceIte, Nat.reduceEqDiff, Option.map_some, qazz, qbhz, qbpz, qbvz, beq_true, decide_true, Int.ofNat_lt, reduceCtorEq]
      rw [qadz]
      obtain ⟨k1, hk1⟩ : ∃ k1, k1 = at_ + 1 + endI [61, 59, 58] (x.drop (at_ + 1)) := ⟨_, rfl⟩
      have hk1l : k1 ≤ x.length := by
        have := endI_le (e := [61, 59, 58]) (s := x.drop (at_ + 1))
        simp only [List.length_drop] at this
        omega
      obtain ⟨nm1, hnm1⟩ : ∃ nm1, nm1 = upOf ((x.take k1).drop (at_ + 1)) := ⟨_, rfl⟩
      have hc1 := cutV_at (e := [61, 59, 58]) (x := x) (f := at_ + 1) (by omega)
      rw [← hk1] at hc1
      have hpar : parL (x.drop (at_ + 1)) = if x.getD k1 0 = 61 then
          if [34] <+: x.drop (k1 + 1) then
            if (cutV [34] ((x.drop (k1 + 1)).drop 1)).2.1 = 0 then none
            else some ((nm1, (cutV [34] ((x.drop (k1 + 1)).drop 1)).1), (cutV [34] ((x.drop (k1 + 1)).drop 1)).2.2.getD 0 0, (cutV [34] ((x.drop (k1 + 1)).drop 1)).2.2.drop 1)
          else some ((nm1, (cutV [59, 58, 44, 34] (x.drop (k1 + 1))).1), (cutV [59, 58, 44, 34] (x.drop (k1 + 1))).2.1, (cutV [59, 58, 44, 34] (x.drop (k1 + 1))).2.2)
        else none := by unfold parL; rw [hc1, hnm1]
      refine W_cut (fun E S => Kept st S ∧ At S b2 Z ∧ At S b4 Z ∧ At S b6 [.str nm, pv, .str []] ∧ Own st S 2 pv (acc.map fV) ∧ E 0 = .str x ∧ E 2 = .ptr b2 0 ∧ E 4 = .ptr b4 0 ∧ E 5 = .int .i64 (at_ : Int) ∧ E 6 = .ptr b6 0 ∧ E 7 = .int .i64 (k1 : Int)) ?_ ?_
      · have hpl := fun S : St => place_spec (st := S) (x := x) (e := [61, 59, 58]) (f := at_ + 1) hl (by simp) (by omega)
        rw [← hk1] at hpl
        simp (maxSteps := 1000000) (disch := omega) only [h0, h2, h4, h5, h6, add_n, hpl, qabz, qajz, qalz, evOp, qaoz, qapz, qaqz, qarz, qatz, qavz,
 ↓reduceIte, Nat.reduceEqDiff, List.map_cons, List.map_nil, Option.map_some, Int.reduceToNat, true_and, and_true, reduceCtorEq]
        exact ⟨hk, hA2, hA4, hA6, ho⟩
      clear hk hA2 hA4 hA6 ho h0 h2 h4 h5 h6
      rintro e S ⟨hk, hA2, hA4, hA6, ho, h0, h2, h4, h5, h6, h7⟩
      by_cases hkl : k1 = x.length
      · have hx0 : x.getD k1 0 = 0 := by rw [hkl]; simp [List.getD]
        rw [hx0, if_neg (by decide)] at hpar
        obtain ⟨S', q1, q2, q3⟩ := wr S hk hA2 hA4 (by rw [hg, hpar])
        have e1 : (k1 : Int) = (x.length : Int) := by omega
        simp (maxSteps := 1000000) (disch := omega) only [h0, h2, h4, h7, len_s, eq_true e1, q1, q2, qaaz, qabz, qacz, qaiz, qajz, qakz, qalz, qamz, qanz, evOp, qaoz, qapz, qarz, qatz, qauz, qavz,
 ↓reduceIte, Nat.reduceEqDiff, Option.map_some, qazz, qbaz, qbez, qbhz, qbiz, qbtz, beq_false, decide_true, Bool.false_eq_true, reduceCtorEq, Bool.not_true]
        exact q3 _ h2 rfl
      have hkl' : k1 < x.length := by omega
      have hi1 := hidx k1 hkl'
      by_cases h61 : x.getD k1 0 = 61
      · rw [if_pos h61] at hpar
        rw [h61] at hi1
        obtain ⟨b8, hb8⟩ : ∃ b8, b8 = S.boxes.length := ⟨_, rfl⟩
        have hne28 : b2 ≠ b8 := by have := hA2.lt; omega
        have hne48 : b4 ≠ b8 := by have := hA4.lt; omega
        have hne68 : b6 ≠ b8 := by have := hA6.lt; omega
        have hle8 : st.boxes.length ≤ b8 := by have := hk.bl; omega
        refine W_cut (fun E S0 => S0 = S ∧ E 0 = .str x ∧ E 2 = .ptr b2 0 ∧ E 4 = .ptr b4 0 ∧ E 5 = .int .i64 (at_ : Int) ∧ E 6 = .ptr b6 0 ∧ E 7 = .int .i64 (k1 : Int)) ?_ ?_
        · simp (maxSteps := 1000000) (disch := omega) only [h0, h2, h4, h5, h6, h7, len_s, hkl, hi1, qaaz, qabz, qacz, qaez, qajz, qakz, qalz, qamz, qanz, evOp, qaoz, qapz, qarz, qatz, qavz,
 ↓reduceIte, Nat.reduceEqDiff, Option.map_some, qazz, qbhz, qbtz, qbwz, beq_false, decide_false,
 Int.natCast_inj, Bool.false_eq_true, and_true, reduceCtorEq, Bool.not_false, ne_eq, not_true_eq_false]
        clear h0 h2 h4 h5 h6 h7
        rintro e S' ⟨hSS, h0, h2, h4, h5, h6, h7⟩
        rw [hSS]; clear hSS S'
        refine W_cut (fun E S => Kept st S ∧ At S b2 Z ∧ At S b4 Z ∧ At S b6 [.str nm, pv, .str []] ∧ At S b8 [.str nm1, .str []] ∧ Own st S 2 pv (acc.map fV) ∧ E 0 = .str x ∧ E 2 = .ptr b2 0 ∧ E 4 = .ptr b4 0 ∧ E 6 = .ptr b6 0 ∧ E 7 = .int .i64 (k1 : Int) ∧ E 8 = .ptr b8 0) ?_ ?_
        · have hup := fun S : St => rUpper_spec (st := S) (l := (x.take k1).drop (at_ + 1)) (by simp; omega)
          rw [← hnm1] at hup
          have hs1 := hslc (at_ + 1) k1 (by omega) hk1l
          have hA := At.last (s := S) (z := [.str [], .str []]) (T := S.toks) (Lp := S.loops) (lo := S.low)
          rw [← hb8] at hA
          obtain ⟨S', a1, w1⟩ := hA.st2 (v0 := .str nm1) (v1 := .str []) rfl rfl rfl rfl
          simp (maxSteps := 1000000) (disch := omega) only [h0, h2, h4, h5, h6, h7, add_n, hs1, hup, hbu2, allocPV, ← hb8, a1, qabz, qajz, qalz, evOp, qaoz, qapz, qaqz, qarz, qatz, qauz, qavz,
 ↓reduceIte, Nat.reduceEqDiff, List.map_cons, List.map_nil, Option.map_some, Option.map_none, Int.reduceToNat, true_and, and_true, reduceCtorEq]
          exact ⟨w1.kp st hk.alloc' hle8, w1.ot _ _ hne28 hA2.alloc, w1.ot _ _ hne48 hA4.alloc, w1.ot _ _ hne68 hA6.alloc, w1.at_, ho.tks w1.tk⟩
        clear hk hA2 hA4 hA6 ho h0 h2 h4 h5 h6 h7 hb8
        rintro e S ⟨hk, hA2, hA4, hA6, hA8, ho, h0, h2, h4, h6, h7, h8⟩
        have tail : ∀ (S : St) (w : Bs) (a' : Nat), parL (x.drop (at_ + 1)) = some ((nm1, w), x.getD a' 0, x.drop (a' + 1)) → at_ < a' → a' ≤ x.length → Kept st S → At S b2 Z → At S b4 Z → At S b6 [.str nm, pv, .str []] → At S b8 [.str nm1, .str w] → Own st S 2 pv (acc.map fV) →
            ∃ v' s' S', Ab.appV 2 S.tok1 pv (.sl 2 (.own S.toks.length) [fV (nm1, w)]) = some (v', s') ∧ storePV s' 1 (.ptr b6 1) v' = some S' ∧ loadPV S false 1 (.ptr b6 1) = some pv ∧ loadPV S true 2 (.ptr b8 0) = some (.agg [.str nm1, .str w]) ∧ (∀ E' : Env, E' 0 = .str x → E' 2 = .ptr b2 0 → E' 4 = .ptr b4 0 → E' 5 = .int .i64 (a' : Int) → E' 6 = .ptr b6 0 → J a' E' S') := by
          intro S w a' hp ha1 ha2 hk hA2 hA4 hA6 hA8 ho
          have hlt := parL_lt hp
          simp only [List.length_drop] at hlt
          obtain ⟨v', s', q1, q2, q3, q4⟩ := hk.appV (u := fV (nm1, w)) (w := .undef) ho (by simp [room]; omega)
          obtain ⟨S', q5, w5⟩ := (hA6.bx q4).st1 (off := 1) (v := v') (own_leaf q3).1 ((own_leaf q3).2 _) (by simp)
          refine ⟨v', s', S', q1, q5, hA6.load (k := 1) (v := pv) (r := [.str []]) rfl, hA8.ld2, fun E' k0 k2 k4 k5 k6 => ?_⟩
          rw [hJ]
          refine ⟨f, acc ++ [(nm1, w)], v', ha2, by omega, by simp; omega, ?_, by rw [hg, hp], w5.kp st q2 hle6, w5.ot _ _ hne26 (hA2.bx q4), w5.ot _ _ hne46 (hA4.bx q4), w5.at_, ?_, fun h => by simp at h, k0, k2, k4, k5, k6⟩
          · intro p hpm
            rcases List.mem_append.1 hpm with hpm | hpm
            · exact hps p hpm
            · simp only [List.mem_singleton] at hpm; subst hpm; simp only; omega
          · have := q3.tks w5.tk
            simpa using this
        have hlit : ∀ z w, litFill 2 (List.replicate 1 z) [(0, .agg [.str nm1, .str w])] = some [fV (nm1, w)] := fun z w => lit1 rfl rfl
        by_cases h34 : [34] <+: x.drop (k1 + 1)
        · rw [if_pos h34] at hpar
          have hpos := h34.length_le
          simp only [List.length_singleton, List.length_drop] at hpos
          have hk1lt : k1 + 1 < x.length := by omega
          have hx34 : x.getD (k1 + 1) 0 = 34 := by
            obtain ⟨z, hz⟩ := h34
            have := congrArg (fun l => List.getD l 0 0) hz
            simp only [drop_get, Nat.add_zero] at this
            rw [← this]; rfl
          have hi2 := hidx (k1 + 1) hk1lt
          rw [hx34] at hi2
          rw [List.drop_drop] at hpar
          obtain ⟨k2, hk2⟩ : ∃ k2, k2 = k1 + 2 + endI [34] (x.drop (k1 + 2)) := ⟨_, rfl⟩
          have hk2e := endI_le (e := [34]) (s := x.drop (k1 + 2))
          simp only [List.length_drop] at hk2e
          have hk2l : k2 ≤ x.length := by omega
          have hc2 := cutV_at (e := [34]) (x := x) (f := k1 + 2) (by omega)
          rw [← hk2] at hc2
          rw [show k1 + 1 + 1 = k1 + 2 from rfl, hc2] at hpar
          simp only at hpar
          have hpl := fun S : St => place_spec (st := S) (x := x) (e := [34]) (f := k1 + 2) hl (by simp) (by omega)
          rw [← hk2] at hpl
          by_cases hke : k2 = x.length
          · have hx0 : x.getD k2 0 = 0 := by rw [hke]; simp [List.getD]
            rw [if_pos hx0] at hpar
            obtain ⟨S', q1, q2, q3⟩ := wr S hk hA2 hA4 (by rw [hg, hpar])
            simp (maxSteps := 1000000) (disch := omega) only [h0, h2, h4, h7, add_n, len_s, hk1lt, hi2, hpl, eq_true hke, q1, q2, qaaz, qabz, qacz, qaiz, qajz, qakz, qalz, qamz, qanz, evOp, qaoz, qapz, qaqz, qarz, qatz, qauz, qavz,
 ↓reduceIte, Nat.reduceEqDiff, List.map_cons, List.map_nil, Option.map_some, qazz, qbaz, qbez, qbhz, qbiz, qbpz, qbtz, qbvz, beq_true, decide_true, Int.ofNat_lt, Int.natCast_inj, Int.reduceToNat, reduceCtorEq]
            exact q3 _ h2 rfl
          · have hkb : x.getD k2 0 = 34 := by
              have := endI_has (e := [34]) (s := x.drop (k1 + 2)) (by simp; omega)
              rw [drop_get, ← hk2] at this
              simpa using this
            rw [if_neg (by rw [hkb]; decide), drop_get, Nat.add_zero, List.drop_drop] at hpar
            have hs2 := hslc (k1 + 2) k2 (by omega) hk2l
            obtain ⟨S1, a1, w1⟩ := hA8.st1 (off := 1) (v := .str ((x.take k2).drop (k1 + 2))) Leaf_str rfl (by simp)
            obtain ⟨v', s', S', t1, t2, t4, t5, t6⟩ := tail S1 _ (k2 + 1) hpar (by omega) (by omega) (w1.kp st hk hle8) (w1.ot _ _ hne28 hA2) (w1.ot _ _ hne48 hA4) (w1.ot _ _ hne68 hA6) w1.at_ (ho.tks w1.tk)
            simp (maxSteps := 1000000) (disch := omega) only [h0, h6, h7, h8, add_n, len_s, hk1lt, hi2, hpl, hke, hs2, faddrPV, Nat.zero_add, a1, t4, t5, hlit, freshT_eq, t1, t2, loopQ_normal, qaaz, qabz, qacz, qaez, qajz, qakz, qalz, qamz, qanz, evOp, qaoz, qapz, qaqz, qarz, qatz, qauz, qavz,
 ↓reduceIte, Nat.reduceEqDiff, List.map_cons, List.map_nil, Option.map_some, Option.map_none, qazz, qbdz, qbhz, qbpz, qbtz, qbvz, beq_true, decide_true, decide_false,
 Int.ofNat_lt, Int.natCast_inj, Bool.false_eq_true, Int.reduceToNat, reduceCtorEq]
            exact ⟨_, by omega, _, rfl, t6 _ h0 h2 h4 rfl h6⟩
        · rw [if_neg h34] at hpar
          obtain ⟨k2, hk2⟩ : ∃ k2, k2 = k1 + 1 + endI [59, 58, 44, 34] (x.drop (k1 + 1)) := ⟨_, rfl⟩
          have hk2e := endI_le (e := [59, 58, 44, 34]) (s := x.drop (k1 + 1))
          simp only [List.length_drop] at hk2e
          have hk2l : k2 ≤ x.length := by omega
          have hc2 := cutV_at (e := [59, 58, 44, 34]) (x := x) (f := k1 + 1) (by omega)
          rw [← hk2] at hc2
          rw [hc2] at hpar
          simp only at hpar
          have hpl := fun S : St => place_spec (st := S) (x := x) (e := [59, 58, 44, 34]) (f := k1 + 1) hl (by simp) (by omega)
          rw [← hk2] at hpl
          have hs2 := hslc (k1 + 1) k2 (by omega) hk2l
          obtain ⟨S1, a1, w1⟩ := hA8.st1 (off := 1) (v := .str ((x.take k2).drop (k1 + 1))) Leaf_str rfl (by simp)
          obtain ⟨v', s', S', t1, t2, t4, t5, t6⟩ := tail S1 _ k2 hpar (by omega) (by omega) (w1.kp st hk hle8) (w1.ot _ _ hne28 hA2) (w1.ot _ _ hne48 hA4) (w1.ot _ _ hne68 hA6) w1.at_ (ho.tks w1.tk)
          by_cases hk1lt : k1 + 1 < x.length
          · have hx34 : x.getD (k1 + 1) 0 ≠ 34 := fun q => h34 (by
              have hd : x.drop (k1 + 1) = x.getD (k1 + 1) 0 :: x.drop (k1 + 2) := by rw [List.drop_eq_getElem_cons hk1lt]; simp [List.getD, hk1lt]
              rw [hd, q]; simp)
            have hi2 := hidx (k1 + 1) hk1lt
            simp (maxSteps := 1000000) (disch := omega) only [h0, h6, h7, h8, add_n, len_s, hk1lt, hi2, hx34, hpl, hs2, faddrPV, Nat.zero_add, a1, t4, t5, hlit, freshT_eq, t1, t2, loopQ_normal, qaaz, qabz, qacz, qajz, qakz, qalz, qamz, qanz, evOp, qaoz, qapz, qaqz, qarz, qatz, qauz, qavz,
 ↓reduceIte, Nat.reduceEqDiff, List.map_cons, List.map_nil, Option.map_some, Option.map_none, qazz, qbdz, qbhz, qbpz, qbvz, beq_true, decide_true, decide_false,
 Int.ofNat_lt, Bool.false_eq_true, Int.reduceToNat, reduceCtorEq]
            exact ⟨_, by omega, _, rfl, t6 _ h0 h2 h4 rfl h6⟩
          · simp (maxSteps := 1000000) (disch := omega) only [h0, h6, h7, h8, add_n, len_s, hk1lt, hpl, hs2, faddrPV, Nat.zero_add, a1, t4, t5, hlit, freshT_eq, t1, t2, loopQ_normal, qaaz, qabz, qacz, qajz, qakz, qalz, qamz, qanz, evOp, qaoz, qapz, qaqz, qarz, qatz, qauz, qavz,
 ↓reduceIte, Nat.reduceEqDiff, List.map_cons, List.map_nil, Option.map_some, Option.map_none, qazz, qbdz, qbhz, qbpz, beq_true, decide_false,
 Int.ofNat_lt, Bool.false_eq_true, Int.reduceToNat, reduceCtorEq]
            exact ⟨_, by omega, _, rfl, t6 _ h0 h2 h4 rfl h6⟩
      · rw [if_neg h61] at hpar
        obtain ⟨S', q1, q2, q3⟩ := wr S hk hA2 hA4 (by rw [hg, hpar])
        simp (maxSteps := 1000000) (disch := omega) only [h0, h2, h4, h7, len_s, hkl, hi1, h61, q1, q2, qaaz, qabz, qacz, qaiz, qajz, qakz, qalz, qamz, qanz, evOp, qaoz, qapz, qarz, qatz, qauz, qavz,
 ↓reduceIte, Nat.reduceEqDiff, Option.map_some, qazz, qbaz, qbez, qbhz, qbiz, qbtz, qbwz, beq_false, decide_true, decide_false,
 Int.natCast_inj, Bool.false_eq_true, reduceCtorEq, Bool.not_false, ne_eq, not_false_eq_true]
        exact q3 _ h2 rfl
    · have hex : ∀ E : Env, E 0 = .str x → E 2 = .ptr b2 0 → E 4 = .ptr b4 0 → E 5 = .int .i64 (at_ : Int) → E 6 = .ptr b6 0 → QQ .normal E S := fun E k0 k2 k4 k5 k6 => by
        rw [hQQ]
        exact .inl ⟨rfl, at_, by rw [hJ]; exact ⟨fuel, acc, pv, hat, hf, hal, hps, hg, hk, hA2, hA4, hA6, ho, hn, k0, k2, k4, k5, k6⟩, hb⟩
      by_cases hlt : at_ < x.length
      · have hi0 := hidx at_ hlt
        have h59 : x.getD at_ 0 ≠ 59 := fun q => hb ⟨hlt, q⟩
        simp (maxSteps := 1000000) (disch := omega) only [h0, h5, len_s, hlt, hi0, h59, qaaz, qabz, qacz, qagz, qajz, qakz, qalz, qamz, qanz, evOp, qaoz, qapz, qarz, qatz, qavz,
 ↓reduceIte, Nat.reduceEqDiff, Option.map_some, qazz, qbbz, qbfz, qbhz, qbjz, qbpz, qbvz, beq_true, decide_true, decide_false,
 Int.ofNat_lt, Bool.false_eq_true, reduceCtorEq]
        exact hex _ h0 h2 h4 h5 h6
      · simp (maxSteps := 1000000) (disch := omega) only [h0, h5, len_s, hlt, qaaz, qabz, qacz, qagz, qajz, qakz, qalz, qamz, qanz, evOp, qaoz, qapz, qarz, qatz, qavz,
 ↓reduceIte, Nat.reduceEqDiff, Option.map_some, qazz, qbbz, qbfz, qbhz, qbjz, qbpz, beq_true, decide_false,
 Int.ofNat_lt, Bool.false_eq_true, reduceCtorEq]
        exact hex _ h0 h2 h4 h5 h6
  · clear hk hA2 hA4 hA6 h0 h2 h4 h5 h6
    rintro e S ⟨at_, hh, hno⟩
    rw [hJ] at hh
    obtain ⟨fuel, acc, pv, hat, hf, hal, hps, hg, hk, hA2, hA4, hA6, ho, hn, h0, h2, h4, h5, h6⟩ := hh
    have h59 : x.getD at_ 0 ≠ 59 := fun q => hno ⟨by
      rcases Nat.lt_or_ge at_ x.length with h | h
      · exact h
      · simp [List.getD, h] at q, q⟩
    obtain ⟨f, rfl⟩ : ∃ f, fuel = f + 1 := ⟨fuel - 1, by omega⟩
    rw [goL, if_neg h59] at hg
    by_cases hlt : at_ < x.length
    · have hi0 := hidx at_ hlt
      by_cases h58 : x.getD at_ 0 = 58
      · rw [if_pos h58] at hg
        rw [hg] at hone
        rw [h58] at hi0
        have hs1 : slcPV 0 (.str x) (some (.int .i64 ((at_ + 1 : Nat) : Int))) none none = some (.str (x.drop (at_ + 1))) := by rw [slc_s_lo (by omega) (by omega), Int.toNat_natCast]
        obtain ⟨S1, a1, w1⟩ := hA6.st1 (off := 2) (v := .str (x.drop (at_ + 1))) Leaf_str rfl (by simp)
        have k1 := w1.kp st hk hle6
        have k2 := w1.ot _ _ hne26 hA2
        have k4 := w1.ot _ _ hne46 hA4
        have k6 : At S1 b6 [.str nm, pv, .str (x.drop (at_ + 1))] := w1.at_
        have ko := ho.tks w1.tk
        have hok : (⟨nm, pv, acc, x.drop (at_ + 1)⟩ : Ln).okR := ⟨own_vs ko, (own_leaf ko).2, (own_leaf ko).1.2, hnl, by simp only [List.length_drop]; omega, by simp only; omega, hps⟩
        have hrt := fun S : St => rRightR_spec (st := S) hok
        simp only [lV] at hrt
        rw [rtB_pv (w := .nils)] at hrt
        simp only [oneG] at hone
        have e1 : ¬ (x.length : Int) ≤ (at_ : Int) := by omega
        cases hrb : rtB ⟨nm, .nils, acc, x.drop (at_ + 1)⟩ with
        | true =>
          rw [hrb] at hrt hone
          rw [if_pos rfl] at hone
          rw [hZ] at k2
          obtain ⟨S2, a2, w2⟩ := k2.st3 (v0 := .str nm) (v1 := pv) (v2 := .str (x.drop (at_ + 1))) rfl (own_leaf ko).1.2 rfl rfl ((own_leaf ko).2 _) rfl
          simp (maxSteps := 1000000) (disch := omega) only [h0, h2, h5, h6, len_s, e1, hi0, add_n, hs1, faddrPV, Nat.zero_add, a1, k6.ld3, hrt, a2, qaaz, qabz, qacz, qaez, qaiz, qajz, qakz, qalz, qamz, qanz, evOp, qaoz, qapz, qaqz, qarz, qatz, qauz, qavz,
 ↓reduceIte, Nat.reduceEqDiff, List.map_cons, List.map_nil, Option.map_some, Option.map_none, qazz, qbhz, qbsz, qbwz, qcfz, beq_false, decide_false,
 Bool.false_eq_true, Int.reduceToNat, reduceCtorEq, Bool.not_true, Bool.not_false, ne_eq, not_true_eq_false]
          exact fin _ _ _ _ _ _ (w2.kp st k1 (by omega)) (ko.tks w2.tk) hn w2.at_ hone h2 rfl
        | false =>
          rw [hrb] at hrt hone
          rw [if_neg (by simp)] at hone
          obtain ⟨S', q1, q2, q3⟩ := bd S1 b4 k1 k2 k4 hone
          simp (maxSteps := 1000000) (disch := omega) only [h0, h2, h4, h5, h6, len_s, e1, hi0, add_n, hs1, faddrPV, Nat.zero_add, a1, k6.ld3, hrt, q1, q2, qaaz, qabz, qacz, qaez, qaiz, qajz, qakz, qalz, qamz, qanz, evOp, qaoz, qapz, qaqz, qarz, qatz, qauz, qavz,
 ↓reduceIte, Nat.reduceEqDiff, List.map_cons, List.map_nil, Option.map_some, Option.map_none, qazz, qbaz, qbhz, qbsz, qbwz, qcfz, beq_false, decide_false,
 Bool.false_eq_true, Int.reduceToNat, reduceCtorEq, Bool.not_false, ne_eq, not_true_eq_false]
          exact q3 _ h2 rfl
      · rw [if_neg h58] at hg
        obtain ⟨S', q1, q2, q3⟩ := bd S b4 hk hA2 hA4 (hnone hg)
        have e1 : ¬ (x.length : Int) ≤ (at_ : Int) := by omega
        simp (maxSteps := 1000000) (disch := omega) only [h0, h2, h4, h5, len_s, e1, hi0, h58, q1, q2, qaaz, qabz, qacz, qaiz, qajz, qakz, qalz, qamz, qanz, evOp, qaoz, qapz, qarz, qatz, qauz, qavz,
 ↓reduceIte, Nat.reduceEqDiff, Option.map_some, qazz, qbaz, qbhz, qbsz, qbwz, beq_false, decide_true, decide_false,
 Bool.false_eq_true, reduceCtorEq, Bool.not_false, ne_eq, not_false_eq_true]
        exact q3 _ h2 rfl
    · have h58 : x.getD at_ 0 ≠ 58 := by simp [List.getD, show x.length ≤ at_ by omega]
      rw [if_neg h58] at hg
      obtain ⟨S', q1, q2, q3⟩ := bd S b4 hk hA2 hA4 (hnone hg)
      have e1 : (x.length : Int) ≤ (at_ : Int) := by omega
      simp (maxSteps := 1000000) (disch := omega) only [h0, h2, h4, h5, len_s, e1, q1, q2, qaaz, qabz, qacz, qaiz, qajz, qakz, qalz, qamz, qanz, evOp, qaoz, qapz, qarz, qatz, qauz, qavz,
 ↓reduceIte, Nat.reduceEqDiff, Option.map_some, qazz, qbaz, qbhz, qbsz, beq_false, decide_true, Bool.false_eq_true, reduceCtorEq, Bool.not_true]
      exact q3 _ h2 rfl
end Go.Ab
/-
  Lines are read by the document, walked; equal lines.
-/
namespace Go.Ab
set_option maxRecDepth 20000
variable {st s : St} {e : Env}

theorem unfV_at {l : Bs} {i : Nat} (hi : i < l.length) : unfV (l.drop i) = if pairAt l i = true ∧ i + 2 < l.length ∧ (l.getD (i + 2) 0 = 32 ∨ l.getD (i + 2) 0 = 9) then unfV (l.drop (i + 3)) else l.getD i 0 :: unfV (l.drop (i + 1)) := by
  have hd : ∀ j, j < l.length → l.drop j = l.getD j 0 :: l.drop (j + 1) := fun j hj => by
    rw [List.drop_eq_getElem_cons hj]; simp [List.getD, hj]
  by_cases h2 : i + 2 < l.length
  · rw [hd i hi, hd (i + 1) (by omega), hd (i + 2) h2, unfV]
    have : pairAt l i = decide (l.getD i 0 = 13 ∧ l.getD (i + 1) 0 = 10) := by simp only [pairAt, show i + 1 < l.length by omega, true_and]
    simp only [this, decide_eq_true_eq, h2, true_and, and_assoc]
  · rw [if_neg (by simp [h2])]
    by_cases h1 : i + 1 < l.length
    · have h3 : l.drop (i + 2) = [] := List.drop_of_length_le (by omega)
      rw [hd i hi, hd (i + 1) h1, h3]
      unfold unfV; simp
    · have h3 : l.drop (i + 1) = [] := List.drop_of_length_le (by omega)
      rw [hd i hi, h3, unfV_nil]
      unfold unfV; simp
theorem leaveK {S : St} {w : PV} {l : Bs} (hk : Kept st S) (hw : Mine st S w l) : repOK st l (leave st S w) := by
  have e1 := hk.bx; have e2 := hk.lp; have e3 := hk.tk; have e4 := hk.lw
  obtain ⟨⟨rfl, rfl⟩ | ⟨i, rfl, hi⟩, hm⟩ := hw
  · exact ⟨[], by simp [leave, PV.inB, e4, keepRes, keepVal, keepLeaf, e1, e2, e3], by simp [leave, PV.inB, e4, keepRes, keepVal, keepLeaf, PV.by]⟩
  · have hge := hm i rfl
    exact ⟨[true], by simp [leave, PV.inB, e4, keepRes, keepVal, keepLeaf, keepTok, hi, show ¬ i < st.toks.length by omega, e1, e2, e3], by simp [leave, PV.inB, e4, keepRes, keepVal, keepLeaf, keepTok, hi, show ¬ i < st.toks.length by omega, PV.by]⟩

set_option maxHeartbeats 2000000 in
theorem rUnfold_spec {y : PV} {l : Bs} (hy : y.by = some l) (hl : l.length ≤ 10000000) : ∃ r, call prog (.fn 98 []) [y] st = some r ∧ repOK st (unfV l) r := by
  refine call_ex prog_98 ?_
  unfold F_posthornref10_Unfold; dsimp only
  generalize hQ1 : endX st _ _ = Q0
  simp (maxSteps := 1000000) (disch := omega) only [qaaz, qabz, qadz, qajz, qalz, evOp, qapz, qarz, qatz, qazz]
  have fin : ∀ (E : Env) (S : St) (v : PV), Kept st S → Mine st S v (unfV l) → E 2 = v → Q0 .ret E S := fun E S v k1 k2 h => by
    rw [← hQ1]
    refine ⟨.inr rfl, v, ?_, leaveK k1 k2⟩
    obtain ⟨⟨rfl, _⟩ | ⟨i, rfl, _⟩, _⟩ := k2 <;> simp [resOf, rvAll, rv1, h, notTup, packRes]
  obtain ⟨I, hI⟩ : ∃ I : Nat → Env → St → Prop, I = fun k E S => ∃ (i : Nat) (v : PV) (o : Bs), k = l.length - i ∧ i ≤ l.length ∧ o.length ≤ i ∧ Kept st S ∧ Mine st S v o ∧ unfV l = o ++ unfV (l.drop i) ∧ E 0 = y ∧ E 3 = v ∧ E 4 = .int .i64 (i : Int) := ⟨_, rfl⟩
  refine W_loop I ?_ (n := l.length) (by
    rw [hI]
    exact ⟨0, .nils, [], rfl, by omega, by simp, Kept.start, Mine.nil, rfl, rfl, rfl, rfl⟩)
  intro k E S hh
  rw [hI] at hh
  obtain ⟨i, v, o, rfl, hi, hol, hk, hm, hu, h0, h3, h4⟩ := hh
  by_cases hlt : i < l.length
  · obtain ⟨c, hc⟩ : ∃ c, c = l.getD i 0 := ⟨_, rfl⟩
    have hia := iaddr_by (k := .i64) (c := (i : Int)) hy (by omega) (by rw [Int.toNat_natCast]; exact hlt)
    rw [Int.toNat_natCast, ← hc] at hia
    have hpr := fun S : St => Pair_spec (st := S) (i := i) hy (by omega)
    have hstep := unfV_at hlt
    rw [← hc] at hstep
    obtain ⟨w, S2, a1, k1, k2⟩ := hk.push (c := c) hm (by simp [room]; omega)
    have push : ∀ E : Env, ¬ (pairAt l i = true ∧ i + 2 < l.length ∧ (l.getD (i + 2) 0 = 32 ∨ l.getD (i + 2) 0 = 9)) → E 0 = y → E 3 = w → E 4 = .int .i64 ((i + 1 : Nat) : Int) → ∃ m, m < l.length - i ∧ I m E S2 := fun E hno q0 q3 q4 => ⟨l.length - (i + 1), by omega, by
      rw [if_neg hno] at hstep
      rw [hI]
      exact ⟨i + 1, w, o ++ [c], rfl, by omega, by simp; omega, k1, k2, by rw [hu, hstep]; simp, q0, q3, q4⟩⟩
    have skip : ∀ E : Env, (pairAt l i = true ∧ i + 2 < l.length ∧ (l.getD (i + 2) 0 = 32 ∨ l.getD (i + 2) 0 = 9)) → E 0 = y → E 3 = v → E 4 = .int .i64 ((i + 2 + 1 : Nat) : Int) → ∃ m, m < l.length - i ∧ I m E S := fun E hno q0 q3 q4 => ⟨l.length - (i + 3), by omega, by
      rw [if_pos hno] at hstep
      rw [hI]
      exact ⟨i + 3, v, o, rfl, by omega, by omega, hk, hm, by rw [hu, hstep], q0, q3, q4⟩⟩
    cases hp : pairAt l i with
    | false =>
      rw [hp] at hpr
      simp (maxSteps := 1000000) (disch := omega) only [h0, h3, h4, len_by hy, hlt, hpr, hia, lit8_1, freshT_eq, a1, add_n, loopQ_normal, qaaz, qabz, qacz, qadz, qaez, qajz, qakz, qalz, qamz, qanz, evOp, qaoz, qapz, qaqz, qarz, qatz, qavz,
 ↓reduceIte, Nat.reduceEqDiff, List.map_cons, List.map_nil, Option.map_some, qazz, qbdz, qbhz, qbpz, qciz, beq_true, decide_true, Int.ofNat_lt, Bool.false_eq_true, Int.reduceToNat, reduceCtorEq]
      exact push _ (by rw [hp]; simp) h0 rfl rfl
    | true =>
    rw [hp] at hpr
    by_cases h2 : i + 2 < l.length
    · obtain ⟨d, hd⟩ : ∃ d, d = l.getD (i + 2) 0 := ⟨_, rfl⟩
      have hia2 := iaddr_by (k := .i64) (c := ((i + 2 : Nat) : Int)) hy (by omega) (by rw [Int.toNat_natCast]; exact h2)
      rw [Int.toNat_natCast, ← hd] at hia2
      rw [← hd] at push skip
      by_cases h32 : d = 32
      · simp (maxSteps := 1000000) (disch := omega) only [h0, h4, len_by hy, hlt, hpr, h2, hia2, eq_true h32, add_n, loopQ_normal, qaaz, qabz, qacz, qadz, qaez, qagz, qajz, qakz, qalz, qamz, qanz, evOp, qaoz, qapz, qaqz, qarz, qatz, qavz,
 ↓reduceIte, Nat.reduceEqDiff, List.map_cons, List.map_nil, Option.map_some, qazz, qbbz, qbfz, qbhz, qbpz, qbvz, qciz, beq_true, beq_false, decide_true, Int.ofNat_lt, Bool.false_eq_true, Int.reduceToNat, reduceCtorEq, Bool.not_true]
        exact skip _ ⟨hp, h2, .inl h32⟩ h0 h3 rfl
      · by_cases h9 : d = 9
        · simp (maxSteps := 1000000) (disch := omega) only [h0, h4, len_by hy, hlt, hpr, h2, hia2, h32, eq_true h9, add_n, loopQ_normal, qaaz, qabz, qacz, qadz, qaez, qagz, qajz, qakz, qalz, qamz, qanz, evOp, qaoz, qapz, qaqz, qarz, qatz, qavz,
 ↓reduceIte, Nat.reduceEqDiff, List.map_cons, List.map_nil, Option.map_some, qazz, qbbz, qbfz, qbhz, qbpz, qbvz, qciz, beq_true, beq_false, decide_true, decide_false,
 Int.ofNat_lt, Bool.false_eq_true, Int.reduceToNat, reduceCtorEq, Bool.not_false]
          exact skip _ ⟨hp, h2, .inr h9⟩ h0 h3 rfl
        · simp (maxSteps := 1000000) (disch := omega) only [h0, h3, h4, len_by hy, hlt, hpr, h2, hia2, h32, h9, hia, lit8_1, freshT_eq, a1, add_n, loopQ_normal, qaaz, qabz, qacz, qadz, qaez, qajz, qakz, qalz, qamz, qanz, evOp, qaoz, qapz, qaqz, qarz, qatz, qavz,
 ↓reduceIte, Nat.reduceEqDiff, List.map_cons, List.map_nil, Option.map_some, qazz, qbdz, qbhz, qbpz, qbvz, qciz, beq_true, beq_false, decide_true, decide_false,
 Int.ofNat_lt, Bool.false_eq_true, Int.reduceToNat, reduceCtorEq, Bool.not_false]
          exact push _ (by simp [h32, h9]) h0 rfl rfl
    · simp (maxSteps := 1000000) (disch := omega) only [h0, h3, h4, len_by hy, hlt, hpr, h2, hia, lit8_1, freshT_eq, a1, add_n, loopQ_normal, qaaz, qabz, qacz, qadz, qaez, qajz, qakz, qalz, qamz, qanz, evOp, qaoz, qapz, qaqz, qarz, qatz, qavz,
 ↓reduceIte, Nat.reduceEqDiff, List.map_cons, List.map_nil, Option.map_some, qazz, qbdz, qbhz, qbpz, qciz, beq_true, decide_true, decide_false,
 Int.ofNat_lt, Bool.false_eq_true, Int.reduceToNat, reduceCtorEq]
      exact push _ (by simp [h2]) h0 rfl rfl
  · obtain rfl : i = l.length := by omega
    rw [List.drop_length, unfV_nil, List.append_nil] at hu
    simp (maxSteps := 1000000) (disch := omega) only [h0, h3, h4, len_by hy, hlt, qaaz, qabz, qacz, qagz, qaiz, qajz, qalz, evOp, qaoz, qarz, qatz, qavz,
 ↓reduceIte, Nat.reduceEqDiff, Option.map_some, qazz, qbbz, qbfz, qbhz, qbjz, qbpz, decide_false,
 Int.ofNat_lt, Bool.false_eq_true, reduceCtorEq]
    exact fin _ _ v hk (by rw [hu]; exact hm) rfl

theorem iaddr_ln3 {x : PV} {L : List (Nat × List UInt8 × Bool)} {k : IntKind} {i : Nat} (h : x.vs 3 = some (L.map lnV)) (h2 : i < L.length) : iaddrPV 3 x (.int k (i : Int)) = some (.cp [.int .i64 ((L.getD i (0, [], false)).1 : Int), .bys .no (L.getD i (0, [], false)).2.1, .bool (L.getD i (0, [], false)).2.2]) := by
  rw [iaddr_vs h (by omega) (by simpa using h2)]
  simp [List.getD, h2, lnV, PV.cells]
theorem fa3_0 {a b c : PV} : faddrPV 0 (.cp [a, b, c]) = some (.cp [a, b, c]) := rfl
theorem fa3_1 {a b c : PV} : faddrPV 1 (.cp [a, b, c]) = some (.cp [b, c]) := rfl
theorem fa3_2 {a b c : PV} : faddrPV 2 (.cp [a, b, c]) = some (.cp [c]) := rfl
theorem ldcp {a : PV} {r : List PV} : loadPV st false 1 (.cp (a :: r)) = some a := rfl
theorem newSl_vs3 {S : St} {xs : List PV} : (newSl S 3 xs).vs 3 = some xs := by
  unfold newSl
  split
  · rename_i h; subst h; simp [PV.vs]
  · simp [PV.vs]
theorem readG_drop {q : List (Nat × Bs × Bool)} {i : Nat} (hi : i < q.length) : readG (q.drop i) = match (if (q.getD i (0, [], false)).2.2 = true then oneL (q.getD i (0, [], false)).2.1 else none) with
    | none => .error (q.getD i (0, [], false)).1
    | some d => (match readG (q.drop (i + 1)) with
      | .ok l => .ok (d :: l)
      | .error j => .error j) := by
  have hd : q.drop i = q.getD i (0, [], false) :: q.drop (i + 1) := by
    rw [List.drop_eq_getElem_cons hi]; simp [List.getD, hi]
  rw [hd]
  obtain ⟨a, m, w⟩ := q.getD i (0, [], false)
  rfl

set_option maxHeartbeats 8000000 in
theorem rRead_spec {y : PV} {l : Bs} (hy : y.by = some l) (hl : l.length ≤ 1000000) (hN : (refLines (unfV l)).length ≤ 4096) : call prog (.fn 90 []) [y] st = some (readV st (readL l)) := by
  refine call_of_W prog_90 ?_
  unfold F_posthornref10_Read; dsimp only
  generalize hQ1 : endQ st _ _ = Q0
  have hQ0 : Q0 = endQ st [.tmp 2, .cell 3 true 2] (readV st (readL l)) := hQ1.symm
  clear hQ1
  obtain ⟨b3, hb3⟩ : ∃ b3, b3 = st.boxes.length := ⟨_, rfl⟩
  obtain ⟨u, hu⟩ : ∃ u, u = unfV l := ⟨_, rfl⟩
  have hul : u.length ≤ 1000000 := by rw [hu]; exact Nat.le_trans (unfV_len _ l (Nat.le_refl _)) hl
  rw [← hu] at hN
  have hrd : readL l = match ptsOf (u.length + 1) u 0 with
    | .error j => .error (j, 20)
    | .ok _ => (match readG (refLines u) with
      | .ok l => .ok l
      | .error j => .error (j, 90)) := by rw [hu]; rfl
  have finE : ∀ (E : Env) (S : St) (j : Nat) (c : Int), Kept st S → At S b3 [.int .i64 (j : Int), .int .i64 c] → readL l = .error (j, c) → E 2 = .nils → E 3 = .ptr b3 0 → Q0 .ret E S := by
    intro E S j c k1 k3 ho e2 e3
    rw [hQ0, qblz]
    refine ⟨.tup [.nils, .agg [.int .i64 (j : Int), .int .i64 c]], by simp [resOf, rvAll, rv1, e2, e3, k3.ld2, notTup, packRes], ?_⟩
    rw [ho]
    exact k1.leave' ⟨fun _ => rfl, fun _ _ => rfl⟩
  have finO : ∀ (E : Env) (S : St) (out : PV) (ds : List LnD), Kept st S → At S b3 [.int .i64 0, .int .i64 0] → Own st S 3 out (ds.map dV) → (ds.map dV = [] → out = .nils) → readL l = .ok ds → E 2 = out → E 3 = .ptr b3 0 → Q0 .ret E S := by
    intro E S out ds k1 k3 ko kn ho e2 e3
    rw [hQ0, qblz]
    refine ⟨.tup [out, .agg [.int .i64 0, .int .i64 0]], by rcases ko with ⟨rfl, _⟩ | ⟨i, rfl, _⟩ <;> simp [resOf, rvAll, rv1, e2, e3, k3.ld2, notTup, packRes], ?_⟩
    rw [ho]
    exact leave_rows k1 ko kn
  refine W_cut (fun E S => Kept st S ∧ At S b3 [.int .i64 0, .int .i64 0] ∧ E 0 = y ∧ E 3 = .ptr b3 0) ?_ ?_
  · simp (maxSteps := 1000000) (disch := omega) only [allocPV, qabz, qajz, qalz, evOp, qapz, qarz, qatz, qavz,
 ↓reduceIte, List.append_nil, qawz, true_and, reduceCtorEq]
    exact ⟨Kept.start.alloc', by rw [hb3]; exact At.last (s := ⟨st.boxes, st.toks, st.loops, st.boxes.length⟩), by rw [hb3]⟩
  rintro e S ⟨hk, hA3, h0, h3⟩
  refine W_cut (fun E S => Kept st S ∧ At S b3 [.int .i64 0, .int .i64 0] ∧ E 0 = y ∧ E 3 = .ptr b3 0) ?_ ?_
  · have e1 : ¬ (1048576 : Int) < (l.length : Int) := by omega
    simp (maxSteps := 1000000) (disch := omega) only [h0, h3, len_by hy, e1, qaaz, qabz, qacz, qaez, qajz, qalz, evOp, qaoz, qapz, qarz, qatz, qavz,
 ↓reduceIte, Nat.reduceEqDiff, Option.map_some, qazz, qbhz, qbrz, decide_false,
 Bool.false_eq_true, true_and, and_true, reduceCtorEq]
    exact ⟨hk, hA3⟩
  clear hk hA3 h0 h3
  rintro e S ⟨hk, hA3, h0, h3⟩
  refine W_cut (fun E S => Kept st S ∧ At S b3 [.int .i64 0, .int .i64 0] ∧ (∃ x, E 0 = x ∧ x.by = some u) ∧ E 3 = .ptr b3 0) ?_ ?_
  · obtain ⟨⟨x, S'⟩, q1, T, q2, q3⟩ := rUnfold_spec (st := S) hy (by omega)
    simp only at q2 q3
    rw [q2] at q1
    rw [← hu] at q3
    simp (maxSteps := 1000000) (disch := omega) only [h0, h3, q1, qabz, qajz, qalz, evOp, qaoz, qaqz, qarz, qatz, qavz,
 ↓reduceIte, Nat.reduceEqDiff, List.map_cons, List.map_nil, true_and, and_true, reduceCtorEq, exists_eq_left']
    exact ⟨hk.toks, hA3.bx rfl, q3⟩
  clear hk hA3 h0 h3
  rintro e S ⟨hk, hA3, ⟨x, h0, hx⟩, h3⟩
  obtain ⟨b5, hb5⟩ : ∃ b5, b5 = S.boxes.length := ⟨_, rfl⟩
  have hne35 : b3 ≠ b5 := by have := hA3.lt; omega
  have hle5 : st.boxes.length ≤ b5 := by have := hk.bl; omega
  have hpt := rPoints_spec (st := S) hx (by omega)
  -- the points
  refine W_cut (fun E S => ∃ (j : Nat) (c : Int), (match ptsOf (u.length + 1) u 0 with | .error j' => j = j' ∧ c = 20 | .ok _ => j = 0 ∧ c = 0) ∧ Kept st S ∧ At S b3 [.int .i64 0, .int .i64 0] ∧ At S b5 [.int .i64 ((j : Nat) : Int), .int .i64 c] ∧ E 0 = x ∧ E 3 = .ptr b3 0 ∧ E 5 = .ptr b5 0) ?_ ?_
  · cases hp : ptsOf (u.length + 1) u 0 with
    | error j =>
      rw [hp] at hpt
      simp only [ptsV] at hpt
      have hA5 := At.last (s := S) (z := [.int .i64 0, .int .i64 0]) (T := S.toks) (Lp := S.loops) (lo := S.low)
      rw [← hb5] at hA5
      obtain ⟨S1, a1, w1⟩ := hA5.st2 (v0 := .int .i64 (j : Int)) (v1 := .int .i64 20) rfl rfl rfl rfl
      simp (maxSteps := 1000000) (disch := omega) only [h0, h3, hpt, allocPV, ← hb5, a1, qabz, qajz, qalz, evOp, qaoz, qaqz, qarz, qatz, qauz, qavz,
 ↓reduceIte, Nat.reduceEqDiff, List.map_cons, List.map_nil, Option.map_some, qcjz, List.getElem?_cons_zero, List.getElem?_cons_succ, true_and, and_true, reduceCtorEq]
      exact ⟨j, 20, ⟨rfl, rfl⟩, w1.kp st hk.alloc' hle5, w1.ot _ _ hne35 hA3.alloc, w1.at_⟩
    | ok r =>
      rw [hp] at hpt
      simp only [ptsV] at hpt
      obtain ⟨S0, hS0⟩ : ∃ S0, S0 = newS S (r.map ptV).isEmpty := ⟨_, rfl⟩
      obtain ⟨nb, nl, np⟩ := newS_bx (S := S) (b := (r.map ptV).isEmpty)
      have k0 := hk.newS (b := (r.map ptV).isEmpty)
      rw [← hS0] at hpt nb nl np k0
      have hA5' := At.last (s := S0) (z := [.int .i64 0, .int .i64 0]) (T := S0.toks) (Lp := S0.loops) (lo := S0.low)
      have hb5' : b5 = S0.boxes.length := by rw [nb]; exact hb5
      rw [← hb5'] at hA5'
      obtain ⟨S1, a1, w1⟩ := hA5'.st2 (v0 := .int .i64 0) (v1 := .int .i64 0) rfl rfl rfl rfl
      simp (maxSteps := 1000000) (disch := omega) only [h0, h3, hpt, allocPV, ← hb5', a1, qabz, qajz, qalz, evOp, qaoz, qaqz, qarz, qatz, qauz, qavz,
 ↓reduceIte, Nat.reduceEqDiff, List.map_cons, List.map_nil, Option.map_some, qcjz, List.getElem?_cons_zero, List.getElem?_cons_succ, true_and, and_true, reduceCtorEq]
      exact ⟨0, 0, ⟨rfl, rfl⟩, w1.kp st k0.alloc' hle5, w1.ot _ _ hne35 (hA3.bx nb).alloc, w1.at_⟩
  clear hk hA3 h0 h3 hpt
  rintro e S ⟨j, c, hjc, hk, hA3, hA5, h0, h3, h5⟩
  refine W_cutX (fun E S => Kept st S ∧ At S b3 [.int .i64 0, .int .i64 0] ∧ (∃ r, ptsOf (u.length + 1) u 0 = .ok r) ∧ E 0 = x ∧ E 3 = .ptr b3 0) ?_ ?_
  · have hld := hA5.load (k := 1) (v := .int .i64 c) (r := []) rfl
    cases hp : ptsOf (u.length + 1) u 0 with
    | error j' =>
      rw [hp] at hjc hrd
      obtain ⟨rfl, rfl⟩ := hjc
      obtain ⟨S2, a2, w2⟩ := hA3.st2 (v0 := .int .i64 (j : Int)) (v1 := .int .i64 20) rfl rfl rfl rfl
      simp (maxSteps := 1000000) (disch := omega) only [h0, h3, h5, faddrPV, Nat.zero_add, hld, hA5.ld2, a2, qaaz, qabz, qacz, qaiz, qajz, qalz, evOp, qaoz, qapz, qarz, qatz, qauz, qavz,
 ↓reduceIte, Nat.reduceEqDiff, Option.map_some, qazz, qbhz, qbuz, decide_true, true_and, and_true, reduceCtorEq, ne_eq, Int.reduceEq, not_false_eq_true]
      right
      exact finE _ _ j 20 (w2.kp st hk (by omega)) w2.at_ hrd rfl h3
    | ok r =>
      rw [hp] at hjc
      obtain ⟨rfl, rfl⟩ := hjc
      simp (maxSteps := 1000000) (disch := omega) only [h0, h3, h5, faddrPV, Nat.zero_add, hld, qaaz, qabz, qacz, qaez, qajz, qalz, evOp, qaoz, qapz, qarz, qatz, qavz,
 ↓reduceIte, Nat.reduceEqDiff, Option.map_some, qazz, qbhz, qbuz, decide_false,
 Bool.false_eq_true, true_and, and_true, reduceCtorEq, ne_eq, not_true_eq_false]
      left
      exact ⟨hk, hA3, ⟨r, rfl⟩⟩
  clear hk hA3 hA5 h0 h3 h5 hjc hle5 hne35 hb5 b5
  rintro e S ⟨hk, hA3, ⟨r0, hpt⟩, h0, h3⟩
  obtain ⟨W, hW⟩ : ∃ W, W = readG (refLines u) := ⟨_, rfl⟩
  rw [hpt, ← hW] at hrd
  simp only at hrd
  obtain ⟨Q, hQ⟩ : ∃ Q, Q = refLines u := ⟨_, rfl⟩
  rw [← hQ] at hW hN
  have hQl : ∀ q ∈ Q, q.2.1.length ≤ 1000000 := fun q hq => by rw [hQ] at hq; exact Nat.le_trans (refLines_each hq) hul
  refine W_cut (fun E S => Kept st S ∧ At S b3 [.int .i64 0, .int .i64 0] ∧ (∃ p, E 6 = p ∧ p.vs 3 = some (Q.map lnV)) ∧ E 3 = .ptr b3 0) ?_ ?_
  · have hln := Lines_big (st := S) hx (by omega)
    rw [← hQ] at hln
    obtain ⟨nb, nl, np⟩ := newS_bx (S := S) (b := (Q.map lnV).isEmpty)
    simp (maxSteps := 1000000) (disch := omega) only [h0, h3, hln, qabz, qajz, qalz, evOp, qaoz, qaqz, qarz, qatz, qavz,
 ↓reduceIte, Nat.reduceEqDiff, List.map_cons, List.map_nil, true_and, and_true, exists_eq_left']
    exact ⟨hk.newS, hA3.bx nb, newSl_vs3⟩
  clear hk hA3 h0 h3
  rintro e S ⟨hk, hA3, ⟨p, h6, hp⟩, h3⟩
  refine W_cut (fun E S => Kept st S ∧ At S b3 [.int .i64 0, .int .i64 0] ∧ E 3 = .ptr b3 0 ∧ E 6 = p ∧ E 7 = .nils) ?_ ?_
  · simp (maxSteps := 1000000) (disch := omega) only [h3, h6, qabz, qajz, qalz, evOp, qapz, qarz, qatz, qavz,
 ↓reduceIte, Nat.reduceEqDiff, true_and, and_true]
    exact ⟨hk, hA3⟩
  clear hk hA3 h3 h6
  rintro e S ⟨hk, hA3, h3, h6, h7⟩
  obtain ⟨J, hJ⟩ : ∃ J : Nat → Env → St → Prop, J = fun i E S => ∃ out ds, i ≤ Q.length ∧ Kept st S ∧ At S b3 [.int .i64 0, .int .i64 0] ∧ Own st S 3 out (ds.map dV) ∧ (ds.map dV = [] → out = .nils) ∧ W = preE ds (readG (Q.drop i)) ∧ ds.length = i ∧ E 3 = .ptr b3 0 ∧ E 6 = p ∧ E 7 = out ∧ E 8 = .int .i64 (i : Int) := ⟨_, rfl⟩
  refine W_cutX (J Q.length) ?_ ?_
  · obtain ⟨QQ, hQQ⟩ : ∃ QQ : Ex → Env → St → Prop, QQ = fun xx e' s' => (xx = .normal ∧ J Q.length e' s') ∨ (xx ≠ .normal ∧ Q0 xx e' s') := ⟨_, rfl⟩
    rw [← hQQ]
    have wr : ∀ (S : St) (j : Nat), Kept st S → At S b3 [.int .i64 0, .int .i64 0] → W = .error j → ∃ S', storePV S 2 (.ptr b3 0) (.agg [.int .i64 (j : Int), .int .i64 90]) = some S' ∧ ∀ E : Env, E 2 = .nils → E 3 = .ptr b3 0 → QQ .ret E S' := fun S j k1 k3 kw => by
      obtain ⟨S2, a2, w2⟩ := k3.st2 (v0 := .int .i64 (j : Int)) (v1 := .int .i64 90) rfl rfl rfl rfl
      refine ⟨S2, a2, fun E i2 i3 => ?_⟩
      rw [hQQ]
      exact .inr ⟨by simp, finE _ _ j 90 (w2.kp st k1 (by omega)) w2.at_ (by rw [hrd, kw]) i2 i3⟩
    rw [qaaz]
    simp (maxSteps := 1000000) (disch := omega) only [qabz, qajz, qalz, evOp, qapz, qarz, qatz, qazz]
    rw [qadz]
    refine W_loop (fun n E S => ∃ i, n = Q.length - i ∧ J i E S) ?_ (n := Q.length) ⟨0, rfl, by
      rw [hJ]
      exact ⟨.nils, [], by omega, hk, hA3, .inl ⟨rfl, rfl⟩, fun _ => rfl, by rw [preE_nil]; exact hW, rfl, h3, h6, h7, rfl⟩⟩
    clear hk hA3 h3 h6 h7
    rintro n e S ⟨i, rfl, hh⟩
    have hJJ := hh
    rw [hJ] at hh
    obtain ⟨out, ds, hi, hk, hA3, ho, hn, hw, hdl, h3, h6, h7, h8⟩ := hh
    have hpl := len_vs hp
    rw [List.length_map] at hpl
    by_cases hlt : i < Q.length
    · obtain ⟨q, hq⟩ : ∃ q, q = Q.getD i (0, [], false) := ⟨_, rfl⟩
      have hqm : q ∈ Q := by rw [hq]; simp [List.getD, hlt]
      have hql := hQl q hqm
      have hia := iaddr_ln3 (k := .i64) hp hlt
      rw [← hq] at hia
      have hgd := readG_drop hlt
      rw [← hq] at hgd
      obtain ⟨a, m, w⟩ := q
      simp only at hia hgd hql
      have hone := rOne_spec (st := S) (x := m) (by omega)
      obtain ⟨b9, hb9⟩ : ∃ b9, b9 = S.boxes.length := ⟨_, rfl⟩
      have hne39 : b3 ≠ b9 := by have := hA3.lt; omega
      have hle9 : st.boxes.length ≤ b9 := by have := hk.bl; omega
      have hbm : (PV.bys .no m).by = some m := rfl
      cases hol : oneL m with
      | none =>
        rw [hol] at hone
        simp only [oneV] at hone
        have hwE : W = .error a := by rw [hw, hgd, hol]; cases w <;> rfl
        have hA9 := At.last (s := S) (z := [.str [], .nils, .str []]) (T := S.toks) (Lp := S.loops) (lo := S.low)
        rw [← hb9] at hA9
        obtain ⟨S2, a2, w2⟩ := hA9.st3 (v0 := .str []) (v1 := .nils) (v2 := .str []) rfl rfl rfl rfl rfl rfl
        obtain ⟨S3, q1, q2⟩ := wr S2 a (w2.kp st hk.alloc' hle9) (w2.ot _ _ hne39 hA3.alloc) hwE
        simp (maxSteps := 1000000) (disch := omega) only [h3, h6, h8, hpl, hlt, hia, fa3_0, fa3_1, ldcp, b2s_by hbm, hone, allocPV, ← hb9, a2, build2 Leaf_int Leaf_int, q1, qaaz, qabz, qacz, qadz, qaez, qaiz, qajz, qakz, qalz, qamz, qanz, evOp, qaoz, qapz, qaqz, qarz, qatz, qauz, qavz,
 ↓reduceIte, Nat.reduceEqDiff, List.map_cons, List.map_nil, Option.map_some, qazz, qbaz, qbez, qbhz, qbiz, qbpz, qbuz, beq_false, decide_true, Int.ofNat_lt, Bool.false_eq_true, qcjz, List.getElem?_cons_zero, List.getElem?_cons_succ, Bool.not_true, ne_eq, Int.reduceEq, not_false_eq_true]
        exact q2 _ rfl h3
      | some d =>
        rw [hol] at hone
        simp only [oneV] at hone
        obtain ⟨S1, hS1⟩ : ∃ S1, S1 = newS S (d.2.1.map fV).isEmpty := ⟨_, rfl⟩
        obtain ⟨nb, nl, np⟩ := newS_bx (S := S) (b := (d.2.1.map fV).isEmpty)
        have n0 := hk.newS (b := (d.2.1.map fV).isEmpty)
        have no := ho.newS (b := (d.2.1.map fV).isEmpty)
        rw [← hS1] at hone nb nl np n0 no
        have hb9' : b9 = S1.boxes.length := by rw [nb]; exact hb9
        have hA9 := At.last (s := S1) (z := [.str [], .nils, .str []]) (T := S1.toks) (Lp := S1.loops) (lo := S1.low)
        rw [← hb9'] at hA9
        obtain ⟨lf1, lf2⟩ := newSl_leaf (S := S) (esz := 2) (xs := d.2.1.map fV)
        obtain ⟨S2, a2, w2⟩ := hA9.st3 (v0 := .str d.1) (v1 := newSl S 2 (d.2.1.map fV)) (v2 := .str d.2.2) rfl lf1 rfl rfl (lf2 _) rfl
        have m1 := w2.kp _ n0.alloc' hle9
        have m3 := w2.ot _ _ hne39 (hA3.bx nb).alloc
        have mo := no.tks (s' := S2) w2.tk
        cases w with
        | false =>
          have hwE : W = .error a := by rw [hw, hgd]; rfl
          obtain ⟨S3, q1, q2⟩ := wr S2 a m1 m3 hwE
          simp (maxSteps := 1000000) (disch := omega) only [h3, h6, h8, hpl, hlt, hia, fa3_0, fa3_1, fa3_2, ldcp, b2s_by hbm, hone, allocPV, ← hb9', a2, build2 Leaf_int Leaf_int, q1, qaaz, qabz, qacz, qadz, qaez, qaiz, qajz, qakz, qalz, qamz, qanz, evOp, qaoz, qapz, qaqz, qarz, qatz, qauz, qavz,
 ↓reduceIte, Nat.reduceEqDiff, List.map_cons, List.map_nil, Option.map_some, qazz, qbaz, qbez, qbhz, qbiz, qbpz, qbuz, qcfz, qciz, beq_false, decide_true, decide_false,
 Int.ofNat_lt, Bool.false_eq_true, qcjz, List.getElem?_cons_zero, List.getElem?_cons_succ, Bool.not_false, ne_eq, not_true_eq_false]
          exact q2 _ rfl h3
        | true =>
          have hwO : W = preE (ds ++ [d]) (readG (Q.drop (i + 1))) := by
            rw [hw, hgd, hol]
            simp only [if_true]
            cases readG (Q.drop (i + 1)) with
            | ok l' => simp [preE]
            | error j => rfl
          have hne : ¬ ((ds.map dV).length : Int) = 4096 := by simp only [List.length_map]; omega
          obtain ⟨v', s', q1, q2, q3, q4⟩ := m1.appV (u := dV d) (w := .undef) (v := out) (esz := 3) (xs := ds.map dV) mo (by simp [room]; omega)
          simp (maxSteps := 1000000) (disch := omega) only [h6, h7, h8, hpl, hlt, hia, fa3_1, fa3_2, ldcp, b2s_by hbm, hone, allocPV, ← hb9', a2, own_len mo, hne, w2.at_.ld3, lit_line, freshT_eq, q1, add_n, loopQ_normal, qaaz, qabz, qacz, qadz, qaez, qajz, qakz, qalz, qamz, qanz, evOp, qaoz, qapz, qaqz, qarz, qatz, qauz, qavz,
 ↓reduceIte, Nat.reduceEqDiff, List.map_cons, List.map_nil, Option.map_some, qazz, qbdz, qbhz, qbpz, qbtz, qbuz, qcfz, qciz, beq_false, decide_true, decide_false,
 Int.ofNat_lt, Bool.false_eq_true, qcjz, List.getElem?_cons_zero, List.getElem?_cons_succ, Int.reduceToNat, Bool.not_true, Bool.not_false, ne_eq, not_true_eq_false]
          refine ⟨_, ?_, i + 1, rfl, ?_⟩
          · omega
          rw [hJ]
          exact ⟨v', ds ++ [d], by omega, q2, m3.bx q4, by simpa using q3, fun h => by simp at h, hwO, by simp [hdl], h3, h6, rfl, rfl⟩
    · obtain rfl : i = Q.length := by omega
      simp (maxSteps := 1000000) (disch := omega) only [h6, h8, hpl, hlt, qaaz, qabz, qacz, qagz, qajz, qalz, evOp, qaoz, qarz, qatz, qavz,
 ↓reduceIte, Nat.reduceEqDiff, Option.map_some, qazz, qbbz, qbfz, qbhz, qbjz, qbpz, decide_false,
 Int.ofNat_lt, Bool.false_eq_true]
      rw [hQQ]
      left
      refine ⟨rfl, ?_⟩
      rw [hJ]
      exact ⟨out, ds, hi, hk, hA3, ho, hn, hw, hdl, h3, h6, h7, h8⟩
  · clear hk hA3 h3 h6 h7
    rintro e S hh
    rw [hJ] at hh
    obtain ⟨out, ds, hi, hk, hA3, ho, hn, hw, hdl, h3, h6, h7, h8⟩ := hh
    rw [List.drop_length] at hw
    obtain ⟨S2, a2, w2⟩ := hA3.st2 (v0 := .int .i64 0) (v1 := .int .i64 0) rfl rfl rfl rfl
    simp (maxSteps := 1000000) (disch := omega) only [h3, h7, build0i, a2, qaaz, qabz, qaiz, qajz, qalz, evOp, qaoz, qarz, qatz, qauz, qavz,
 ↓reduceIte, Nat.reduceEqDiff, List.map_nil, Option.map_some, qazz]
    exact finO _ _ out ds (w2.kp st hk (by omega)) w2.at_ (ho.tks w2.tk) hn (by rw [hrd, hw]; simp [preE, readG]) rfl h3
end Go.Ab
/-
  The sheet's values: escaped, unescaped; the program's and the document's answers.
-/
namespace Go.Ab
variable {st : St} {e : Env}

end Go.Ab
/-
  Equal lines; what must come of fixed calls.
-/
namespace Go.Ab
set_option maxRecDepth 20000
variable {st s : St} {e : Env}

theorem eqc_s {a b c d : Bs} : eqPV (.struct [.s, .s]) (.agg [.str a, .str b]) (.agg [.str c, .str d]) = some (decide (a = c ∧ b = d)) := by
  have h : eqPV (.struct [.s, .s]) (.agg [.str a, .str b]) (.agg [.str c, .str d]) = some ((a == c) && (b == d)) := by
    simp only [eqPV, eqCells, eqLeaf]
    cases (a == c) <;> cases (b == d) <;> rfl
  rw [h]; by_cases h1 : a = c <;> by_cases h2 : b = d <;> simp [h1, h2]
theorem neq_f {a b c d : Bs} : binPV .neq (.struct [.s, .s]) (.agg [.str a, .str b]) (.agg [.str c, .str d]) = some (.bool (decide (¬ (a = c ∧ b = d)))) := by
  show (eqPV _ _ _).map (fun b => PV.bool !b) = _
  rw [eqc_s, decide_not]; rfl
theorem list_ext0 {α : Type} {d : α} {a b : List α} (h1 : a.length = b.length) (h2 : ∀ j, j < a.length → a.getD j d = b.getD j d) : a = b := by
  apply List.ext_getElem h1
  intro i i1 i2
  have := h2 i i1
  simpa [List.getD, i1, i2] using this
def sameLB (As Cs : List Ln) : Bool := decide (As.map ofLn = Cs.map ofLn)
theorem same_len {As Cs : List Ln} (h : As.map ofLn = Cs.map ofLn) : As.length = Cs.length := by simpa using congrArg List.length h
theorem same_get {As Cs : List Ln} (h : As.map ofLn = Cs.map ofLn) (j : Nat) : ofLn (As.getD j L0) = ofLn (Cs.getD j L0) := by
  have h1 := congrArg (fun l => l.getD j (ofLn L0)) h
  simp only [List.getD, List.getElem?_map] at h1 ⊢
  cases hA : As[j]? <;> cases hC : Cs[j]? <;> simp_all
theorem same_of {As Cs : List Ln} (hl : As.length = Cs.length) (h : ∀ j, j < As.length → ofLn (As.getD j L0) = ofLn (Cs.getD j L0)) : As.map ofLn = Cs.map ofLn := by
  refine list_ext0 (d := ofLn L0) (by simpa using hl) fun j hj => ?_
  have i1 : j < As.length := by simpa using hj
  have i2 : j < Cs.length := by omega
  have := h j i1
  simpa [List.getD, i1, i2] using this

set_option maxHeartbeats 4000000 in
theorem SameL_spec {x y : PV} {As Cs : List Ln} (hx : x.vs 3 = some (As.map lV)) (hy : y.vs 3 = some (Cs.map lV)) (hA : ∀ L ∈ As, L.pv.vs 2 = some (L.ps.map fV) ∧ L.ps.length ≤ 1000000) (hC : ∀ L ∈ Cs, L.pv.vs 2 = some (L.ps.map fV)) (hl : As.length ≤ 1000000) :
    call prog (.fn 92 []) [x, y] st = some (.bool (sameLB As Cs), st) := by
  refine call_of_W prog_92 ?_
  unfold F_posthornref10_Same; dsimp only
  generalize hQ1 : endQ st _ _ = Q0
  have hxl := len_vs hx
  have hyl := len_vs hy
  rw [List.length_map] at hxl hyl
  have no : ∀ (E : Env) (S : St), Kept st S → As.map ofLn ≠ Cs.map ofLn → E 4 = .bool false → Q0 .ret E S := fun E S k h h4 => by
    rw [← hQ1, qblz]
    exact retB h4 k (by simp [sameLB, h])
  have yes : ∀ (E : Env) (S : St), Kept st S → As.map ofLn = Cs.map ofLn → E 4 = .bool true → Q0 .ret E S := fun E S k h h4 => by
    rw [← hQ1, qblz]
    exact retB h4 k (by simp [sameLB, h])
  by_cases hlen : As.length = Cs.length
  · have e1 : ((As.length : Int) = (Cs.length : Int)) := by omega
    simp (maxSteps := 1000000) (disch := omega) only [hxl, hyl, hlen, qaaz, qabz, qacz, qadz, qaez, qajz, qalz, evOp, qaoz, qapz, qarz, qatz, qavz,
 ↓reduceIte, Nat.reduceEqDiff, List.append_nil, qawz, qaxz, Option.map_some, qazz, qbhz, qbuz, decide_false,
 Bool.false_eq_true, reduceCtorEq, ne_eq, not_true_eq_false]
    obtain ⟨I, hI⟩ : ∃ I : Nat → Env → St → Prop, I = fun k E S => ∃ i : Nat, k = As.length - i ∧ i ≤ As.length ∧ Kept st S ∧ (∀ j, j < i → ofLn (As.getD j L0) = ofLn (Cs.getD j L0)) ∧ E 0 = x ∧ E 1 = y ∧ E 5 = .int .i64 (i : Int) := ⟨_, rfl⟩
    refine W_loop I ?_ (n := As.length) (by
      rw [hI]; exact ⟨0, rfl, by omega, Kept.start, fun j hj => by omega, rfl, rfl, rfl⟩)
    intro k E S hh
    rw [hI] at hh
    obtain ⟨i, rfl, hi, hk, hall, h0, h1, h5⟩ := hh
    by_cases hlt : i < As.length
    · have hltC : i < Cs.length := by omega
      obtain ⟨A, hAe⟩ : ∃ A, A = As.getD i L0 := ⟨_, rfl⟩
      obtain ⟨C, hCe⟩ : ∃ C, C = Cs.getD i L0 := ⟨_, rfl⟩
      have hAm : A ∈ As := by rw [hAe]; simp [List.getD, hlt]
      have hCm : C ∈ Cs := by rw [hCe]; simp [List.getD, hltC]
      have hia := iaddr_L (k := .i64) (c := (i : Int)) hx (by omega) (by rw [Int.toNat_natCast]; exact hlt)
      have hic := iaddr_L (k := .i64) (c := (i : Int)) hy (by omega) (by rw [Int.toNat_natCast]; exact hltC)
      rw [Int.toNat_natCast, ← hAe] at hia
      rw [Int.toNat_natCast, ← hCe] at hic
      obtain ⟨hAv, hApl⟩ := hA A hAm
      have hCv := hC C hCm
      have hAl := len_vs hAv
      have hCl := len_vs hCv
      rw [List.length_map] at hAl hCl
      have dif : ofLn A ≠ ofLn C → As.map ofLn ≠ Cs.map ofLn := fun h q => h (by rw [hAe, hCe]; exact same_get q i)
      by_cases hn : A.n = C.n
      · by_cases hv : A.v = C.v
        · by_cases hp : A.ps.length = C.ps.length
          · have ep : ((A.ps.length : Int) = (C.ps.length : Int)) := by omega
            simp (maxSteps := 1000000) (disch := omega) only [h0, h1, h5, hxl, hlt, hia, hic, fa3_0, fa3_1, fa3_2, ldcp, eq_true hn, eq_true hv, hAl, hCl, hp, qaaz, qabz, qacz, qadz, qaez, qajz, qakz, qalz, qamz, qanz, evOp, qaoz, qapz, qarz, qatz, qavz,
 ↓reduceIte, Nat.reduceEqDiff, Option.map_some, qazz, qbhz, qbpz, qbuz, qccz, qciz, beq_false, decide_true, decide_false,
 Int.ofNat_lt, Bool.false_eq_true, reduceCtorEq, Bool.not_false, ne_eq, not_true_eq_false]
            obtain ⟨II, hII⟩ : ∃ II : Nat → Env → St → Prop, II = fun z E S => ∃ k : Nat, z = A.ps.length - k ∧ k ≤ A.ps.length ∧ Kept st S ∧ (∀ j, j < k → A.ps.getD j ([], []) = C.ps.getD j ([], [])) ∧ E 0 = x ∧ E 1 = y ∧ E 5 = .int .i64 (i : Int) ∧ E 6 = .int .i64 (k : Int) := ⟨_, rfl⟩
            refine W_loop II ?_ (n := A.ps.length) (by
              rw [hII]; exact ⟨0, rfl, by omega, hk, fun j hj => by omega, h0, h1, h5, rfl⟩)
            clear hk h0 h1 h5
            intro z E S hh
            rw [hII] at hh
            obtain ⟨k, rfl, hki, hk, hdif, h0, h1, h5, h6⟩ := hh
            by_cases hkt : k < A.ps.length
            · obtain ⟨f, hf⟩ : ∃ f, f = A.ps.getD k ([], []) := ⟨_, rfl⟩
              obtain ⟨g, hg⟩ : ∃ g, g = C.ps.getD k ([], []) := ⟨_, rfl⟩
              have hif := iaddr_f (k := .i64) (c := (k : Int)) hAv (by omega) (by rw [Int.toNat_natCast]; exact hkt)
              have hig := iaddr_f (k := .i64) (c := (k : Int)) hCv (by omega) (by rw [Int.toNat_natCast]; omega)
              rw [Int.toNat_natCast, ← hf] at hif
              rw [Int.toNat_natCast, ← hg] at hig
              by_cases hfg : f.1 = g.1 ∧ f.2 = g.2
              · simp (maxSteps := 1000000) (disch := omega) only [h0, h1, h5, h6, hia, hic, fa3_1, ldcp, hAl, hkt, hif, hig, load_f2, neq_f, hfg, add_n, loopQ_normal, qaaz, qabz, qacz, qadz, qaez, qajz, qalz, evOp, qaoz, qapz, qarz, qatz, qavz,
 ↓reduceIte, Nat.reduceEqDiff, Option.map_some, qazz, qbdz, qbhz, qbpz, decide_true, decide_false,
 Int.ofNat_lt, Bool.false_eq_true, Int.reduceToNat, and_true, reduceCtorEq, not_true_eq_false]
                refine ⟨A.ps.length - (k + 1), by omega, ?_⟩
                rw [hII]
                refine ⟨k + 1, rfl, by omega, hk, fun j hj => ?_, h0, h1, h5, rfl⟩
                by_cases hjk : j = k
                · subst hjk; rw [← hf, ← hg]; exact Prod.ext hfg.1 hfg.2
                · exact hdif j (by omega)
              · simp (maxSteps := 1000000) (disch := omega) only [h0, h1, h5, h6, hia, hic, fa3_1, ldcp, hAl, hkt, hif, hig, load_f2, neq_f, hfg, qaaz, qabz, qacz, qadz, qaez, qaiz, qajz, qalz, evOp, qaoz, qapz, qarz, qatz, qavz,
 ↓reduceIte, Nat.reduceEqDiff, Option.map_some, qazz, qbaz, qbez, qbhz, qbiz, qbpz, decide_true, Int.ofNat_lt, reduceCtorEq, not_false_eq_true]
                exact no _ _ hk (dif fun q => hfg (by
                  have q2 : A.ps = C.ps := congrArg (fun z : LnD => z.2.1) q
                  rw [hf, hg, q2]; exact ⟨rfl, rfl⟩)) rfl
            · obtain rfl : k = A.ps.length := by omega
              simp (maxSteps := 1000000) (disch := omega) only [h0, h5, h6, hia, fa3_1, ldcp, hAl, hkt, add_n, loopQ_normal, qaaz, qabz, qacz, qagz, qajz, qalz, evOp, qaoz, qapz, qarz, qatz, qavz,
 ↓reduceIte, Nat.reduceEqDiff, Option.map_some, qazz, qbbz, qbdz, qbfz, qbhz, qbjz, qbpz, decide_false,
 Int.ofNat_lt, Bool.false_eq_true, Int.reduceToNat, reduceCtorEq]
              refine ⟨As.length - (i + 1), by omega, ?_⟩
              rw [hI]
              refine ⟨i + 1, rfl, by omega, hk, fun j hj => ?_, h0, h1, rfl⟩
              by_cases hji : j = i
              · subst hji
                rw [← hAe, ← hCe]
                have hps : A.ps = C.ps := list_ext0 hp hdif
                unfold ofLn; rw [hn, hv, hps]
              · exact hall j (by omega)
          · have ep : ¬ ((A.ps.length : Int) = (C.ps.length : Int)) := by omega
            simp (maxSteps := 1000000) (disch := omega) only [h0, h1, h5, hxl, hlt, hia, hic, fa3_0, fa3_1, fa3_2, ldcp, eq_true hn, eq_true hv, hAl, hCl, hp, qaaz, qabz, qacz, qadz, qaez, qaiz, qajz, qakz, qalz, qamz, qanz, evOp, qaoz, qapz, qarz, qatz, qavz,
 ↓reduceIte, Nat.reduceEqDiff, Option.map_some, qazz, qbaz, qbez, qbhz, qbiz, qbpz, qbuz, qccz, qciz, beq_false, decide_true, decide_false,
 Int.ofNat_lt, Int.natCast_inj, Bool.false_eq_true, reduceCtorEq, Bool.not_false, ne_eq, not_true_eq_false, not_false_eq_true]
            exact no _ _ hk (dif fun q => hp (by rw [show A.ps = C.ps from congrArg (fun z : LnD => z.2.1) q])) rfl
        · simp (maxSteps := 1000000) (disch := omega) only [h0, h1, h5, hxl, hlt, hia, hic, fa3_0, fa3_2, ldcp, eq_true hn, hv, qaaz, qabz, qacz, qadz, qaez, qaiz, qajz, qakz, qalz, qamz, qanz, evOp, qaoz, qapz, qarz, qatz, qavz,
 ↓reduceIte, Nat.reduceEqDiff, Option.map_some, qazz, qbaz, qbez, qbhz, qbiz, qbpz, qccz, qciz, beq_false, decide_true, decide_false,
 Int.ofNat_lt, Bool.false_eq_true, reduceCtorEq, Bool.not_true, Bool.not_false, ne_eq, not_true_eq_false, not_false_eq_true]
          exact no _ _ hk (dif fun q => hv (congrArg (fun z : LnD => z.2.2) q)) rfl
      · simp (maxSteps := 1000000) (disch := omega) only [h0, h1, h5, hxl, hlt, hia, hic, fa3_0, ldcp, hn, qaaz, qabz, qacz, qadz, qaez, qaiz, qajz, qakz, qalz, qamz, qanz, evOp, qaoz, qapz, qarz, qatz, qavz,
 ↓reduceIte, Nat.reduceEqDiff, Option.map_some, qazz, qbaz, qbez, qbhz, qbiz, qbpz, qccz, beq_false, decide_true, Int.ofNat_lt, Bool.false_eq_true, reduceCtorEq, Bool.not_true, ne_eq, not_false_eq_true]
        exact no _ _ hk (dif fun q => hn (congrArg (fun z : LnD => z.1) q)) rfl
    · obtain rfl : i = As.length := by omega
      simp (maxSteps := 1000000) (disch := omega) only [h0, h5, hxl, hlt, qaaz, qabz, qacz, qagz, qaiz, qajz, qalz, evOp, qaoz, qapz, qarz, qatz, qavz,
 ↓reduceIte, Nat.reduceEqDiff, Option.map_some, qazz, qbbz, qbfz, qbhz, qbjz, qbpz, decide_false,
 Int.ofNat_lt, Bool.false_eq_true, reduceCtorEq]
      exact yes _ _ hk (same_of hlen hall) rfl
  · have e1 : ¬ ((As.length : Int) = (Cs.length : Int)) := by omega
    simp (maxSteps := 1000000) (disch := omega) only [hxl, hyl, hlen, qaaz, qabz, qacz, qaiz, qajz, qalz, evOp, qaoz, qapz, qarz, qatz, qavz,
 ↓reduceIte, Nat.reduceEqDiff, List.append_nil, qawz, qaxz, Option.map_some, qazz, qbaz, qbhz, qbuz, decide_true, Int.natCast_inj, reduceCtorEq, ne_eq, not_false_eq_true]
    exact no _ _ Kept.start (fun h => hlen (same_len h)) rfl

end Go.Ab
/-
  What the laws of lines' reading ask: plain.
-/
namespace Go.Ab
set_option maxRecDepth 20000
variable {st s : St} {e : Env}

theorem segs_half : ∀ (k : Nat) (l acc : Bs), l.length ≤ k → 2 * (segs l acc).length ≤ acc.length + l.length + 1 := by
  intro k
  induction k with
  | zero =>
    intro l acc h
    have : l = [] := List.eq_nil_of_length_eq_zero (by omega)
    subst this
    simp only [segs]
    split
    · simp
    · rename_i hne
      have : 1 ≤ acc.length := List.length_pos_iff.2 hne
      simp; omega
  | succ k ih =>
    intro l acc h
    match l with
    | [] =>
      simp only [segs]
      split
      · simp
      · rename_i hne
        have : 1 ≤ acc.length := List.length_pos_iff.2 hne
        simp; omega
    | [c] => simp [segs]
    | c :: d :: r =>
      simp only [segs]
      split
      · have := ih r [] (by simp at h; omega)
        simp at this ⊢; omega
      · have := ih (d :: r) (acc ++ [c]) (by simp at h ⊢; omega)
        simp at this ⊢; omega
theorem place_len2 : ∀ (p : List (Bs × Bool)) (a : Nat), (place a p).length = p.length := by
  intro p
  induction p with
  | nil => intro a; rfl
  | cons z r ih => intro a; simp [place, ih]
theorem refLines_half {l : Bs} : 2 * (refLines l).length ≤ l.length + 1 := by
  have := segs_half l.length l [] (Nat.le_refl _)
  unfold refLines
  rw [place_len2]
  simpa using this
theorem place_at : ∀ (k : Nat) (l acc : Bs) (a : Nat), l.length ≤ k → ∀ q ∈ place a (segs l acc), q.1 + q.2.1.length ≤ a + acc.length + l.length := by
  intro k
  induction k with
  | zero =>
    intro l acc a h q hq
    have : l = [] := List.eq_nil_of_length_eq_zero (by omega)
    subst this
    simp only [segs] at hq
    split at hq
    · simp [place] at hq
    · simp only [place, List.mem_singleton] at hq; subst hq; simp
  | succ k ih =>
    intro l acc a h q hq
    match l with
    | [] =>
      simp only [segs] at hq
      split at hq
      · simp [place] at hq
      · simp only [place, List.mem_singleton] at hq; subst hq; simp
    | [c] => simp only [segs, place, List.mem_singleton] at hq; subst hq; simp; omega
    | c :: d :: r =>
      simp only [segs] at hq
      split at hq
      · simp only [place, List.mem_cons] at hq
        rcases hq with rfl | hq
        · simp
        · have := ih r [] _ (by simp at h; omega) q hq
          simp at this ⊢; omega
      · have := ih (d :: r) (acc ++ [c]) _ (by simp at h ⊢; omega) q hq
        simp at this ⊢; omega
theorem readG_err : ∀ (q : List (Nat × Bs × Bool)) (j : Nat), readG q = .error j → ∃ z ∈ q, z.1 = j := by
  intro q
  induction q with
  | nil => intro j h; cases h
  | cons z r ih =>
    intro j h
    obtain ⟨a, x, w⟩ := z
    simp only [readG] at h
    cases hh : (if w = true then oneL x else none) with
    | none => rw [hh] at h; cases h; exact ⟨(_, x, w), List.mem_cons_self .., rfl⟩
    | some d =>
      rw [hh] at h
      simp only at h
      cases hr : readG r with
      | ok l => rw [hr] at h; cases h
      | error i =>
        rw [hr] at h
        cases h
        obtain ⟨z, hz, h1⟩ := ih _ hr
        exact ⟨z, List.mem_cons_of_mem _ hz, h1⟩
theorem pts_err : ∀ (k : Nat) (l : Bs) (i j : Nat), ptsOf k l i = .error j → j ≤ l.length := by
  intro k
  induction k with
  | zero => intro l i j h; cases h
  | succ k ih =>
    intro l i j h
    simp only [ptsOf] at h
    split at h
    · rename_i hi
      cases hn : nextOf (l.drop i) with
      | none => rw [hn] at h; cases h; omega
      | some pn =>
        obtain ⟨p, n⟩ := pn
        rw [hn] at h
        simp only at h
        cases hr : ptsOf k l (i + n) with
        | ok r => rw [hr] at h; cases h
        | error m => rw [hr] at h; cases h; exact ih _ _ _ hr
    · cases h
theorem readL_err {l : Bs} {j : Nat} {c : Int} (h : readL l = .error (j, c)) : j ≤ l.length ∧ c ≠ 0 := by
  have hu := unfV_len _ l (Nat.le_refl _)
  unfold readL at h
  cases hp : ptsOf ((unfV l).length + 1) (unfV l) 0 with
  | error i =>
    rw [hp] at h; cases h
    exact ⟨Nat.le_trans (pts_err _ _ _ _ hp) hu, by decide⟩
  | ok r =>
    rw [hp] at h
    simp only at h
    cases hg : readG (refLines (unfV l)) with
    | ok ds => rw [hg] at h; cases h
    | error i =>
      rw [hg] at h; cases h
      obtain ⟨z, hz, rfl⟩ := readG_err _ _ hg
      have := place_at _ _ _ 0 (Nat.le_refl _) z hz
      simp only [List.length_nil] at this
      exact ⟨by omega, by decide⟩
theorem readL_ok {l : Bs} {ds : List LnD} (h : readL l = .ok ds) : (∀ d ∈ ds, rtB (toLn d) = true) ∧ (ds.map fun d => (textOfL (toLn d)).length + 2).sum ≤ l.length ∧ 2 * ds.length ≤ l.length + 1 := by
  have hu := unfV_len _ l (Nat.le_refl _)
  unfold readL at h
  cases hp : ptsOf ((unfV l).length + 1) (unfV l) 0 with
  | error i => rw [hp] at h; cases h
  | ok r =>
    rw [hp] at h
    simp only at h
    cases hg : readG (refLines (unfV l)) with
    | error i => rw [hg] at h; cases h
    | ok ds' =>
      rw [hg] at h; cases h
      obtain ⟨h1, h2⟩ := refLines_len (l := unfV l)
      obtain ⟨h3, h4, h5⟩ := h2 _ hg
      have h6 := refLines_half (l := unfV l)
      exact ⟨h3, by omega, by omega⟩

theorem toLn_vs {d : LnD} : (toLn d).pv.vs 2 = some ((toLn d).ps.map fV) := by
  obtain ⟨n, ps, v⟩ := d
  cases ps with
  | nil => simp [toLn, PV.vs]
  | cons p r => simp [toLn, PV.vs]
theorem nm_len {l : Bs} (h : nmB l = true) : l.length ≤ 64 := by
  simp only [nmB, Bool.and_eq_true, decide_eq_true_eq] at h; exact h.1.2
theorem toLn_ok {d : LnD} (h : rtB (toLn d) = true) : (toLn d).ok := by
  have hp := rt_of h
  have h1 := nm_len hp.1
  have h2 := hp.2.2.1
  have h3 := hp.2.2.2.1
  refine ⟨toLn_vs, ?_, ?_, ?_, by omega, by omega, by omega, fun p hpm => ?_⟩
  · intro n
    unfold toLn
    split <;> rfl
  · unfold toLn
    split <;> rfl
  · unfold toLn
    split <;> rfl
  · have := par_mem hp p hpm
    have h4 := nm_len this.1
    have h5 := this.2.2.1
    omega
theorem dV_map (ds : List LnD) : ds.map dV = (ds.map toLn).map lV := by rw [List.map_map]; rfl
theorem ofLn_map (ds : List LnD) : (ds.map toLn).map ofLn = ds := by
  rw [List.map_map]
  conv => rhs; rw [← List.map_id ds]
  rfl

theorem readV_parts (r : Except (Nat × Int) (List LnD)) : ∃ (j c : Int) (ds : List LnD), (∀ S : St, ∃ v S', readV S r = (.tup [v, .agg [.int .i64 j, .int .i64 c]], S') ∧ v.vs 3 = some ((ds.map toLn).map lV) ∧ (∀ st, Kept st S → Kept st S') ∧ S'.boxes = S.boxes) ∧
    (match r with | .error (j', c') => j = (j' : Int) ∧ c = c' ∧ ds = [] | .ok ds' => j = 0 ∧ c = 0 ∧ ds = ds') := by
  cases r with
  | error q =>
    obtain ⟨j, c⟩ := q
    exact ⟨j, c, [], fun S => ⟨.nils, S, rfl, by simp [PV.vs], fun _ h => h, rfl⟩, rfl, rfl, rfl⟩
  | ok ds =>
    exact ⟨0, 0, ds, fun S => ⟨newSl S 3 (ds.map dV), newS S (ds.map dV).isEmpty, rfl, by rw [← dV_map]; exact newSl_vs3, fun _ h => h.newS, newS_bx.1⟩, rfl, rfl, rfl⟩
end Go.Ab
/-
  Trees: plain.
-/
namespace Go.Ab

inductive TD where
  | mk (n : Bs) (ls : List LnD) (cs : List TD)
def T0 : TD := .mk [] [] []
def TD.n : TD → Bs
  | .mk n _ _ => n
def TD.ls : TD → List LnD
  | .mk _ ls _ => ls
def TD.cs : TD → List TD
  | .mk _ _ cs => cs
theorem TD.ind {P : TD → Prop} (h : ∀ n ls cs, (∀ c ∈ cs, P c) → P (.mk n ls cs)) : ∀ T, P T
  | .mk n ls cs => h n ls cs (fun c hc => TD.ind h c)
termination_by T => SizeOf.sizeOf T
decreasing_by
  have := List.sizeOf_lt_of_mem hc
  simp; omega

mutual
def TD.cnt : TD → Nat
  | .mk _ _ cs => 1 + cntL cs
def cntL : List TD → Nat
  | [] => 0
  | c :: r => c.cnt + cntL r
end
mutual
def TD.lns : TD → Nat
  | .mk _ ls cs => ls.length + lnsL cs
def lnsL : List TD → Nat
  | [] => 0
  | c :: r => c.lns + lnsL r
end
mutual
def TD.deep : TD → Nat
  | .mk _ _ cs => 1 + deepL cs
def deepL : List TD → Nat
  | [] => 0
  | c :: r => max c.deep (deepL r)
end
def begS : Bs := [66, 69, 71, 73, 78]
def endS : Bs := [69, 78, 68]
noncomputable def lineB (d : LnD) : Bool := rtB (toLn d) && !decide (d.1 = begS) && !decide (d.1 = endS)
mutual
noncomputable def TD.fit : TD → Bool
  | .mk n ls cs => nmB n && ls.all lineB && fitL cs
noncomputable def fitL : List TD → Bool
  | [] => true
  | c :: r => c.fit && fitL r
end
noncomputable def rightD (T : TD) : Bool := decide (T.cnt ≤ 64) && decide (T.lns ≤ 8192) && decide (T.deep ≤ 8) && T.fit
theorem cntL_app {a b : List TD} : cntL (a ++ b) = cntL a + cntL b := by
  induction a with
  | nil => simp [cntL]
  | cons c r ih => simp only [List.cons_append, cntL, ih]; omega
theorem lnsL_app {a b : List TD} : lnsL (a ++ b) = lnsL a + lnsL b := by
  induction a with
  | nil => simp [lnsL]
  | cons c r ih => simp only [List.cons_append, lnsL, ih]; omega
theorem deepL_app {a b : List TD} : deepL (a ++ b) = max (deepL a) (deepL b) := by
  induction a with
  | nil => simp [deepL]
  | cons c r ih => simp only [List.cons_append, deepL, ih]; omega
theorem fitL_all {a : List TD} : fitL a = a.all TD.fit := by
  induction a with
  | nil => simp [fitL]
  | cons c r ih => simp only [fitL, ih, List.all_cons]
theorem take_snoc {α : Type} {d : α} {l : List α} {i : Nat} (h : i < l.length) : l.take (i + 1) = l.take i ++ [l.getD i d] := by
  rw [List.take_succ_eq_append_getElem h]; simp [List.getD, h]
theorem getD_mem {α : Type} {d : α} {l : List α} {i : Nat} (h : i < l.length) : l.getD i d ∈ l := by simp [List.getD, h]

def Ln.good (L : Ln) : Prop := L.pv.vs 2 = some (L.ps.map fV) ∧ tokOf L.pv = none
def okD (d : LnD) : Prop := d.1.length ≤ 300 ∧ d.2.2.length ≤ 5000 ∧ d.2.1.length ≤ 30 ∧ ∀ p ∈ d.2.1, p.1.length + p.2.length ≤ 500
theorem vs_leaf {v : PV} {e : Nat} {xs : List PV} (h : v.vs e = some xs) : leafOk v = true ∧ ∀ n, v.inB n = true := by
  rcases vs_cases h with ⟨rfl, _⟩ | ⟨t, rfl⟩ <;> exact ⟨rfl, fun _ => rfl⟩
theorem Ln.good.ok {L : Ln} (h : L.good) (hb : okD (ofLn L)) : L.ok := ⟨h.1, (vs_leaf h.1).2, (vs_leaf h.1).1, h.2, hb.1, hb.2.1, hb.2.2.1, hb.2.2.2⟩
theorem toLn_good {d : LnD} : (toLn d).good := ⟨toLn_vs, by unfold toLn; split <;> rfl⟩
theorem rt_okD {d : LnD} (h : rtB (toLn d) = true) : okD d := by
  have := toLn_ok h
  exact ⟨this.l1, this.l2, this.l3, this.l4⟩
inductive IsT : TD → PV → Prop
  | mk {n : Bs} {ls : List LnD} {cs : List TD} {lv cv : PV} {Ls : List Ln} {ys : List PV} (h1 : lv.vs 3 = some (Ls.map lV)) (h2 : Ls.map ofLn = ls) (h3 : ∀ L ∈ Ls, L.good) (h5 : cv.vs 3 = some ys) (h6 : ys.length = cs.length) (h7 : ∀ i, i < cs.length → IsT (cs.getD i T0) (ys.getD i .undef)) : IsT (.mk n ls cs) (.agg [.str n, lv, cv])
inductive TD.sm : TD → Prop
  | mk {n : Bs} {ls : List LnD} {cs : List TD} (h1 : n.length ≤ 5000) (h2 : ls.length ≤ 100000) (h3 : ∀ d ∈ ls, okD d) (h4 : cs.length ≤ 100000) (h5 : ∀ c ∈ cs, c.sm) : TD.sm (.mk n ls cs)
theorem IsT.inv {n : Bs} {ls : List LnD} {cs : List TD} {v : PV} (h : IsT (.mk n ls cs) v) : ∃ (lv cv : PV) (Ls : List Ln) (ys : List PV), v = .agg [.str n, lv, cv] ∧ lv.vs 3 = some (Ls.map lV) ∧ Ls.map ofLn = ls ∧ (∀ L ∈ Ls, L.good) ∧ cv.vs 3 = some ys ∧ ys.length = cs.length ∧ ∀ i, i < cs.length → IsT (cs.getD i T0) (ys.getD i .undef) := by
  cases h with
  | mk h1 h2 h3 h5 h6 h7 => exact ⟨_, _, _, _, rfl, h1, h2, h3, h5, h6, h7⟩
theorem IsT.agg {T : TD} {v : PV} (h : IsT T v) : ∃ lv cv, v = .agg [.str T.n, lv, cv] ∧ (leafOk lv = true ∧ ∀ n, lv.inB n = true) ∧ (leafOk cv = true ∧ ∀ n, cv.inB n = true) := by
  obtain ⟨n, ls, cs⟩ := T
  obtain ⟨lv, cv, Ls, ys, rfl, h1, h2, h3, h5, -, -⟩ := h.inv
  exact ⟨lv, cv, rfl, vs_leaf h1, vs_leaf h5⟩
theorem iaddr_T {x : PV} {ys : List PV} {i : Nat} {T : TD} (h : x.vs 3 = some ys) (hi : i < ys.length) (hT : IsT T (ys.getD i .undef)) : ∃ lv cv, ys.getD i .undef = .agg [.str T.n, lv, cv] ∧ iaddrPV 3 x (.int .i64 (i : Int)) = some (.cp [.str T.n, lv, cv]) ∧ IsT T (.agg [.str T.n, lv, cv]) ∧ (leafOk lv = true ∧ ∀ n, lv.inB n = true) ∧ (leafOk cv = true ∧ ∀ n, cv.inB n = true) := by
  obtain ⟨lv, cv, h1, h2, h3⟩ := hT.agg
  refine ⟨lv, cv, h1, ?_, by rw [← h1]; exact hT, h2, h3⟩
  rw [iaddr_vs h (by omega) (by rw [Int.toNat_natCast]; exact hi), Int.toNat_natCast, h1]; rfl

mutual
def TD.lines : TD → List LnD
  | .mk n ls cs => (begS, [], n) :: (ls ++ linesL cs) ++ [(endS, [], n)]
def linesL : List TD → List LnD
  | [] => []
  | c :: r => c.lines ++ linesL r
end
theorem linesL_app {a b : List TD} : linesL (a ++ b) = linesL a ++ linesL b := by
  induction a with
  | nil => simp [linesL]
  | cons c r ih => simp only [List.cons_append, linesL, ih, List.append_assoc]

mutual
def readF : Nat → List LnD → Nat → Option (TD × List LnD)
  | 0, _, _ => none
  | f + 1, l, k => if 8 < k then none else match l with
    | [] => none
    | (n, ps, v) :: r => if n = begS ∧ ps = [] then bodyF f (upOf v) [] [] r k else none
def bodyF : Nat → Bs → List LnD → List TD → List LnD → Nat → Option (TD × List LnD)
  | 0, _, _, _, _, _ => none
  | f + 1, nm, ls, cs, l, k => match l with
    | [] => none
    | (n, ps, v) :: r => if n = begS then (match readF f ((n, ps, v) :: r) (k + 1) with
        | none => none
        | some (d, rest) => bodyF f nm ls (cs ++ [d]) rest k)
      else if n = endS then (if ps = [] ∧ upOf v = nm then some (.mk nm ls cs, r) else none)
      else bodyF f nm (ls ++ [(n, ps, v)]) cs r k
end
theorem F_len : ∀ f, (∀ l k d rest, readF f l k = some (d, rest) → rest.length < l.length) ∧ (∀ nm ls cs l k d rest, bodyF f nm ls cs l k = some (d, rest) → rest.length < l.length) := by
  intro f
  induction f with
  | zero => exact ⟨fun l k d rest h => by simp [readF] at h, fun nm ls cs l k d rest h => by simp [bodyF] at h⟩
  | succ f ih =>
    obtain ⟨ih1, ih2⟩ := ih
    constructor
    · intro l k d rest h
      simp only [readF] at h
      split at h
      · cases h
      · match l, h with
        | (n, ps, v) :: r, h =>
          simp only at h
          split at h
          · have := ih2 _ _ _ _ _ _ _ h; simp; omega
          · cases h
    · intro nm ls cs l k d rest h
      match l, h with
      | [], h => simp [bodyF] at h
      | (n, ps, v) :: r, h =>
        simp only [bodyF] at h
        split at h
        · cases hr : readF f ((n, ps, v) :: r) (k + 1) with
          | none => rw [hr] at h; cases h
          | some q =>
            obtain ⟨d', rest'⟩ := q
            rw [hr] at h
            have h1 := ih1 _ _ _ _ hr
            have h2 := ih2 _ _ _ _ _ _ _ h
            omega
        · split at h
          · split at h
            · cases h; simp
            · cases h
          · have := ih2 _ _ _ _ _ _ _ h; simp; omega
theorem F_fuel : ∀ N, (∀ f g l k, l.length ≤ N → 2 * l.length ≤ f → 2 * l.length ≤ g → readF f l k = readF g l k) ∧ (∀ f g nm ls cs l k, l.length ≤ N → 2 * l.length + 1 ≤ f → 2 * l.length + 1 ≤ g → bodyF f nm ls cs l k = bodyF g nm ls cs l k) := by
  have nil1 : ∀ f k, readF f [] k = none := fun f k => by cases f <;> simp [readF]
  have nil2 : ∀ f nm ls cs k, bodyF f nm ls cs [] k = none := fun f nm ls cs k => by cases f <;> simp [bodyF]
  intro N
  induction N with
  | zero =>
    refine ⟨fun f g l k h _ _ => ?_, fun f g nm ls cs l k h _ _ => ?_⟩
    · have : l = [] := List.eq_nil_of_length_eq_zero (by omega)
      subst this; rw [nil1, nil1]
    · have : l = [] := List.eq_nil_of_length_eq_zero (by omega)
      subst this; rw [nil2, nil2]
  | succ N ih =>
    obtain ⟨ih1, ih2⟩ := ih
    have st1 : ∀ f g l k, l.length ≤ N + 1 → 2 * l.length ≤ f → 2 * l.length ≤ g → readF f l k = readF g l k := by
      intro f g l k h hf hg
      match l with
      | [] => rw [nil1, nil1]
      | (n, ps, v) :: r =>
        simp only [List.length_cons] at h hf hg
        obtain ⟨f', rfl⟩ : ∃ f', f = f' + 1 := ⟨f - 1, by omega⟩
        obtain ⟨g', rfl⟩ : ∃ g', g = g' + 1 := ⟨g - 1, by omega⟩
        simp only [readF]
        split
        · rfl
        · split
          · exact ih2 _ _ _ _ _ _ _ (by omega) (by omega) (by omega)
          · rfl
    refine ⟨st1, ?_⟩
    intro f g nm ls cs l k h hf hg
    match l with
    | [] => rw [nil2, nil2]
    | (n, ps, v) :: r =>
      simp only [List.length_cons] at h hf hg
      obtain ⟨f', rfl⟩ : ∃ f', f = f' + 1 := ⟨f - 1, by omega⟩
      obtain ⟨g', rfl⟩ : ∃ g', g = g' + 1 := ⟨g - 1, by omega⟩
      simp only [bodyF]
      split
      · rw [st1 f' g' ((n, ps, v) :: r) (k + 1) (by simp; omega) (by simp; omega) (by simp; omega)]
        cases hr : readF g' ((n, ps, v) :: r) (k + 1) with
        | none => rfl
        | some q =>
          obtain ⟨d, rest⟩ := q
          have := (F_len g').1 _ _ _ _ hr
          simp only [List.length_cons] at this
          exact ih2 _ _ _ _ _ _ _ (by omega) (by omega) (by omega)
      · split
        · rfl
        · exact ih2 _ _ _ _ _ _ _ (by omega) (by omega) (by omega)
def readT (l : List LnD) (k : Nat) : Option (TD × List LnD) := readF (2 * l.length) l k
def bodyT (nm : Bs) (ls : List LnD) (cs : List TD) (l : List LnD) (k : Nat) : Option (TD × List LnD) := bodyF (2 * l.length + 1) nm ls cs l k
theorem readT_nil {k : Nat} : readT [] k = none := rfl
theorem readT_deep {l : List LnD} {k : Nat} (h : 8 < k) : readT l k = none := by
  unfold readT
  cases hf : 2 * l.length with
  | zero => rfl
  | succ f => simp [readF, h]
theorem readT_cons {n v : Bs} {ps : List Fld} {r : List LnD} {k : Nat} (h : ¬ 8 < k) : readT ((n, ps, v) :: r) k = if n = begS ∧ ps = [] then bodyT (upOf v) [] [] r k else none := by
  unfold readT bodyT
  simp only [List.length_cons, Nat.mul_add, Nat.mul_one]
  rw [readF, if_neg h]
theorem bodyT_nil {nm : Bs} {ls : List LnD} {cs : List TD} {k : Nat} : bodyT nm ls cs [] k = none := by simp [bodyT, bodyF]
theorem bodyT_cons {nm n v : Bs} {ls : List LnD} {cs : List TD} {ps : List Fld} {r : List LnD} {k : Nat} : bodyT nm ls cs ((n, ps, v) :: r) k =
    if n = begS then (match readT ((n, ps, v) :: r) (k + 1) with
        | none => none
        | some (d, rest) => bodyT nm ls (cs ++ [d]) rest k)
      else if n = endS then (if ps = [] ∧ upOf v = nm then some (.mk nm ls cs, r) else none)
      else bodyT nm (ls ++ [(n, ps, v)]) cs r k := by
  unfold readT bodyT
  rw [bodyF]
  have hl : 2 * ((n, ps, v) :: r).length = 2 * r.length + 2 := by simp; omega
  rw [hl]
  split
  · cases hr : readF (2 * r.length + 2) ((n, ps, v) :: r) (k + 1) with
    | none => rfl
    | some q =>
      obtain ⟨d, rest⟩ := q
      have := (F_len _).1 _ _ _ _ hr
      simp only [List.length_cons] at this
      exact (F_fuel rest.length).2 _ _ _ _ _ _ _ (Nat.le_refl _) (by omega) (by omega)
  · split
    · rfl
    · exact (F_fuel r.length).2 _ _ _ _ _ _ _ (Nat.le_refl _) (by omega) (by omega)
theorem readT_len {l : List LnD} {k : Nat} {d : TD} {rest : List LnD} (h : readT l k = some (d, rest)) : rest.length < l.length := (F_len _).1 _ _ _ _ h
theorem F_sub : ∀ f, (∀ l k d rest, readF f l k = some (d, rest) → ∀ x ∈ rest, x ∈ l) ∧ (∀ nm ls cs l k d rest, bodyF f nm ls cs l k = some (d, rest) → ∀ x ∈ rest, x ∈ l) := by
  intro f
  induction f with
  | zero => exact ⟨fun l k d rest h => by simp [readF] at h, fun nm ls cs l k d rest h => by simp [bodyF] at h⟩
  | succ f ih =>
    obtain ⟨ih1, ih2⟩ := ih
    constructor
    · intro l k d rest h x hx
      simp only [readF] at h
      split at h
      · cases h
      · match l, h with
        | (n, ps, v) :: r, h =>
          simp only at h
          split at h
          · exact List.mem_cons_of_mem _ (ih2 _ _ _ _ _ _ _ h x hx)
          · cases h
    · intro nm ls cs l k d rest h x hx
      match l, h with
      | [], h => simp [bodyF] at h
      | (n, ps, v) :: r, h =>
        simp only [bodyF] at h
        split at h
        · cases hr : readF f ((n, ps, v) :: r) (k + 1) with
          | none => rw [hr] at h; cases h
          | some q =>
            obtain ⟨d', rest'⟩ := q
            rw [hr] at h
            exact ih1 _ _ _ _ hr x (ih2 _ _ _ _ _ _ _ h x hx)
        · split at h
          · split at h
            · cases h; exact List.mem_cons_of_mem _ hx
            · cases h
          · exact List.mem_cons_of_mem _ (ih2 _ _ _ _ _ _ _ h x hx)
theorem readT_sub {l : List LnD} {k : Nat} {d : TD} {rest : List LnD} (h : readT l k = some (d, rest)) : ∀ x ∈ rest, x ∈ l := (F_sub _).1 _ _ _ _ h
end Go.Ab
/-
  Trees: small functions, equal trees, how many there are.
-/
namespace Go.Ab
set_option maxRecDepth 20000
variable {st s : St} {e : Env}

theorem strip_vs {v : PV} {e : Nat} {xs : List PV} (h : v.vs e = some xs) : ∃ u, stripLeaf v = some u ∧ u.vs e = some xs ∧ tokOf u = none := by
  rcases vs_cases h with ⟨rfl, rfl⟩ | ⟨t, rfl⟩
  · exact ⟨.nils, rfl, h, rfl⟩
  · exact ⟨.sl e .no xs, rfl, by simp [PV.vs], rfl⟩
theorem strip_T {n : Bs} {ls : List LnD} {cs : List TD} {v : PV} (h : IsT (.mk n ls cs) v) : ∃ (lv cv : PV) (Ls : List Ln) (ys : List PV), strip v = some (.agg [.str n, lv, cv]) ∧ IsT (.mk n ls cs) (.agg [.str n, lv, cv]) ∧ lv.vs 3 = some (Ls.map lV) ∧ Ls.map ofLn = ls ∧ (∀ L ∈ Ls, L.good) ∧ cv.vs 3 = some ys ∧ ys.length = cs.length ∧ ∀ i, i < cs.length → IsT (cs.getD i T0) (ys.getD i .undef) := by
  obtain ⟨lv, cv, Ls, ys, rfl, h1, h2, h3, h5, h6, h7⟩ := h.inv
  obtain ⟨lu, a1, a2, -⟩ := strip_vs h1
  obtain ⟨cu, c1, c2, -⟩ := strip_vs h5
  exact ⟨lu, cu, Ls, ys, by
    show (stripAll [.str n, lv, cv]).map PV.agg = _
    simp only [stripAll, show stripLeaf (.str n) = some (.str n) from rfl, a1, c1]; rfl, .mk a2 h2 h3 c2 h6 h7, a2, h2, h3, c2, h6, h7⟩
theorem cells3 {a b c : PV} : (PV.agg [a, b, c]).cells = [a, b, c] := rfl
theorem lcc {a : PV} {r : List PV} : loadcPV false 1 (.cp (a :: r)) = some a := rfl
theorem lcc3 {a b c : PV} : loadcPV true 3 (.cp [a, b, c]) = some (.agg [a, b, c]) := rfl
theorem ldcp3 {a b c : PV} : loadPV st true 3 (.cp [a, b, c]) = some (.agg [a, b, c]) := rfl

theorem rt_name {s : Bs} : rtB ⟨s, .nils, [], []⟩ = nmB s := by
  cases h : nmB s with
  | true => exact rtB_true ⟨h, (by decide +kernel : txB [] = true), by simp, by simp, fun i hi => by simp at hi, fun i hi => by simp at hi⟩
  | false => exact rtB_false fun hp => by rw [hp.1] at h; cases h
theorem tIsName_spec {x : Bs} (hl : x.length ≤ 1000000) : call prog (.fn 345 []) [.str x] st = some (.bool (nmB x), st) := by
  refine call_of_W prog_345 ?_
  unfold F_tree_isName; dsimp only
  have hb : buildCells [.str [], .nils, .str []] [(0, 1, .str x)] = some [.str x, .nils, .str []] := rfl
  have hrt := fun S : St => sRightR_spec (st := S) (L := ⟨x, .nils, [], []⟩) ⟨rfl, fun _ => rfl, rfl, hl, by simp, by simp, fun p hp => by simp at hp⟩
  simp only [lV, rt_name] at hrt
  simp (maxSteps := 1000000) (disch := omega) only [hb, hrt, qaaz, qabz, qaiz, qajz, qalz, evOp, qaoz, qapz, qaqz, qarz, qatz, qavz,
 ↓reduceIte, List.append_nil, List.map_cons, List.map_nil, qawz, Option.map_some, qazz, qblz, reduceCtorEq]
  exact retB rfl Kept.start rfl

theorem tUpper_spec {s : List UInt8} (h : s.length ≤ 1000000) : call prog (.fn 346 []) [.str s] st = some (.str (upOf s), st) := by
  refine call_of_W prog_346 ?_
  unfold F_tree_upper; dsimp only
  simp (maxSteps := 1000000) (disch := omega) only [bst_eq, len_ms, qaaz, qabz, qadz, qajz, qalz, evOp, qaoz, qapz, qarz, qatz, qavz,
 ↓reduceIte, List.append_nil, qawz, Option.map_some, qazz, reduceCtorEq]
  obtain ⟨I, hI⟩ : ∃ I : Nat → Env → St → Prop, I = fun n e s' => ∃ (i : Nat) (l : List UInt8), n = s.length - i ∧ i ≤ s.length ∧ l = upOf (s.take i) ++ s.drop i ∧ s' = bst st l ∧ e 3 = .ms st.boxes.length 0 s.length ∧ e 8 = .ms st.boxes.length 0 s.length ∧ e 9 = .int .i64 (s.length : Int) ∧ e 10 = .int .i64 (i : Int) := ⟨_, rfl⟩
  refine W_loop I ?_ (n := s.length) (by
    rw [hI]
    exact ⟨0, s, rfl, by omega, by simp [upOf], rfl, rfl, rfl, rfl, rfl⟩)
  intro n e s' hh
  rw [hI] at hh
  obtain ⟨i, l, rfl, hi, hl, rfl, h3, h8, h9, h10⟩ := hh
  have hll : l.length = s.length := by rw [hl]; simp [upOf]; omega
  by_cases hlt : i < s.length
  · obtain ⟨c, hc⟩ : ∃ c, c = s.getD i 0 := ⟨_, rfl⟩
    have hlc : l.getD i 0 = c := by
      rw [hl, hc]
      simp only [List.getD]
      rw [List.getElem?_append_right (by simp [upOf]; omega)]
      simp [upOf, Nat.min_eq_left hi]
    have hnext : ∀ (E : Env) (l' : List UInt8), l' = l.set i (upC c) → E 3 = .ms st.boxes.length 0 s.length → E 8 = .ms st.boxes.length 0 s.length → E 9 = .int .i64 (s.length : Int) → E 10 = .int .i64 ((i + 1 : Nat) : Int) → I (s.length - (i + 1)) E (bst st l') := by
      intro E l' k0 k1 k2 k3 k4
      rw [hI]
      refine ⟨i + 1, l', rfl, by omega, ?_, rfl, k1, k2, k3, k4⟩
      rw [k0, hl, take_getD hlt, ← hc, drop_getD hlt]
      have hn : (upOf (s.take i)).length = i := by simp [upOf]; omega
      rw [List.set_append_right _ _ (by omega), hn]
      simp [upOf]
    by_cases h97 : 97 ≤ c
    · by_cases h122 : c ≤ 122
      · simp (maxSteps := 1000000) (disch := omega) only [h3, h8, h9, h10, hlt, iaddr_ms, load_bst (st := st) (l := l) (i := i) (by omega), hlc, h97, h122, sub_8u, store_bst (st := st) (l := l) (i := i) (by omega), add_n, qaaz, qabz, qacz, qadz, qaez, qajz, qakz, qalz, qamz, qanz, evOp, qaoz, qapz, qarz, qatz, qauz, qavz,
 ↓reduceIte, Nat.reduceEqDiff, Option.map_some, qazz, qbdz, qbhz, qbpz, qbyz, qcaz, beq_true, decide_true, Int.toNat_natCast, Int.ofNat_lt, Int.reduceToNat]
        exact loopQ_intro (m := s.length - (i + 1)) (by omega) (hnext _ (l.set i (c - 32)) (by simp [upC, h97, h122]) h3 h8 h9 rfl)
      · simp (maxSteps := 1000000) (disch := omega) only [h8, h9, h10, hlt, iaddr_ms, load_bst (st := st) (l := l) (i := i) (by omega), hlc, h97, h122, add_n, qaaz, qabz, qacz, qadz, qaez, qajz, qakz, qalz, qamz, qanz, evOp, qaoz, qapz, qarz, qatz, qavz,
 ↓reduceIte, Nat.reduceEqDiff, Option.map_some, qazz, qbdz, qbhz, qbpz, qbyz, qcaz, beq_true, decide_true, decide_false,
 Int.toNat_natCast, Int.ofNat_lt, Bool.false_eq_true, Int.reduceToNat]
        exact loopQ_intro (m := s.length - (i + 1)) (by omega) (hnext _ l (by simp only [upC, h122, and_false, if_false]; rw [← hlc, List.getD, List.getElem?_eq_getElem (by omega)]; simp) h3 h8 h9 rfl)
    · simp (maxSteps := 1000000) (disch := omega) only [h8, h9, h10, hlt, iaddr_ms, load_bst (st := st) (l := l) (i := i) (by omega), hlc, h97, add_n, qaaz, qabz, qacz, qadz, qaez, qajz, qakz, qalz, qamz, qanz, evOp, qaoz, qapz, qarz, qatz, qavz,
 ↓reduceIte, Nat.reduceEqDiff, Option.map_some, qazz, qbdz, qbhz, qbpz, qcaz, beq_true, decide_true, decide_false,
 Int.toNat_natCast, Int.ofNat_lt, Bool.false_eq_true, Int.reduceToNat]
      exact loopQ_intro (m := s.length - (i + 1)) (by omega) (hnext _ l (by simp only [upC, h97, false_and, if_false]; rw [← hlc, List.getD, List.getElem?_eq_getElem (by omega)]; simp) h3 h8 h9 rfl)
  · obtain rfl : i = s.length := by omega
    simp (maxSteps := 1000000) (disch := omega) only [h3, h9, h10, hlt, b2s_bst (st := st) (l := l) hll.symm, qaaz, qabz, qacz, qagz, qaiz, qajz, qalz, evOp, qaoz, qarz, qatz, qavz,
 ↓reduceIte, Nat.reduceEqDiff, Option.map_some, qazz, qbbz, qbfz, qbhz, qbjz, qblz, qbpz, decide_false,
 Int.ofNat_lt, Bool.false_eq_true]
    exact ⟨.str (upOf s), by rw [hl]; simp [resOf, rvAll, rv1, qavz, notTup, packRes], leave_bst rfl (fun _ _ => rfl)⟩

noncomputable def sameT (A B : TD) : Bool := @decide (A = B) (Classical.propDecidable _)
noncomputable def sameTs (A B : List TD) : Bool := @decide (A = B) (Classical.propDecidable _)
theorem sameT_t {A B : TD} (h : A = B) : sameT A B = true := by unfold sameT; simp [h]
theorem sameT_f {A B : TD} (h : A ≠ B) : sameT A B = false := by unfold sameT; simp [h]
theorem sameTs_t {A B : List TD} (h : A = B) : sameTs A B = true := by unfold sameTs; simp [h]
theorem sameTs_f {A B : List TD} (h : A ≠ B) : sameTs A B = false := by unfold sameTs; simp [h]
def IsTs (cs : List TD) (v : PV) : Prop := ∃ ys, v.vs 3 = some ys ∧ ys.length = cs.length ∧ ∀ i, i < cs.length → IsT (cs.getD i T0) (ys.getD i .undef)

set_option maxHeartbeats 2000000 in
theorem SameAll_of {As Cs : List TD} (hs : ∀ A ∈ As, ∀ (B : TD) (x y : PV) (st : St), IsT A x → IsT B y → call prog (.fn 326 []) [x, y] st = some (.bool (sameT A B), st)) {x y : PV} (hx : IsTs As x) (hy : IsTs Cs y) (hl : As.length ≤ 100000) :
    call prog (.fn 335 []) [x, y] st = some (.bool (sameTs As Cs), st) := by
  refine call_of_W prog_335 ?_
  unfold F_posthornref11_SameAll; dsimp only
  generalize hQ1 : endQ st _ _ = Q0
  obtain ⟨xs, x1, x2, x3⟩ := hx
  obtain ⟨ys, y1, y2, y3⟩ := hy
  have hxl := len_vs x1
  have hyl := len_vs y1
  rw [x2] at hxl
  rw [y2] at hyl
  have no : ∀ (E : Env) (S : St), Kept st S → As ≠ Cs → E 4 = .bool false → Q0 .ret E S := fun E S k h h4 => by
    rw [← hQ1, qblz]
    exact retB h4 k (sameTs_f h).symm
  have yes : ∀ (E : Env) (S : St), Kept st S → As = Cs → E 4 = .bool true → Q0 .ret E S := fun E S k h h4 => by
    rw [← hQ1, qblz]
    exact retB h4 k (sameTs_t h).symm
  by_cases hlen : As.length = Cs.length
  · have e1 : ((As.length : Int) = (Cs.length : Int)) := by omega
    simp (maxSteps := 1000000) (disch := omega) only [hxl, hyl, hlen, qaaz, qabz, qacz, qadz, qaez, qajz, qalz, evOp, qaoz, qapz, qarz, qatz, qavz,
 ↓reduceIte, Nat.reduceEqDiff, List.append_nil, qawz, qaxz, Option.map_some, qazz, qbhz, qbuz, decide_false,
 Bool.false_eq_true, reduceCtorEq, ne_eq, not_true_eq_false]
    obtain ⟨I, hI⟩ : ∃ I : Nat → Env → St → Prop, I = fun k E S => ∃ i : Nat, k = As.length - i ∧ i ≤ As.length ∧ Kept st S ∧ (∀ j, j < i → As.getD j T0 = Cs.getD j T0) ∧ E 0 = x ∧ E 1 = y ∧ E 5 = .int .i64 (i : Int) := ⟨_, rfl⟩
    refine W_loop I ?_ (n := As.length) (by
      rw [hI]; exact ⟨0, rfl, by omega, Kept.start, fun j hj => by omega, rfl, rfl, rfl⟩)
    intro k E S hh
    rw [hI] at hh
    obtain ⟨i, rfl, hi, hk, hall, h0, h1, h5⟩ := hh
    by_cases hlt : i < As.length
    · have hltC : i < Cs.length := by omega
      obtain ⟨la, ca, q1, q2, q3, -, -⟩ := iaddr_T x1 (by omega) (x3 i hlt)
      obtain ⟨lb, cb, r1, r2, r3, -, -⟩ := iaddr_T y1 (by omega) (y3 i hltC)
      have hcall := fun S : St => hs _ (getD_mem hlt) _ _ _ S q3 r3
      by_cases heq : As.getD i T0 = Cs.getD i T0
      · rw [sameT_t heq] at hcall
        simp (maxSteps := 1000000) (disch := omega) only [h0, h1, h5, hxl, hlt, q2, r2, ldcp3, hcall, add_n, loopQ_normal, qaaz, qabz, qacz, qadz, qaez, qajz, qalz, evOp, qaoz, qapz, qaqz, qarz, qatz, qavz,
 ↓reduceIte, Nat.reduceEqDiff, List.map_cons, List.map_nil, Option.map_some, qazz, qbdz, qbhz, qbpz, qcfz, decide_true, Int.ofNat_lt, Bool.false_eq_true, Int.reduceToNat, reduceCtorEq, Bool.not_true]
        refine ⟨As.length - (i + 1), by omega, ?_⟩
        rw [hI]
        refine ⟨i + 1, rfl, by omega, hk, fun j hj => ?_, h0, h1, rfl⟩
        by_cases hji : j = i
        · subst hji; exact heq
        · exact hall j (by omega)
      · rw [sameT_f heq] at hcall
        simp (maxSteps := 1000000) (disch := omega) only [h0, h1, h5, hxl, hlt, q2, r2, ldcp3, hcall, qaaz, qabz, qacz, qadz, qaez, qaiz, qajz, qalz, evOp, qaoz, qapz, qaqz, qarz, qatz, qavz,
 ↓reduceIte, Nat.reduceEqDiff, List.map_cons, List.map_nil, Option.map_some, qazz, qbaz, qbez, qbhz, qbiz, qbpz, qcfz, decide_true, Int.ofNat_lt, reduceCtorEq, Bool.not_false]
        exact no _ _ hk (fun q => heq (by rw [q])) rfl
    · obtain rfl : i = As.length := by omega
      simp (maxSteps := 1000000) (disch := omega) only [h0, h5, hxl, hlt, qaaz, qabz, qacz, qagz, qaiz, qajz, qalz, evOp, qaoz, qapz, qarz, qatz, qavz,
 ↓reduceIte, Nat.reduceEqDiff, Option.map_some, qazz, qbbz, qbfz, qbhz, qbjz, qbpz, decide_false,
 Int.ofNat_lt, Bool.false_eq_true, reduceCtorEq]
      exact yes _ _ hk (list_ext0 hlen hall) rfl
  · have e1 : ¬ ((As.length : Int) = (Cs.length : Int)) := by omega
    simp (maxSteps := 1000000) (disch := omega) only [hxl, hyl, hlen, qaaz, qabz, qacz, qaiz, qajz, qalz, evOp, qaoz, qapz, qarz, qatz, qavz,
 ↓reduceIte, Nat.reduceEqDiff, List.append_nil, qawz, qaxz, Option.map_some, qazz, qbaz, qbhz, qbuz, decide_true, Int.natCast_inj, reduceCtorEq, ne_eq, not_false_eq_true]
    exact no _ _ Kept.start (fun h => hlen (by rw [h])) rfl

theorem TSame_spec : ∀ (A : TD), A.sm → ∀ (B : TD) (x y : PV) (st : St), IsT A x → IsT B y → call prog (.fn 326 []) [x, y] st = some (.bool (sameT A B), st) := by
  refine TD.ind ?_
  intro n ls cs ih hsm B x y st hx hy
  obtain ⟨m, ms, ds⟩ := B
  cases hsm with
  | mk s1 s2 s3 s4 s5 =>
  refine call_of_W prog_326 ?_
  unfold F_posthornref11_Same; dsimp only
  generalize hQ1 : endQ st _ _ = Q0
  obtain ⟨lv, cv, Ls, ys, a1, a2, a3, a4, a5, a6, a7, a8⟩ := strip_T hx
  obtain ⟨lw, cw, Ms, zs, b1, b2, b3, b4, b5, b6, b7, b8⟩ := strip_T hy
  have fin : ∀ (E : Env) (S : St) (b : Bool), Kept st S → b = sameT (.mk n ls cs) (.mk m ms ds) → E 4 = .bool b → Q0 .ret E S := fun E S b k h h4 => by
    rw [← hQ1, qblz]
    exact retB h4 k h
  have hLl : Ls.length = ls.length := by rw [← a4]; simp
  have h92 := fun S : St => SameL_spec (st := S) a3 b3 (fun L hL => ⟨(a5 L hL).1, by
    have := s3 (ofLn L) (by rw [← a4]; exact List.mem_map.2 ⟨L, hL, rfl⟩)
    have := this.2.2.1
    simp only [ofLn] at this; omega⟩) (fun L hL => (b5 L hL).1) (by omega)
  have h335 := fun S : St => SameAll_of (st := S) (As := cs) (Cs := ds) (fun A hA B x y st => ih A hA (s5 A hA) B x y st) ⟨ys, a6, a7, a8⟩ ⟨zs, b6, b7, b8⟩ s4
  have hsl : sameLB Ls Ms = decide (ls = ms) := by unfold sameLB; rw [a4, b4]
  rw [hsl] at h92
  by_cases h1 : n = m
  · by_cases h2 : ls = ms
    · by_cases h3 : cs = ds
      · rw [sameTs_t h3] at h335
        simp (maxSteps := 1000000) (disch := omega) only [a1, b1, cells3, fa3_0, fa3_1, fa3_2, lcc, eq_true h1, h92, eq_true h2, h335, qaaz, qabz, qaiz, qajz, qakz, qalz, qamz, qanz, evOp, qaoz, qapz, qaqz, qarz, qatz, qavz,
 ↓reduceIte, Nat.reduceEqDiff, List.append_nil, List.map_cons, List.map_nil, qawz, qaxz, Option.map_some, qazz, qcbz, beq_true, decide_true]
        exact fin _ _ true Kept.start (sameT_t (by rw [h1, h2, h3])).symm rfl
      · rw [sameTs_f h3] at h335
        simp (maxSteps := 1000000) (disch := omega) only [a1, b1, cells3, fa3_0, fa3_1, fa3_2, lcc, eq_true h1, h92, eq_true h2, h335, qaaz, qabz, qaiz, qajz, qakz, qalz, qamz, qanz, evOp, qaoz, qapz, qaqz, qarz, qatz, qavz,
 ↓reduceIte, Nat.reduceEqDiff, List.append_nil, List.map_cons, List.map_nil, qawz, qaxz, Option.map_some, qazz, qcbz, beq_true, decide_true]
        exact fin _ _ false Kept.start (sameT_f (fun q => h3 (by cases q; rfl))).symm rfl
    · simp (maxSteps := 1000000) (disch := omega) only [a1, b1, cells3, fa3_0, fa3_1, lcc, eq_true h1, h92, h2, qaaz, qabz, qaiz, qajz, qakz, qalz, qamz, qanz, evOp, qaoz, qapz, qaqz, qarz, qatz, qavz,
 ↓reduceIte, Nat.reduceEqDiff, List.append_nil, List.map_cons, List.map_nil, qawz, qaxz, Option.map_some, qazz, qcbz, beq_true, decide_true, decide_false,
 Bool.false_eq_true]
      exact fin _ _ false Kept.start (sameT_f (fun q => h2 (by cases q; rfl))).symm rfl
  · simp (maxSteps := 1000000) (disch := omega) only [a1, b1, cells3, fa3_0, lcc, h1, qaaz, qabz, qaiz, qajz, qakz, qalz, qamz, qanz, evOp, qaoz, qapz, qarz, qatz, qavz,
 ↓reduceIte, Nat.reduceEqDiff, List.append_nil, qawz, qaxz, Option.map_some, qazz, qcbz, beq_true, decide_false,
 Bool.false_eq_true]
    exact fin _ _ false Kept.start (sameT_f (fun q => h1 (by cases q; rfl))).symm rfl

theorem part_le {cs : List TD} {i : Nat} (h : i < cs.length) : cntL (cs.take i) + (cs.getD i T0).cnt ≤ cntL cs ∧ lnsL (cs.take i) + (cs.getD i T0).lns ≤ lnsL cs ∧ max (deepL (cs.take i)) (cs.getD i T0).deep ≤ deepL cs := by
  have e : cs = cs.take i ++ (cs.getD i T0 :: cs.drop (i + 1)) := by
    rw [show cs.getD i T0 :: cs.drop (i + 1) = cs.drop i by rw [List.drop_eq_getElem_cons h]; simp [List.getD, h], List.take_append_drop]
  have h1 := congrArg cntL e
  have h2 := congrArg lnsL e
  have h3 := congrArg deepL e
  rw [cntL_app] at h1
  rw [lnsL_app] at h2
  rw [deepL_app] at h3
  simp only [cntL, lnsL, deepL] at h1 h2 h3
  exact ⟨by omega, by omega, by omega⟩
theorem take_succ_T {cs : List TD} {i : Nat} (h : i < cs.length) : cntL (cs.take (i + 1)) = cntL (cs.take i) + (cs.getD i T0).cnt ∧ lnsL (cs.take (i + 1)) = lnsL (cs.take i) + (cs.getD i T0).lns ∧ deepL (cs.take (i + 1)) = max (deepL (cs.take i)) (cs.getD i T0).deep := by
  rw [take_snoc (d := T0) h, cntL_app, lnsL_app, deepL_app]
  simp [cntL, lnsL, deepL]
theorem ret3I {a b c : Nat} {p q r : Int} {p' q' r' : Int} (ha : e a = .int .i64 p) (hb : e b = .int .i64 q) (hc : e c = .int .i64 r) (hk : Kept st s) (h1 : p = p') (h2 : q = q') (h3 : r = r') :
    ∃ rv, resOf e s [.tmp a, .tmp b, .tmp c] = some rv ∧ leave st s rv = (.tup [.int .i64 p', .int .i64 q', .int .i64 r'], st) := by
  subst h1 h2 h3
  exact ret3 ha hb hc rfl rfl rfl hk ⟨fun _ => rfl, fun _ _ => rfl⟩

set_option maxHeartbeats 2000000 in
theorem Count_spec11 : ∀ (T : TD), T.sm → T.cnt + T.lns + T.deep ≤ 1000000000 → ∀ (x : PV) (st : St), IsT T x → call prog (.fn 337 []) [x] st = some (.tup [.int .i64 (T.cnt : Int), .int .i64 (T.lns : Int), .int .i64 (T.deep : Int)], st) := by
  refine TD.ind ?_
  intro n ls cs ih hsm hb x st hx
  cases hsm with
  | mk s1 s2 s3 s4 s5 =>
  refine call_of_W prog_337 ?_
  unfold F_posthornref11_Count; dsimp only
  generalize hQ1 : endQ st _ _ = Q0
  obtain ⟨lv, cv, Ls, ys, a1, a2, a3, a4, a5, a6, a7, a8⟩ := strip_T hx
  have hll := len_vs a3
  have hcl := len_vs a6
  rw [a7] at hcl
  have hLl : (Ls.map lV).length = ls.length := by rw [← a4]; simp
  rw [hLl] at hll
  simp only [TD.cnt, TD.lns, TD.deep] at hb
  simp (maxSteps := 1000000) (disch := omega) only [a1, cells3, fa3_1, lcc, hll, qaaz, qabz, qadz, qajz, qalz, evOp, qaoz, qapz, qarz, qatz, qavz,
 ↓reduceIte, Nat.reduceEqDiff, List.append_nil, qawz, Option.map_some, qazz]
  obtain ⟨I, hI⟩ : ∃ I : Nat → Env → St → Prop, I = fun k E S => ∃ i : Nat, k = cs.length - i ∧ i ≤ cs.length ∧ Kept st S ∧ E 1 = .cp [.str n, lv, cv] ∧ E 5 = .int .i64 ((1 + cntL (cs.take i) : Nat) : Int) ∧ E 6 = .int .i64 ((ls.length + lnsL (cs.take i) : Nat) : Int) ∧ E 7 = .int .i64 ((1 + deepL (cs.take i) : Nat) : Int) ∧ E 8 = .int .i64 (i : Int) := ⟨_, rfl⟩
  refine W_loop I ?_ (n := cs.length) (by
    rw [hI]; exact ⟨0, rfl, by omega, Kept.start, rfl, by simp [cntL, qavz], by simp [lnsL, qavz], by simp [deepL, qavz], rfl⟩)
  intro k E S hh
  rw [hI] at hh
  obtain ⟨i, rfl, hi, hk, h1, h5, h6, h7, h8⟩ := hh
  by_cases hlt : i < cs.length
  · obtain ⟨p1, p2, p3⟩ := part_le hlt
    obtain ⟨t1, t2, t3⟩ := take_succ_T hlt
    obtain ⟨la, ca, q1, q2, q3, -, -⟩ := iaddr_T a6 (by omega) (a8 i hlt)
    obtain ⟨c, hc⟩ : ∃ c, c = cs.getD i T0 := ⟨_, rfl⟩
    rw [← hc] at p1 p2 p3 t1 t2 t3 q2 q3
    have hcall := fun S : St => ih c (by rw [hc]; exact getD_mem hlt) (s5 c (by rw [hc]; exact getD_mem hlt)) (by omega) _ S q3
    by_cases hd : deepL (cs.take i) < c.deep
    · have e1 : ((1 + deepL (cs.take i) : Nat) : Int) < ((c.deep + 1 : Nat) : Int) := by omega
      simp (maxSteps := 1000000) (disch := omega) only [h1, h5, h6, h7, h8, fa3_2, lcc, hcl, hlt, q2, ldcp3, hcall, add_n, e1, loopQ_normal, qaaz, qabz, qacz, qadz, qaez, qajz, qalz, evOp, qaoz, qapz, qaqz, qarz, qatz, qavz,
 ↓reduceIte, Nat.reduceEqDiff, List.map_cons, List.map_nil, Option.map_some, qazz, qbdz, qbhz, qbpz, qbrz, decide_true, Int.toNat_natCast, Int.ofNat_lt, qcjz, List.getElem?_cons_zero, List.getElem?_cons_succ, Int.reduceToNat]
      refine ⟨cs.length - (i + 1), by omega, ?_⟩
      rw [hI]
      refine ⟨i + 1, rfl, by omega, hk, h1, ?_, ?_, ?_, rfl⟩
      · simp only [qavz, Nat.reduceEqDiff, ↓reduceIte]; rw [t1]; congr 2; omega
      · simp only [qavz, Nat.reduceEqDiff, ↓reduceIte]; rw [t2]; congr 2; omega
      · simp only [qavz, Nat.reduceEqDiff, ↓reduceIte]; rw [t3]; congr 2; omega
    · have e1 : ¬ ((1 + deepL (cs.take i) : Nat) : Int) < ((c.deep + 1 : Nat) : Int) := by omega
      simp (maxSteps := 1000000) (disch := omega) only [h1, h5, h6, h7, h8, fa3_2, lcc, hcl, hlt, q2, ldcp3, hcall, add_n, e1, loopQ_normal, qaaz, qabz, qacz, qadz, qaez, qajz, qalz, evOp, qaoz, qapz, qaqz, qarz, qatz, qavz,
 ↓reduceIte, Nat.reduceEqDiff, List.map_cons, List.map_nil, Option.map_some, qazz, qbdz, qbhz, qbpz, qbrz, decide_true, decide_false,
 Int.toNat_natCast, Int.ofNat_lt, Bool.false_eq_true, qcjz, List.getElem?_cons_zero, List.getElem?_cons_succ, Int.reduceToNat]
      refine ⟨cs.length - (i + 1), by omega, ?_⟩
      rw [hI]
      refine ⟨i + 1, rfl, by omega, hk, h1, ?_, ?_, ?_, rfl⟩
      · simp only [qavz, Nat.reduceEqDiff, ↓reduceIte]; rw [t1]; congr 2; omega
      · simp only [qavz, Nat.reduceEqDiff, ↓reduceIte]; rw [t2]; congr 2; omega
      · simp only [qavz, Nat.reduceEqDiff, ↓reduceIte]; rw [h7, t3]; congr 2; omega
  · obtain rfl : i = cs.length := by omega
    rw [List.take_length] at h5 h6 h7
    simp (maxSteps := 1000000) (disch := omega) only [h1, h5, h6, h7, h8, fa3_2, lcc, hcl, hlt, qaaz, qabz, qacz, qagz, qaiz, qajz, qalz, evOp, qaoz, qarz, qatz, qavz,
 ↓reduceIte, Nat.reduceEqDiff, Option.map_some, qazz, qbbz, qbfz, qbhz, qbjz, qbpz, decide_false,
 Int.ofNat_lt, Bool.false_eq_true]
    rw [← hQ1, qblz]
    exact ret3I rfl rfl rfl hk (by simp [TD.cnt]) (by simp [TD.lns]) (by simp [TD.deep])
end Go.Ab
/-
  Trees that may be.
-/
namespace Go.Ab
set_option maxRecDepth 20000
variable {st s : St} {e : Env}

theorem lineB_of {L : Ln} (h : L.good) : lineB (ofLn L) = (rtB L && !decide (L.n = begS) && !decide (L.n = endS)) := by
  unfold lineB
  rw [show rtB (toLn (ofLn L)) = rtB L from rtB_pv]; rfl
theorem lineB_ok {L : Ln} (hr : rtB L = true) (h1 : L.n ≠ begS) (h2 : L.n ≠ endS) (h : L.good) : lineB (ofLn L) = true := by rw [lineB_of h, hr]; simp [h1, h2]
theorem all_take {α : Type} {p : α → Bool} {d : α} {l : List α} (h : ∀ i, i < l.length → p (l.getD i d) = true) : l.all p = true := by
  rw [List.all_eq_true]
  intro x hx
  obtain ⟨i, hi, rfl⟩ := List.mem_iff_getElem.1 hx
  have := h i hi
  simpa [List.getD, hi] using this
theorem all_not {α : Type} {p : α → Bool} {d : α} {l : List α} {i : Nat} (hi : i < l.length) (h : p (l.getD i d) = false) : l.all p = false := by
  rw [Bool.eq_false_iff]
  intro q
  rw [List.all_eq_true] at q
  have := q _ (getD_mem (d := d) hi)
  rw [h] at this; cases this
theorem getD_map {Ls : List Ln} {i : Nat} (h : i < Ls.length) : (Ls.map ofLn).getD i ([], [], []) = ofLn (Ls.getD i L0) := by simp [List.getD, h]

set_option maxHeartbeats 4000000 in
theorem fits_spec : ∀ (T : TD), T.sm → ∀ (x : PV) (st : St), IsT T x → call prog (.fn 342 []) [x] st = some (.bool T.fit, st) := by
  refine TD.ind ?_
  intro n ls cs ih hsm x st hx
  cases hsm with
  | mk s1 s2 s3 s4 s5 =>
  refine call_of_W prog_342 ?_
  unfold F_posthornref11_fits; dsimp only
  generalize hQ1 : endQ st _ _ = Q0
  obtain ⟨lv, cv, Ls, ys, a1, a2, a3, a4, a5, a6, a7, a8⟩ := strip_T hx
  have hll := len_vs a3
  have hcl := len_vs a6
  rw [a7] at hcl
  have hLl : Ls.length = ls.length := by rw [← a4]; simp
  rw [List.length_map, hLl] at hll
  have no : ∀ (E : Env) (S : St), Kept st S → TD.fit (.mk n ls cs) = false → E 2 = .bool false → Q0 .ret E S := fun E S k h h4 => by
    rw [← hQ1, qblz]; exact retB h4 k h.symm
  have yes : ∀ (E : Env) (S : St), Kept st S → TD.fit (.mk n ls cs) = true → E 2 = .bool true → Q0 .ret E S := fun E S k h h4 => by
    rw [← hQ1, qblz]; exact retB h4 k h.symm
  have hnm := fun S : St => rNm_spec (st := S) (l := n) (by omega)
  have hfit : TD.fit (.mk n ls cs) = (nmB n && ls.all lineB && cs.all TD.fit) := by rw [TD.fit, fitL_all]
  cases hn : nmB n with
  | false =>
    rw [hn] at hnm
    simp (maxSteps := 1000000) (disch := omega) only [a1, cells3, fa3_0, lcc, hnm, qaaz, qabz, qacz, qaiz, qajz, qalz, evOp, qaoz, qapz, qaqz, qarz, qatz, qavz,
 ↓reduceIte, Nat.reduceEqDiff, List.append_nil, List.map_cons, List.map_nil, qawz, Option.map_some, qazz, qbaz, qbhz, qcfz, Bool.not_false]
    exact no _ _ Kept.start (by rw [hfit, hn]; rfl) rfl
  | true =>
  rw [hn] at hnm
  simp (maxSteps := 1000000) (disch := omega) only [a1, cells3, fa3_0, lcc, hnm, qaaz, qabz, qacz, qadz, qaez, qajz, qalz, evOp, qaoz, qapz, qaqz, qarz, qatz, qavz,
 ↓reduceIte, Nat.reduceEqDiff, List.append_nil, List.map_cons, List.map_nil, qawz, Option.map_some, qazz, qbhz, qcfz, Bool.false_eq_true, Bool.not_true]
  obtain ⟨I, hI⟩ : ∃ I : Nat → Env → St → Prop, I = fun k E S => ∃ i : Nat, k = ls.length - i ∧ i ≤ ls.length ∧ Kept st S ∧ (∀ j, j < i → lineB (ls.getD j ([], [], [])) = true) ∧ E 1 = .cp [.str n, lv, cv] ∧ E 3 = .int .i64 (i : Int) := ⟨_, rfl⟩
  refine W_loop I ?_ (n := ls.length) (by
    rw [hI]; exact ⟨0, rfl, by omega, Kept.start, fun j hj => by omega, rfl, rfl⟩)
  intro k E S hh
  rw [hI] at hh
  obtain ⟨i, rfl, hi, hk, hall, h1, h3⟩ := hh
  by_cases hlt : i < ls.length
  · obtain ⟨L, hL⟩ : ∃ L, L = Ls.getD i L0 := ⟨_, rfl⟩
    have hltL : i < Ls.length := by omega
    have hLm : L ∈ Ls := by rw [hL]; exact getD_mem hltL
    have hg := a5 L hLm
    have hia := iaddr_L (k := .i64) (c := (i : Int)) a3 (by omega) (by rw [Int.toNat_natCast]; exact hltL)
    rw [Int.toNat_natCast, ← hL] at hia
    have hgd : ls.getD i ([], [], []) = ofLn L := by rw [← a4, getD_map hltL, ← hL]
    have hok : L.ok := hg.ok (by rw [← hgd]; exact s3 _ (getD_mem hlt))
    have hrt := fun S : St => rRight_spec (st := S) hok
    simp only [lV] at hrt
    have bad : lineB (ofLn L) = false → TD.fit (.mk n ls cs) = false := fun h => by
      rw [hfit, all_not (d := ([], [], [])) hlt (by rw [hgd]; exact h)]; simp
    cases hr : rtB L with
    | false =>
      rw [hr] at hrt
      simp (maxSteps := 1000000) (disch := omega) only [h1, h3, fa3_1, lcc, hll, hlt, hia, ldcp3, hrt, qaaz, qabz, qacz, qadz, qaez, qaiz, qajz, qakz, qalz, qamz, qanz, evOp, qaoz, qapz, qaqz, qarz, qatz, qavz,
 ↓reduceIte, Nat.reduceEqDiff, List.map_cons, List.map_nil, Option.map_some, qazz, qbaz, qbez, qbhz, qbiz, qbpz, qcfz, beq_false, decide_true, Int.ofNat_lt, Bool.false_eq_true, Bool.not_true, Bool.not_false]
      exact no _ _ hk (bad (by rw [lineB_of hg, hr]; rfl)) rfl
    | true =>
    rw [hr] at hrt
    by_cases hb : L.n = begS
    · have hb' : L.n = [66, 69, 71, 73, 78] := hb
      simp (maxSteps := 1000000) (disch := omega) only [h1, h3, fa3_0, fa3_1, lcc, ldcp, hll, hlt, hia, ldcp3, hrt, eq_true hb', qaaz, qabz, qacz, qadz, qaez, qaiz, qajz, qakz, qalz, qamz, qanz, evOp, qaoz, qapz, qaqz, qarz, qatz, qavz,
 ↓reduceIte, Nat.reduceEqDiff, List.map_cons, List.map_nil, Option.map_some, qazz, qbaz, qbez, qbhz, qbiz, qbpz, qcbz, qcfz, beq_false, decide_true, Int.ofNat_lt, Bool.false_eq_true, Bool.not_true, Bool.not_false]
      exact no _ _ hk (bad (by rw [lineB_of hg, hr]; simp [hb])) rfl
    · by_cases he : L.n = endS
      · have hb' : ¬ L.n = [66, 69, 71, 73, 78] := hb
        have he' : L.n = [69, 78, 68] := he
        simp (maxSteps := 1000000) (disch := omega) only [h1, h3, fa3_0, fa3_1, lcc, ldcp, hll, hlt, hia, ldcp3, hrt, hb', eq_true he', qaaz, qabz, qacz, qadz, qaez, qaiz, qajz, qakz, qalz, qamz, qanz, evOp, qaoz, qapz, qaqz, qarz, qatz, qavz,
 ↓reduceIte, Nat.reduceEqDiff, List.map_cons, List.map_nil, Option.map_some, qazz, qbaz, qbez, qbhz, qbiz, qbpz, qcbz, qcfz, beq_false, decide_true, decide_false,
 Int.ofNat_lt, Bool.false_eq_true, Bool.not_true, Bool.not_false]
        exact no _ _ hk (bad (by rw [lineB_of hg, hr]; simp [he])) rfl
      · have hb' : ¬ L.n = [66, 69, 71, 73, 78] := hb
        have he' : ¬ L.n = [69, 78, 68] := he
        simp (maxSteps := 1000000) (disch := omega) only [h1, h3, fa3_0, fa3_1, lcc, ldcp, hll, hlt, hia, ldcp3, hrt, hb', he', add_n, loopQ_normal, qaaz, qabz, qacz, qadz, qaez, qajz, qakz, qalz, qamz, qanz, evOp, qaoz, qapz, qaqz, qarz, qatz, qavz,
 ↓reduceIte, Nat.reduceEqDiff, List.map_cons, List.map_nil, Option.map_some, qazz, qbdz, qbhz, qbpz, qcbz, qcfz, beq_false, decide_true, decide_false,
 Int.ofNat_lt, Bool.false_eq_true, Int.reduceToNat, Bool.not_true, Bool.not_false]
        refine ⟨ls.length - (i + 1), by omega, ?_⟩
        rw [hI]
        refine ⟨i + 1, rfl, by omega, hk, fun j hj => ?_, h1, rfl⟩
        by_cases hji : j = i
        · subst hji; rw [hgd]; exact lineB_ok hr hb he hg
        · exact hall j (by omega)
  · obtain rfl : i = ls.length := by omega
    have hls := all_take (p := lineB) hall
    simp (maxSteps := 1000000) (disch := omega) only [h1, h3, fa3_1, lcc, hll, hlt, qaaz, qabz, qacz, qadz, qagz, qajz, qalz, evOp, qaoz, qapz, qarz, qatz, qavz,
 ↓reduceIte, Nat.reduceEqDiff, Option.map_some, qazz, qbbz, qbfz, qbhz, qbjz, qbpz, decide_false,
 Int.ofNat_lt, Bool.false_eq_true]
    clear hI I
    obtain ⟨I, hI⟩ : ∃ I : Nat → Env → St → Prop, I = fun k E S => ∃ i : Nat, k = cs.length - i ∧ i ≤ cs.length ∧ Kept st S ∧ (∀ j, j < i → TD.fit (cs.getD j T0) = true) ∧ E 1 = .cp [.str n, lv, cv] ∧ E 4 = .int .i64 (i : Int) := ⟨_, rfl⟩
    refine W_loop I ?_ (n := cs.length) (by
      rw [hI]; exact ⟨0, rfl, by omega, hk, fun j hj => by omega, h1, rfl⟩)
    clear hk h1 h3
    intro k E S hh
    rw [hI] at hh
    obtain ⟨i, rfl, hi, hk, hallc, h1, h4⟩ := hh
    by_cases hltc : i < cs.length
    · obtain ⟨la, ca, q1, q2, q3, -, -⟩ := iaddr_T a6 (by omega) (a8 i hltc)
      obtain ⟨c, hc⟩ : ∃ c, c = cs.getD i T0 := ⟨_, rfl⟩
      rw [← hc] at q2 q3
      have hcall := fun S : St => ih c (by rw [hc]; exact getD_mem hltc) (s5 c (by rw [hc]; exact getD_mem hltc)) _ S q3
      cases hf : c.fit with
      | false =>
        rw [hf] at hcall
        simp (maxSteps := 1000000) (disch := omega) only [h1, h4, fa3_2, lcc, hcl, hltc, q2, ldcp3, hcall, qaaz, qabz, qacz, qadz, qaez, qaiz, qajz, qalz, evOp, qaoz, qapz, qaqz, qarz, qatz, qavz,
 ↓reduceIte, Nat.reduceEqDiff, List.map_cons, List.map_nil, Option.map_some, qazz, qbaz, qbez, qbhz, qbiz, qbpz, qcfz, decide_true, Int.ofNat_lt, Bool.not_false]
        exact no _ _ hk (by rw [hfit, all_not (d := T0) hltc (by rw [← hc]; exact hf)]; simp) rfl
      | true =>
        rw [hf] at hcall
        simp (maxSteps := 1000000) (disch := omega) only [h1, h4, fa3_2, lcc, hcl, hltc, q2, ldcp3, hcall, add_n, loopQ_normal, qaaz, qabz, qacz, qadz, qaez, qajz, qalz, evOp, qaoz, qapz, qaqz, qarz, qatz, qavz,
 ↓reduceIte, Nat.reduceEqDiff, List.map_cons, List.map_nil, Option.map_some, qazz, qbdz, qbhz, qbpz, qcfz, decide_true, Int.ofNat_lt, Bool.false_eq_true, Int.reduceToNat, Bool.not_true]
        refine ⟨cs.length - (i + 1), by omega, ?_⟩
        rw [hI]
        refine ⟨i + 1, rfl, by omega, hk, fun j hj => ?_, h1, rfl⟩
        by_cases hji : j = i
        · subst hji; rw [← hc]; exact hf
        · exact hallc j (by omega)
    · obtain rfl : i = cs.length := by omega
      simp (maxSteps := 1000000) (disch := omega) only [h1, h4, fa3_2, lcc, hcl, hltc, qaaz, qabz, qacz, qagz, qaiz, qajz, qalz, evOp, qaoz, qapz, qarz, qatz, qavz,
 ↓reduceIte, Nat.reduceEqDiff, Option.map_some, qazz, qbbz, qbfz, qbhz, qbjz, qbpz, decide_false,
 Int.ofNat_lt, Bool.false_eq_true]
      exact yes _ _ hk (by rw [hfit, hn, hls, all_take hallc]; rfl) rfl

theorem rTRight_spec {T : TD} {x : PV} (hsm : T.sm) (hb : T.cnt + T.lns + T.deep ≤ 1000000000) (hx : IsT T x) : call prog (.fn 322 []) [x] st = some (.bool (rightD T), st) := by
  refine call_of_W prog_322 ?_
  unfold F_posthornref11_Right; dsimp only
  generalize hQ1 : endQ st _ _ = Q0
  obtain ⟨n, ls, cs⟩ := T
  obtain ⟨lv, cv, Ls, ys, a1, a2, a3, a4, a5, a6, a7, a8⟩ := strip_T hx
  have hcnt := fun S : St => Count_spec11 _ hsm hb _ S a2
  have hfit := fun S : St => fits_spec _ hsm _ S a2
  obtain ⟨T, hT⟩ : ∃ T, T = TD.mk n ls cs := ⟨_, rfl⟩
  rw [← hT] at hcnt hfit hb hQ1
  have fin : ∀ (E : Env) (S : St) (b : Bool), Kept st S → b = rightD T → E 2 = .bool b → Q0 .ret E S := fun E S b k h h4 => by
    rw [← hQ1, qblz]; exact retB h4 k h
  have hR : rightD T = (decide (T.cnt ≤ 64) && decide (T.lns ≤ 8192) && decide (T.deep ≤ 8) && T.fit) := rfl
  by_cases h1 : T.cnt ≤ 64
  · have e1 : (T.cnt : Int) ≤ 64 := by omega
    by_cases h2 : T.lns ≤ 8192
    · have e2 : (T.lns : Int) ≤ 8192 := by omega
      by_cases h3 : T.deep ≤ 8
      · have e3 : (T.deep : Int) ≤ 8 := by omega
        simp (maxSteps := 1000000) (disch := omega) only [a1, cells3, lcc3, hcnt, e1, e2, e3, hfit, qaaz, qabz, qaiz, qajz, qakz, qalz, qamz, qanz, evOp, qaoz, qapz, qaqz, qarz, qatz, qavz,
 ↓reduceIte, Nat.reduceEqDiff, List.append_nil, List.map_cons, List.map_nil, qawz, Option.map_some, qazz, qbqz, beq_true, decide_true, qcjz, List.getElem?_cons_zero, List.getElem?_cons_succ]
        exact fin _ _ _ Kept.start (by rw [hR]; simp [h1, h2, h3]) rfl
      · have e3 : ¬ (T.deep : Int) ≤ 8 := by omega
        simp (maxSteps := 1000000) (disch := omega) only [a1, cells3, lcc3, hcnt, e1, e2, e3, qaaz, qabz, qaiz, qajz, qakz, qalz, qamz, qanz, evOp, qaoz, qapz, qaqz, qarz, qatz, qavz,
 ↓reduceIte, Nat.reduceEqDiff, List.append_nil, List.map_cons, List.map_nil, qawz, Option.map_some, qazz, qbqz, beq_true, decide_true, decide_false,
 Bool.false_eq_true, qcjz, List.getElem?_cons_zero, List.getElem?_cons_succ]
        exact fin _ _ _ Kept.start (by rw [hR]; simp [h1, h2, h3]) rfl
    · have e2 : ¬ (T.lns : Int) ≤ 8192 := by omega
      simp (maxSteps := 1000000) (disch := omega) only [a1, cells3, lcc3, hcnt, e1, e2, qaaz, qabz, qaiz, qajz, qakz, qalz, qamz, qanz, evOp, qaoz, qapz, qaqz, qarz, qatz, qavz,
 ↓reduceIte, Nat.reduceEqDiff, List.append_nil, List.map_cons, List.map_nil, qawz, Option.map_some, qazz, qbqz, beq_true, decide_true, decide_false,
 Bool.false_eq_true, qcjz, List.getElem?_cons_zero, List.getElem?_cons_succ]
      exact fin _ _ _ Kept.start (by rw [hR]; simp [h1, h2]) rfl
  · have e1 : ¬ (T.cnt : Int) ≤ 64 := by omega
    simp (maxSteps := 1000000) (disch := omega) only [a1, cells3, lcc3, hcnt, e1, qaaz, qabz, qaiz, qajz, qakz, qalz, qamz, qanz, evOp, qaoz, qapz, qaqz, qarz, qatz, qavz,
 ↓reduceIte, Nat.reduceEqDiff, List.append_nil, List.map_cons, List.map_nil, qawz, Option.map_some, qazz, qbqz, beq_true, decide_false,
 Bool.false_eq_true, qcjz, List.getElem?_cons_zero, List.getElem?_cons_succ]
    exact fin _ _ _ Kept.start (by rw [hR]; simp [h1]) rfl

def stB (st : St) (b : Nat) (c l : Nat) : St := ⟨st.boxes.set b [.int .i64 (c : Int), .int .i64 (l : Int)], st.toks, st.loops, st.low⟩
theorem Kept.setB {S : St} {b c l c' l' : Nat} (h : Kept (stB st b c l) S) : Kept (stB st b c' l') ⟨S.boxes.set b [.int .i64 (c' : Int), .int .i64 (l' : Int)], S.toks, S.loops, S.low⟩ := by
  obtain ⟨h1, h2, h3, h4⟩ := h
  simp only [stB, List.length_set] at h1 h3 h4
  refine ⟨?_, h2, by simpa [stB] using h3, h4⟩
  simp only [stB, List.length_set, List.take_set, h1, List.set_set]
theorem Kept.atB {S : St} {b c l : Nat} (h : Kept (stB st b c l) S) (hb : b < st.boxes.length) : At S b [.int .i64 (c : Int), .int .i64 (l : Int)] := by
  have h1 := h.bx
  simp only [stB, List.length_set] at h1
  have h2 := congrArg (fun l => l[b]?) h1
  simp only [List.getElem?_take, hb, if_true, List.getElem?_set_self hb] at h2
  exact h2
theorem At.sti0 {S : St} {b : Nat} {x y : PV} {c : Int} (h : At S b [x, y]) : storePV S 1 (.ptr b 0) (.int .i64 c) = some ⟨S.boxes.set b [.int .i64 c, y], S.toks, S.loops, S.low⟩ := by
  unfold At at h
  simp [storePV, h, PV.cells, PV.inB, setCells, leafOk, hasTok, tokOf]
theorem At.sti1 {S : St} {b : Nat} {x y : PV} {c : Int} (h : At S b [x, y]) : storePV S 1 (.ptr b 1) (.int .i64 c) = some ⟨S.boxes.set b [x, .int .i64 c], S.toks, S.loops, S.low⟩ := by
  unfold At at h
  simp [storePV, h, PV.cells, PV.inB, setCells, leafOk, hasTok, tokOf]
theorem At.stB_eq {b c l : Nat} (h : At st b [.int .i64 (c : Int), .int .i64 (l : Int)]) : stB st b c l = st := by
  unfold At at h
  obtain ⟨hlt, hg⟩ := List.getElem?_eq_some_iff.1 h
  have : st.boxes.set b [.int .i64 (c : Int), .int .i64 (l : Int)] = st.boxes := by rw [← hg]; simp
  unfold stB; rw [this]
noncomputable def okM (T : TD) (k c l : Nat) : Bool := T.fit && decide (k + T.deep ≤ 9) && decide (c + T.cnt ≤ 64) && decide (l + T.lns ≤ 8192)
theorem okM_false {T : TD} {k c l : Nat} (h : T.fit = false ∨ 9 < k + T.deep ∨ 64 < c + T.cnt ∨ 8192 < l + T.lns) : okM T k c l = false := by
  rw [Bool.eq_false_iff]
  intro q
  simp only [okM, Bool.and_eq_true, decide_eq_true_eq] at q
  obtain ⟨⟨⟨q1, q2⟩, q3⟩, q4⟩ := q
  rcases h with h | h | h | h
  · rw [h] at q1; cases q1
  · omega
  · omega
  · omega
theorem okM_cases {T : TD} {k c l : Nat} (h : okM T k c l = false) : T.fit = false ∨ 9 < k + T.deep ∨ 64 < c + T.cnt ∨ 8192 < l + T.lns := by
  by_cases h1 : T.fit = true
  · by_cases h2 : k + T.deep ≤ 9
    · by_cases h3 : c + T.cnt ≤ 64
      · by_cases h4 : l + T.lns ≤ 8192
        · simp [okM, h1, h2, h3, h4] at h
        · omega
      · omega
    · omega
  · left; simpa using h1

set_option maxHeartbeats 8000000 in
theorem meter_spec : ∀ (T : TD), T.sm → ∀ (x : PV) (st : St) (b c l k : Nat), IsT T x → At st b [.int .i64 (c : Int), .int .i64 (l : Int)] → c ≤ 1000000 → l ≤ 1000000 → k ≤ 1000 →
    ∃ c' l', call prog (.fn 341 []) [.ptr b 0, x, .int .i64 (k : Int)] st = some (.bool (okM T k c l), stB st b c' l') ∧ (okM T k c l = true → c' = c + T.cnt ∧ l' = l + T.lns) := by
  refine TD.ind ?_
  intro n ls cs ih hsm x st b c l k hx hAt hcb hlb hkb
  cases hsm with
  | mk s1 s2 s3 s4 s5 =>
  have hbl := hAt.lt
  have hcore : ∃ r, call prog (.fn 341 []) [.ptr b 0, x, .int .i64 (k : Int)] st = some r ∧ ∃ c' l', r = (.bool (okM (.mk n ls cs) k c l), stB st b c' l') ∧ (okM (.mk n ls cs) k c l = true → c' = c + (TD.mk n ls cs).cnt ∧ l' = l + (TD.mk n ls cs).lns) := by
    refine call_ex prog_341 ?_
    unfold F_P_tree_meter_right; dsimp only
    generalize hQ1 : endX st _ _ = Q0
    obtain ⟨lv, cv, Ls, ys, a1, a2, a3, a4, a5, a6, a7, a8⟩ := strip_T hx
    have hll := len_vs a3
    have hcl := len_vs a6
    rw [a7] at hcl
    have hLl : Ls.length = ls.length := by rw [← a4]; simp
    rw [List.length_map, hLl] at hll
    obtain ⟨T, hT⟩ : ∃ T, T = TD.mk n ls cs := ⟨_, rfl⟩
    have hTf : T.fit = (nmB n && ls.all lineB && cs.all TD.fit) := by rw [hT, TD.fit, fitL_all]
    have hTc : T.cnt = 1 + cntL cs := by rw [hT, TD.cnt]
    have hTl : T.lns = ls.length + lnsL cs := by rw [hT, TD.lns]
    have hTd : T.deep = 1 + deepL cs := by rw [hT, TD.deep]
    rw [← hT] at hQ1
    have fin : ∀ (E : Env) (S : St) (c' l' : Nat) (ok : Bool), Kept (stB st b c' l') S → ok = okM T k c l → (ok = true → c' = c + T.cnt ∧ l' = l + T.lns) → E 6 = .bool ok → Q0 .ret E S := by
      intro E S c' l' ok hk ho hc h6
      rw [← hQ1]
      refine ⟨.inr rfl, .bool ok, by simp [resOf, rvAll, rv1, h6, notTup, packRes], c', l', ?_, by rw [← ho]; exact hc⟩
      obtain ⟨k1, k2, k3, k4⟩ := hk
      simp only [stB, List.length_set] at k1 k2 k3 k4
      simp [leave, PV.inB, k3, keepRes, keepVal, keepLeaf, k1, k2, k4, stB, ho]
    have no : ∀ (E : Env) (S : St) (c' l' : Nat), Kept (stB st b c' l') S → (T.fit = false ∨ 9 < k + T.deep ∨ 64 < c + T.cnt ∨ 8192 < l + T.lns) → E 6 = .bool false → Q0 .ret E S := fun E S c' l' hk h h6 =>
      fin E S c' l' false hk (okM_false h).symm (fun q => by cases q) h6
    have hS0 : Kept (stB st b c l) { st with low := st.boxes.length } := by rw [hAt.stB_eq]; exact Kept.start
    refine W_cut (fun E S => Kept (stB st b c l) S ∧ E 0 = .ptr b 0 ∧ E 2 = .int .i64 (k : Int) ∧ E 4 = .cp [.str n, lv, cv]) ?_ ?_
    · simp (maxSteps := 1000000) (disch := omega) only [a1, cells3, qabz, qajz, qalz, evOp, qaoz, qapz, qarz, qatz, qavz,
 ↓reduceIte, Nat.reduceEqDiff, qawz, qaxz, Option.map_some, true_and, and_true, reduceCtorEq]
      exact hS0
    rintro e S ⟨hk, h0, h2, h4⟩
    refine W_cut (fun E S => Kept (stB st b (c + 1) l) S ∧ E 0 = .ptr b 0 ∧ E 2 = .int .i64 (k : Int) ∧ E 4 = .cp [.str n, lv, cv]) ?_ ?_
    · have hA := hk.atB hbl
      have hld := hA.load (k := 0) (v := .int .i64 (c : Int)) (r := [.int .i64 (l : Int)]) rfl
      have hst := hA.sti0 (c := ((c + 1 : Nat) : Int))
      simp (maxSteps := 1000000) (disch := omega) only [h0, h2, h4, faP, Nat.zero_add, hld, add_n, Int.reduceToNat, hst, qabz, qajz, qalz, evOp, qaoz, qapz, qarz, qatz, qauz, qavz,
 ↓reduceIte, Nat.reduceEqDiff, Option.map_some, qckz, Int.reduceToNat, true_and, and_true, reduceCtorEq]
      exact hk.setB
    clear hk h0 h2 h4 hS0
    rintro e S ⟨hk, h0, h2, h4⟩
    refine W_cut (fun E S => Kept (stB st b (c + 1) (l + ls.length)) S ∧ E 0 = .ptr b 0 ∧ E 2 = .int .i64 (k : Int) ∧ E 4 = .cp [.str n, lv, cv]) ?_ ?_
    · have hA := hk.atB hbl
      have hld := hA.load (k := 1) (v := .int .i64 (l : Int)) (r := []) rfl
      have hst := hA.sti1 (c := ((l + ls.length : Nat) : Int))
      simp (maxSteps := 1000000) (disch := omega) only [h0, h2, h4, faP, Nat.zero_add, hld, fa3_1, lcc, hll, add_n, hst, qabz, qajz, qalz, evOp, qaoz, qarz, qatz, qauz, qavz,
 ↓reduceIte, Nat.reduceEqDiff, Option.map_some, Int.toNat_natCast, qckz, true_and, and_true, reduceCtorEq]
      exact hk.setB
    clear hk h0 h2 h4
    rintro e S ⟨hk, h0, h2, h4⟩
    have hnm := fun S : St => tIsName_spec (st := S) (x := n) (by omega)
    have hA := hk.atB hbl
    have hld0 := hA.load (k := 0) (v := .int .i64 ((c + 1 : Nat) : Int)) (r := [.int .i64 ((l + ls.length : Nat) : Int)]) rfl
    have hld1 := hA.load (k := 1) (v := .int .i64 ((l + ls.length : Nat) : Int)) (r := []) rfl
    cases hn : nmB n with
    | false =>
      rw [hn] at hnm
      simp (maxSteps := 1000000) (disch := omega) only [h4, fa3_0, lcc, hnm, qaaz, qabz, qacz, qaiz, qajz, qakz, qalz, qamz, qanz, evOp, qaoz, qapz, qaqz, qarz, qatz, qavz,
 ↓reduceIte, Nat.reduceEqDiff, List.map_cons, List.map_nil, Option.map_some, qazz, qbaz, qbhz, qcfz, beq_false, Bool.false_eq_true, Bool.not_true, Bool.not_false]
      exact no _ _ _ _ hk (.inl (by rw [hTf, hn]; rfl)) rfl
    | true =>
    rw [hn] at hnm
    by_cases hk8 : 8 < k
    · have e1 : (8 : Int) < (k : Int) := by omega
      simp (maxSteps := 1000000) (disch := omega) only [h2, h4, fa3_0, lcc, hnm, e1, qaaz, qabz, qacz, qaiz, qajz, qakz, qalz, qamz, qanz, evOp, qaoz, qapz, qaqz, qarz, qatz, qavz,
 ↓reduceIte, Nat.reduceEqDiff, List.map_cons, List.map_nil, Option.map_some, qazz, qbaz, qbhz, qbrz, qcfz, beq_false, decide_true, Bool.false_eq_true, Bool.not_true, Bool.not_false]
      exact no _ _ _ _ hk (.inr (.inl (by omega))) rfl
    have e1 : ¬ (8 : Int) < (k : Int) := by omega
    by_cases hc64 : 64 < c + 1
    · have e2 : (64 : Int) < ((c + 1 : Nat) : Int) := by omega
      simp (maxSteps := 1000000) (disch := omega) only [h0, h2, h4, fa3_0, lcc, hnm, e1, faP, Nat.zero_add, hld0, e2, qaaz, qabz, qacz, qaiz, qajz, qakz, qalz, qamz, qanz, evOp, qaoz, qapz, qaqz, qarz, qatz, qavz,
 ↓reduceIte, Nat.reduceEqDiff, List.map_cons, List.map_nil, Option.map_some, qazz, qbaz, qbhz, qbrz, qcfz, beq_false, decide_true, decide_false,
 Bool.false_eq_true, qckz, reduceCtorEq, Bool.not_true, Bool.not_false]
      exact no _ _ _ _ hk (.inr (.inr (.inl (by omega)))) rfl
    have e2 : ¬ (64 : Int) < ((c + 1 : Nat) : Int) := by omega
    by_cases hl8 : 8192 < l + ls.length
    · have e3 : (8192 : Int) < ((l + ls.length : Nat) : Int) := by omega
      simp (maxSteps := 1000000) (disch := omega) only [h0, h2, h4, fa3_0, lcc, hnm, e1, faP, Nat.zero_add, hld0, hld1, e2, e3, qaaz, qabz, qacz, qaiz, qajz, qakz, qalz, qamz, qanz, evOp, qaoz, qapz, qaqz, qarz, qatz, qavz,
 ↓reduceIte, Nat.reduceEqDiff, List.map_cons, List.map_nil, Option.map_some, qazz, qbaz, qbhz, qbrz, qcfz, beq_false, decide_true, decide_false,
 Bool.false_eq_true, qckz, reduceCtorEq, Bool.not_true, Bool.not_false]
      exact no _ _ _ _ hk (.inr (.inr (.inr (by omega)))) rfl
    have e3 : ¬ (8192 : Int) < ((l + ls.length : Nat) : Int) := by omega
    simp (maxSteps := 1000000) (disch := omega) only [h0, h2, h4, fa3_0, fa3_1, lcc, hnm, e1, faP, Nat.zero_add, hld0, hld1, e2, e3, hll, qaaz, qabz, qacz, qadz, qaez, qajz, qakz, qalz, qamz, qanz, evOp, qaoz, qapz, qaqz, qarz, qatz, qavz,
 ↓reduceIte, Nat.reduceEqDiff, List.map_cons, List.map_nil, Option.map_some, qazz, qbhz, qbrz, qcfz, beq_false, decide_false,
 Bool.false_eq_true, qckz, reduceCtorEq, Bool.not_true, Bool.not_false]
    clear hld0 hld1 hA
    obtain ⟨I, hI⟩ : ∃ I : Nat → Env → St → Prop, I = fun z E S => ∃ i : Nat, z = ls.length - i ∧ i ≤ ls.length ∧ Kept (stB st b (c + 1) (l + ls.length)) S ∧ (∀ j, j < i → lineB (ls.getD j ([], [], [])) = true) ∧ E 0 = .ptr b 0 ∧ E 2 = .int .i64 (k : Int) ∧ E 4 = .cp [.str n, lv, cv] ∧ E 51 = lv ∧ E 52 = .int .i64 (ls.length : Int) ∧ E 53 = .int .i64 (i : Int) := ⟨_, rfl⟩
    refine W_loop I ?_ (n := ls.length) (by
      rw [hI]; exact ⟨0, rfl, by omega, hk, fun j hj => by omega, h0, h2, h4, rfl, rfl, rfl⟩)
    clear hk h0 h2 h4
    intro z E S hh
    rw [hI] at hh
    obtain ⟨i, rfl, hi, hk, hall, h0, h2, h4, h51, h52, h53⟩ := hh
    by_cases hlt : i < ls.length
    · obtain ⟨L, hL⟩ : ∃ L, L = Ls.getD i L0 := ⟨_, rfl⟩
      have hltL : i < Ls.length := by omega
      have hLm : L ∈ Ls := by rw [hL]; exact getD_mem hltL
      have hg := a5 L hLm
      have hia := iaddr_L (k := .i64) (c := (i : Int)) a3 (by omega) (by rw [Int.toNat_natCast]; exact hltL)
      rw [Int.toNat_natCast, ← hL] at hia
      have hgd : ls.getD i ([], [], []) = ofLn L := by rw [← a4, getD_map hltL, ← hL]
      have hok : L.ok := hg.ok (by rw [← hgd]; exact s3 _ (getD_mem hlt))
      have hrt := fun S : St => sRight_spec (st := S) hok
      simp only [lV] at hrt
      have bad : lineB (ofLn L) = false → T.fit = false := fun h => by
        rw [hTf, all_not (d := ([], [], [])) hlt (by rw [hgd]; exact h)]; simp
      obtain ⟨b8, hb8⟩ : ∃ b8, b8 = S.boxes.length := ⟨_, rfl⟩
      have hle8 : (stB st b (c + 1) (l + ls.length)).boxes.length ≤ b8 := by have := hk.bl; omega
      have hA8 := At.last (s := S) (z := [.str [], .nils, .str []]) (T := S.toks) (Lp := S.loops) (lo := S.low)
      rw [← hb8] at hA8
      obtain ⟨S1, q1, w1⟩ := hA8.st3 (v0 := .str L.n) (v1 := L.pv) (v2 := .str L.v) rfl hok.lf rfl rfl (hok.ib _) rfl
      have m1 := w1.kp _ hk.alloc' hle8
      have hln := w1.at_.load (k := 0) (v := .str L.n) (r := [L.pv, .str L.v]) rfl
      cases hr : rtB L with
      | false =>
        rw [hr] at hrt
        simp (maxSteps := 1000000) (disch := omega) only [h51, h52, h53, hlt, hia, ldcp3, allocPV, ← hb8, q1, w1.at_.ld3, hrt, qaaz, qabz, qacz, qadz, qaez, qaiz, qajz, qakz, qalz, qamz, qanz, evOp, qaoz, qapz, qaqz, qarz, qatz, qauz, qavz,
 ↓reduceIte, Nat.reduceEqDiff, List.map_cons, List.map_nil, Option.map_some, qazz, qbaz, qbez, qbhz, qbiz, qbpz, qcfz, beq_false, decide_true, Int.ofNat_lt, Bool.false_eq_true, Bool.not_true, Bool.not_false]
        exact no _ _ _ _ m1 (.inl (bad (by rw [lineB_of hg, hr]; rfl))) rfl
      | true =>
      rw [hr] at hrt
      by_cases hb : L.n = begS
      · have hb' : L.n = [66, 69, 71, 73, 78] := hb
        simp (maxSteps := 1000000) (disch := omega) only [h51, h52, h53, hlt, hia, ldcp3, allocPV, ← hb8, q1, w1.at_.ld3, hrt, faP, Nat.zero_add, hln, eq_true hb', qaaz, qabz, qacz, qadz, qaez, qaiz, qajz, qakz, qalz, qamz, qanz, evOp, qaoz, qapz, qaqz, qarz, qatz, qauz, qavz,
 ↓reduceIte, Nat.reduceEqDiff, List.map_cons, List.map_nil, Option.map_some, qazz, qbaz, qbez, qbhz, qbiz, qbpz, qcbz, qcfz, beq_false, decide_true, Int.ofNat_lt, Bool.false_eq_true, Bool.not_true, Bool.not_false]
        exact no _ _ _ _ m1 (.inl (bad (by rw [lineB_of hg, hr]; simp [hb]))) rfl
      · by_cases he : L.n = endS
        · have hb' : ¬ L.n = [66, 69, 71, 73, 78] := hb
          have he' : L.n = [69, 78, 68] := he
          simp (maxSteps := 1000000) (disch := omega) only [h51, h52, h53, hlt, hia, ldcp3, allocPV, ← hb8, q1, w1.at_.ld3, hrt, faP, Nat.zero_add, hln, hb', eq_true he', qaaz, qabz, qacz, qadz, qaez, qaiz, qajz, qakz, qalz, qamz, qanz, evOp, qaoz, qapz, qaqz, qarz, qatz, qauz, qavz,
 ↓reduceIte, Nat.reduceEqDiff, List.map_cons, List.map_nil, Option.map_some, qazz, qbaz, qbez, qbhz, qbiz, qbpz, qcbz, qcfz, beq_false, decide_true, decide_false,
 Int.ofNat_lt, Bool.false_eq_true, Bool.not_true, Bool.not_false]
          exact no _ _ _ _ m1 (.inl (bad (by rw [lineB_of hg, hr]; simp [he]))) rfl
        · have hb' : ¬ L.n = [66, 69, 71, 73, 78] := hb
          have he' : ¬ L.n = [69, 78, 68] := he
          simp (maxSteps := 1000000) (disch := omega) only [h51, h52, h53, hlt, hia, ldcp3, allocPV, ← hb8, q1, w1.at_.ld3, hrt, faP, Nat.zero_add, hln, hb', he', add_n, loopQ_normal, qaaz, qabz, qacz, qadz, qaez, qajz, qakz, qalz, qamz, qanz, evOp, qaoz, qapz, qaqz, qarz, qatz, qauz, qavz,
 ↓reduceIte, Nat.reduceEqDiff, List.map_cons, List.map_nil, Option.map_some, qazz, qbdz, qbhz, qbpz, qcbz, qcfz, beq_false, decide_true, decide_false,
 Int.ofNat_lt, Bool.false_eq_true, Int.reduceToNat, Bool.not_true, Bool.not_false]
          refine ⟨ls.length - (i + 1), by omega, ?_⟩
          rw [hI]
          refine ⟨i + 1, rfl, by omega, m1, fun j hj => ?_, h0, h2, h4, h51, h52, rfl⟩
          by_cases hji : j = i
          · subst hji; rw [hgd]; exact lineB_ok hr hb he hg
          · exact hall j (by omega)
    · obtain rfl : i = ls.length := by omega
      have hls := all_take (p := lineB) hall
      simp (maxSteps := 1000000) (disch := omega) only [h4, h52, h53, fa3_2, lcc, hcl, hlt, qaaz, qabz, qacz, qadz, qagz, qajz, qalz, evOp, qaoz, qapz, qarz, qatz, qavz,
 ↓reduceIte, Nat.reduceEqDiff, Option.map_some, qazz, qbbz, qbfz, qbhz, qbjz, qbpz, decide_false,
 Int.ofNat_lt, Bool.false_eq_true]
      clear hI I
      obtain ⟨I, hI⟩ : ∃ I : Nat → Env → St → Prop, I = fun z E S => ∃ i : Nat, z = cs.length - i ∧ i ≤ cs.length ∧ Kept (stB st b (c + 1 + cntL (cs.take i)) (l + ls.length + lnsL (cs.take i))) S ∧ (∀ j, j < i → TD.fit (cs.getD j T0) = true) ∧ k + deepL (cs.take i) ≤ 8 ∧ c + 1 + cntL (cs.take i) ≤ 64 ∧ l + ls.length + lnsL (cs.take i) ≤ 8192 ∧ E 0 = .ptr b 0 ∧ E 2 = .int .i64 (k : Int) ∧ E 72 = cv ∧ E 73 = .int .i64 (cs.length : Int) ∧ E 74 = .int .i64 (i : Int) := ⟨_, rfl⟩
      refine W_loop I ?_ (n := cs.length) (by
        rw [hI]; exact ⟨0, rfl, by omega, by simpa [cntL, lnsL] using hk, fun j hj => by omega, by simp [deepL]; omega, by simp [cntL]; omega, by simp [lnsL]; omega, h0, h2, rfl, rfl, rfl⟩)
      clear hk h0 h2 h4 h51 h52 h53
      intro z E S hh
      rw [hI] at hh
      obtain ⟨i, rfl, hi, hk, hallc, hd8, hc8, hl8', h0, h2, h72, h73, h74⟩ := hh
      by_cases hltc : i < cs.length
      · obtain ⟨la, ca, q1, q2, q3, q4, q5⟩ := iaddr_T a6 (by omega) (a8 i hltc)
        obtain ⟨p1, p2, p3⟩ := part_le hltc
        obtain ⟨t1, t2, t3⟩ := take_succ_T hltc
        obtain ⟨d, hd⟩ : ∃ d, d = cs.getD i T0 := ⟨_, rfl⟩
        rw [← hd] at q2 q3 p1 p2 p3 t1 t2 t3
        have hdm : d ∈ cs := by rw [hd]; exact getD_mem hltc
        obtain ⟨ci, hci⟩ : ∃ ci, ci = c + 1 + cntL (cs.take i) := ⟨_, rfl⟩
        obtain ⟨li, hli⟩ : ∃ li, li = l + ls.length + lnsL (cs.take i) := ⟨_, rfl⟩
        rw [← hci, ← hli] at hk
        obtain ⟨b10, hb10⟩ : ∃ b10, b10 = S.boxes.length := ⟨_, rfl⟩
        have hle10 : (stB st b ci li).boxes.length ≤ b10 := by have := hk.bl; omega
        have hA10 := At.last (s := S) (z := [.str [], .nils, .nils]) (T := S.toks) (Lp := S.loops) (lo := S.low)
        rw [← hb10] at hA10
        obtain ⟨S1, u1, w1⟩ := hA10.st3 (v0 := .str d.n) (v1 := la) (v2 := ca) rfl q4.1 q5.1 rfl (q4.2 _) (q5.2 _)
        have m1 := w1.kp _ hk.alloc' hle10
        have hAb := m1.atB hbl
        obtain ⟨c', l', r1, r2⟩ := ih d hdm (s5 d hdm) _ S1 b ci li (k + 1) q3 hAb (by omega) (by omega) (by omega)
        have m2 : Kept (stB st b c' l') (stB S1 b c' l') := m1.setB
        cases hok : okM d (k + 1) ci li with
        | false =>
          rw [hok] at r1
          simp (maxSteps := 1000000) (disch := omega) only [h0, h2, h72, h73, h74, hltc, q2, ldcp3, allocPV, ← hb10, u1, w1.at_.ld3, add_n, Int.reduceToNat, r1, qaaz, qabz, qacz, qadz, qaez, qaiz, qajz, qalz, evOp, qaoz, qapz, qaqz, qarz, qatz, qauz, qavz,
 ↓reduceIte, Nat.reduceEqDiff, List.map_cons, List.map_nil, Option.map_some, qazz, qbaz, qbez, qbhz, qbiz, qbpz, qcfz, decide_true, Int.ofNat_lt, Int.reduceToNat, reduceCtorEq, Bool.not_false]
          refine no _ _ _ _ m2 ?_ rfl
          rcases okM_cases hok with h | h | h | h
          · left; rw [hTf, all_not (d := T0) hltc (by rw [← hd]; exact h)]; simp
          · right; left; omega
          · right; right; left; omega
          · right; right; right; omega
        | true =>
          rw [hok] at r1
          obtain ⟨rfl, rfl⟩ := r2 hok
          simp only [okM, Bool.and_eq_true, decide_eq_true_eq] at hok
          obtain ⟨⟨⟨o1, o2⟩, o3⟩, o4⟩ := hok
          simp (maxSteps := 1000000) (disch := omega) only [h0, h2, h72, h73, h74, hltc, q2, ldcp3, allocPV, ← hb10, u1, w1.at_.ld3, add_n, Int.reduceToNat, r1, loopQ_normal, qaaz, qabz, qacz, qadz, qaez, qajz, qalz, evOp, qaoz, qapz, qaqz, qarz, qatz, qauz, qavz,
 ↓reduceIte, Nat.reduceEqDiff, List.map_cons, List.map_nil, Option.map_some, qazz, qbdz, qbhz, qbpz, qcfz, decide_true, Int.ofNat_lt, Bool.false_eq_true, Int.reduceToNat, reduceCtorEq, Bool.not_true]
          refine ⟨cs.length - (i + 1), by omega, ?_⟩
          rw [hI]
          refine ⟨i + 1, rfl, by omega, ?_, fun j hj => ?_, by omega, by omega, by omega, h0, h2, h72, h73, rfl⟩
          · rw [t1, t2, show c + 1 + (cntL (cs.take i) + d.cnt) = ci + d.cnt by omega, show l + ls.length + (lnsL (cs.take i) + d.lns) = li + d.lns by omega]
            exact m2
          · by_cases hji : j = i
            · subst hji; rw [← hd]; exact o1
            · exact hallc j (by omega)
      · obtain rfl : i = cs.length := by omega
        rw [List.take_length] at hk hd8 hc8 hl8'
        simp (maxSteps := 1000000) (disch := omega) only [h73, h74, hltc, qaaz, qabz, qacz, qagz, qaiz, qajz, qalz, evOp, qaoz, qapz, qarz, qatz, qavz,
 ↓reduceIte, Option.map_some, qazz, qbbz, qbfz, qbhz, qbjz, qbpz, decide_false,
 Int.ofNat_lt, Bool.false_eq_true]
        refine fin _ _ _ _ true hk ?_ (fun _ => ⟨by omega, by omega⟩) rfl
        have : T.fit = true := by rw [hTf, hn, hls, all_take hallc]; rfl
        simp [okM, this]
        omega
  obtain ⟨r, h1, c', l', h2, h3⟩ := hcore
  exact ⟨c', l', by rw [h1, h2], h3⟩

theorem tRight_spec {T : TD} {x : PV} (hsm : T.sm) (hx : IsT T x) : call prog (.fn 321 []) [x] st = some (.bool (rightD T), st) := by
  refine call_of_W prog_321 ?_
  unfold F_tree_Right; dsimp only
  generalize hQ1 : endQ st _ _ = Q0
  obtain ⟨n, ls, cs⟩ := T
  obtain ⟨lv, cv, Ls, ys, a1, a2, a3, a4, a5, a6, a7, a8⟩ := strip_T hx
  obtain ⟨b, hb⟩ : ∃ b, b = st.boxes.length := ⟨_, rfl⟩
  obtain ⟨S, hS⟩ : ∃ S : St, S = ⟨st.boxes ++ [[.int .i64 0, .int .i64 0]], st.toks, st.loops, st.boxes.length⟩ := ⟨_, rfl⟩
  have hA : At S b [.int .i64 ((0 : Nat) : Int), .int .i64 ((0 : Nat) : Int)] := by rw [hS, hb]; exact At.last (s := ⟨st.boxes, st.toks, st.loops, st.boxes.length⟩)
  obtain ⟨c', l', r1, -⟩ := meter_spec _ hsm _ S b 0 0 1 a2 hA (by omega) (by omega) (by omega)
  have hR : okM (.mk n ls cs) 1 0 0 = rightD (.mk n ls cs) := by
    unfold okM rightD
    rw [Bool.eq_iff_iff]
    simp only [Bool.and_eq_true, decide_eq_true_eq]
    constructor
    · rintro ⟨⟨⟨h1, h2⟩, h3⟩, h4⟩; exact ⟨⟨⟨by omega, by omega⟩, by omega⟩, h1⟩
    · rintro ⟨⟨⟨h1, h2⟩, h3⟩, h4⟩; exact ⟨⟨⟨h4, by omega⟩, by omega⟩, by omega⟩
  rw [hR] at r1
  have hbx : PV.inB.inBAll st.boxes.length [.int .i64 0, .int .i64 0] = true := rfl
  have r1' : call prog (.fn 341 []) [.ptr st.boxes.length 0, .agg [.str n, lv, cv], .int .i64 1] ⟨st.boxes ++ [[.int .i64 0, .int .i64 0]], st.toks, st.loops, st.boxes.length⟩ = some (.bool (rightD (.mk n ls cs)), stB S b c' l') := by
    rw [← hS, ← hb]; exact r1
  simp (maxSteps := 1000000) (disch := omega) only [a1, cells3, build0i, PV.inB, hbx, show (PV.agg [PV.int .i64 0, PV.int .i64 0]).cells = [PV.int .i64 0, PV.int .i64 0] from rfl, show List.all [PV.int .i64 0, PV.int .i64 0] leafOk = true from rfl, and_self, allocPV, lcc3, r1', qaaz, qabz, qaiz, qajz, qalz, evOp, qaoz, qapz, qaqz, qarz, qatz, qavz,
 ↓reduceIte, Nat.reduceEqDiff, List.append_nil, List.map_cons, List.map_nil, qawz, Option.map_some, qazz]
  rw [← hQ1, qblz]
  refine retB rfl ?_ rfl
  rw [hS]
  exact ⟨by simp [stB, hb], rfl, by simp [stB], by simp [stB]⟩
end Go.Ab
