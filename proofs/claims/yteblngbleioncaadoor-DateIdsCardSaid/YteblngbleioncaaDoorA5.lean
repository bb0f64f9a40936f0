/-
  strings.Cut.
-/
import Derived.Test.YteblngbleioncaaDoorA4
import Derived.Test.YteblngbleioncaaDoorA2
namespace Go.Ab
set_option linter.unusedVariables false
set_option linter.unusedSimpArgs false
variable {st : St} {e : Env}

theorem faP {n k b : Nat} : faddrPV n (.ptr b k) = some (.ptr b (k + n)) := rfl
theorem index_room' : ∀ (a b : List UInt8), 0 ≤ Lib.index a b → Lib.index a b + b.length ≤ a.length := by
  intro a b
  induction a with
  | nil =>
    intro h
    cases b with
    | nil => simp [Lib.index]
    | cons c r => simp [Lib.index] at h
  | cons c r ih =>
    intro h
    by_cases hp : b.isPrefixOf (c :: r) = true
    · have := (List.isPrefixOf_iff_prefix.1 hp).length_le
      rw [Lib.index, if_pos hp]; omega
    · have hp2 : b.isPrefixOf (c :: r) = false := Bool.eq_false_iff.2 hp
      rw [Lib.index, hp2] at h ⊢
      by_cases hq : (Lib.index r b == -1) = true
      · rw [hq] at h; simp at h
      · have hq2 : (Lib.index r b == -1) = false := by simpa using hq
        rw [hq2] at h ⊢
        simp only [Bool.false_eq_true, if_false] at h ⊢
        have hge := Lib.index_ge r b
        have hne : Lib.index r b ≠ -1 := by simpa using hq2
        have := ih (by omega)
        simp only [List.length_cons]; omega
/-- strings.Cut. -/
def cutAt (a b : List UInt8) : PV := if 0 ≤ Lib.index a b then .tup [.str (a.take (Lib.index a b).toNat), .str (a.drop ((Lib.index a b).toNat + b.length)), .bool true] else .tup [.str a, .str [], .bool false]
theorem sCut_spec {a b : List UInt8} (h : a.length < 4294967281) (hb : b.length < 4294967281) : call prog (.fn 135 []) [.str a, .str b] st = some (cutAt a b, st) := by
  refine call_of_W prog_135 ?_
  unfold F_internal_stringslite_Cut; dsimp only
  have hroom := index_room' a b
  by_cases h0 : 0 ≤ Lib.index a b
  · have hr := hroom h0
    obtain ⟨k, hk⟩ : ∃ k : Nat, Lib.index a b = (k : Int) := ⟨(Lib.index a b).toNat, by omega⟩
    rw [hk] at hr
    have hadd : ∀ ek, binPV .add ek (.int .i64 (k : Int)) (.int .i64 (b.length : Int)) = some (.int .i64 ((k + b.length : Nat) : Int)) := fun ek => by
      rw [add_i (by omega) (by omega)]; simp
    have e1 : (0 : Int) ≤ (k : Int) := by omega
    simp (maxSteps := 1000000) (disch := omega) only [strIndex_spec h, hk, e1, len_s, hadd, slc_s_lo, slc_s_hi, abR, WO_consG, wantedA_eq, wantB, evOp, ↓reduceIte, Nat.reduceEqDiff, List.nil_append, List.cons_append, List.append_nil, List.map_cons, List.map_nil, Option.map_some, Option.map_none, condW_bool, Bool.not_eq_true', decide_eq_true_eq, decide_eq_false_iff_not, decide_true, decide_false, Int.toNat_natCast, Int.ofNat_lt, Int.ofNat_le, Int.natCast_inj, Bool.false_eq_true, Bool.true_eq_false, extPV, List.getElem?_cons_zero, List.getElem?_cons_succ, nilckPV, Int.reduceToNat, Int.reduceLE, true_and, and_true, reduceCtorEq, or_false, false_or, or_true, Option.some.injEq, exists_eq_left', Bool.not_true, Bool.not_false, ne_eq, Int.reduceEq, not_true_eq_false, not_false_eq_true, Int.reduceLT, UInt8.reduceLT, UInt8.reduceLE, UInt8.reduceToNat]
    rw [show cutAt a b = .tup [.str (a.take k), .str (a.drop (k + b.length)), .bool true] by simp [cutAt, hk]]
    exact end3 rfl rfl rfl Kp_str Kp_str Kp_bool
  · simp (maxSteps := 1000000) (disch := omega) only [strIndex_spec h, h0, abR, WO_consG, wantedA_eq, wantB, evOp, ↓reduceIte, Nat.reduceEqDiff, List.nil_append, List.cons_append, List.append_nil, List.map_cons, List.map_nil, Option.map_some, Option.map_none, condW_bool, Bool.not_eq_true', decide_eq_true_eq, decide_eq_false_iff_not, decide_true, decide_false, Int.toNat_natCast, Int.ofNat_lt, Int.ofNat_le, Int.natCast_inj, Bool.false_eq_true, Bool.true_eq_false, extPV, List.getElem?_cons_zero, List.getElem?_cons_succ, nilckPV, Int.reduceToNat, Int.reduceLE, true_and, and_true, reduceCtorEq, or_false, false_or, or_true, Option.some.injEq, exists_eq_left', Bool.not_true, Bool.not_false, ne_eq, Int.reduceEq, not_true_eq_false, not_false_eq_true, Int.reduceLT, UInt8.reduceLT, UInt8.reduceLE, UInt8.reduceToNat]
    rw [show cutAt a b = .tup [.str a, .str [], .bool false] by simp [cutAt, h0]]
    exact end3 rfl rfl rfl Kp_str Kp_str Kp_bool
theorem Cut_spec {a b : List UInt8} (h : a.length < 4294967281) (hb : b.length < 4294967281) : call prog (.fn 128 []) [.str a, .str b] st = some (cutAt a b, st) := by
  refine call_of_W prog_128 ?_
  unfold F_strings_Cut; dsimp only
  by_cases h0 : 0 ≤ Lib.index a b
  · have hc : cutAt a b = .tup [.str (a.take (Lib.index a b).toNat), .str (a.drop ((Lib.index a b).toNat + b.length)), .bool true] := by simp [cutAt, h0]
    simp (maxSteps := 1000000) (disch := omega) only [sCut_spec h hb, hc, abR, WO_consG, wantedA_eq, wantB, evOp, ↓reduceIte, Nat.reduceEqDiff, List.nil_append, List.cons_append, List.append_nil, List.map_cons, List.map_nil, Option.map_some, Option.map_none, condW_bool, Bool.not_eq_true', decide_eq_true_eq, decide_eq_false_iff_not, decide_true, decide_false, Int.toNat_natCast, Int.ofNat_lt, Int.ofNat_le, Int.natCast_inj, Bool.false_eq_true, Bool.true_eq_false, extPV, List.getElem?_cons_zero, List.getElem?_cons_succ, nilckPV, Int.reduceToNat, Int.reduceLE, true_and, and_true, reduceCtorEq, or_false, false_or, or_true, Option.some.injEq, exists_eq_left', Bool.not_true, Bool.not_false, ne_eq, Int.reduceEq, not_true_eq_false, not_false_eq_true, Int.reduceLT, UInt8.reduceLT, UInt8.reduceLE, UInt8.reduceToNat]
    exact end3 rfl rfl rfl Kp_str Kp_str Kp_bool
  · have hc : cutAt a b = .tup [.str a, .str [], .bool false] := by simp [cutAt, h0]
    simp (maxSteps := 1000000) (disch := omega) only [sCut_spec h hb, hc, abR, WO_consG, wantedA_eq, wantB, evOp, ↓reduceIte, Nat.reduceEqDiff, List.nil_append, List.cons_append, List.append_nil, List.map_cons, List.map_nil, Option.map_some, Option.map_none, condW_bool, Bool.not_eq_true', decide_eq_true_eq, decide_eq_false_iff_not, decide_true, decide_false, Int.toNat_natCast, Int.ofNat_lt, Int.ofNat_le, Int.natCast_inj, Bool.false_eq_true, Bool.true_eq_false, extPV, List.getElem?_cons_zero, List.getElem?_cons_succ, nilckPV, Int.reduceToNat, Int.reduceLE, true_and, and_true, reduceCtorEq, or_false, false_or, or_true, Option.some.injEq, exists_eq_left', Bool.not_true, Bool.not_false, ne_eq, Int.reduceEq, not_true_eq_false, not_false_eq_true, Int.reduceLT, UInt8.reduceLT, UInt8.reduceLE, UInt8.reduceToNat]
    exact end3 rfl rfl rfl Kp_str Kp_str Kp_bool

end Go.Ab

/-
  Rules that part the ways of a run: each way under what it was taken for.
-/
namespace Go.Ab
set_option linter.unusedVariables false
set_option linter.unusedSimpArgs false
variable {A : AP} {st : St} {e : Env}

/-- An operation under a guard whose value is v. -/
def guardW (A : AP) (v : PV) (g : Nat) (b : Bool) (d : Option Nat) (op : AOp) (r : List AOper) (e : Env) (st : St) (Q : Env → St → Prop) : Prop := match v with
  | .bool t => if t = b then WN A (evOp (call A) op e st) d r e Q else WO A r (updO e d .undef) st Q
  | _ => WO A r (updO e d .undef) st Q
/-- .. its value told. -/
def guardT (A : AP) (t : Bool) (b : Bool) (d : Option Nat) (op : AOp) (r : List AOper) (e : Env) (st : St) (Q : Env → St → Prop) : Prop := match t, b with
  | true, true => WN A (evOp (call A) op e st) d r e Q
  | false, false => WN A (evOp (call A) op e st) d r e Q
  | _, _ => WO A r (updO e d .undef) st Q
theorem guardT_tt {d : Option Nat} {op : AOp} {r : List AOper} {Q : Env → St → Prop} : guardT A true true d op r e st Q = WN A (evOp (call A) op e st) d r e Q := rfl
theorem guardT_ff {d : Option Nat} {op : AOp} {r : List AOper} {Q : Env → St → Prop} : guardT A false false d op r e st Q = WN A (evOp (call A) op e st) d r e Q := rfl
theorem guardT_tf {d : Option Nat} {op : AOp} {r : List AOper} {Q : Env → St → Prop} : guardT A true false d op r e st Q = WO A r (updO e d .undef) st Q := rfl
theorem guardT_ft {d : Option Nat} {op : AOp} {r : List AOper} {Q : Env → St → Prop} : guardT A false true d op r e st Q = WO A r (updO e d .undef) st Q := rfl

theorem WO_consG2 {d : Option Nat} {op : AOp} {g : Nat} {b : Bool} {r : List AOper} {Q : Env → St → Prop} : WO A (⟨d, op, some (g, b)⟩ :: r) e st Q = guardW A (e g) g b d op r e st Q := by
  rw [WO_consG, wantedA_eq]
  unfold guardW wantB
  cases e g with
  | bool c => simp
  | _ => simp
theorem upd_self {g : Nat} {v : PV} (h : e g = v) : upd e g v = e := by
  funext t
  simp only [upd]
  split
  · rename_i h1; rw [h1, h]
  · rfl
/-- Both ways. -/
theorem guardW_bool {t : Bool} {g : Nat} {b : Bool} {d : Option Nat} {op : AOp} {r : List AOper} {Q : Env → St → Prop} (h : e g = .bool t) : guardW A (.bool t) g b d op r e st Q =
    ((t = true → guardT A true b d op r (upd e g (.bool true)) st Q) ∧ (t = false → guardT A false b d op r (upd e g (.bool false)) st Q)) := by
  cases t with
  | true =>
    rw [upd_self h]
    cases b <;> simp [guardW, guardT]
  | false =>
    rw [upd_self h]
    cases b <;> simp [guardW, guardT]
/-- The same, the guard's temporary looked up again (an equality that is met by reckoning). -/
def guardV (A : AP) (v : PV) (g : Nat) (b : Bool) (d : Option Nat) (op : AOp) (r : List AOper) (e : Env) (st : St) (Q : Env → St → Prop) : Prop := match v with
  | .bool t => (t = true → guardT A true b d op r (upd e g (.bool true)) st Q) ∧ (t = false → guardT A false b d op r (upd e g (.bool false)) st Q)
  | _ => WO A r (updO e d .undef) st Q
theorem WO_consG3 {d : Option Nat} {op : AOp} {g : Nat} {b : Bool} {r : List AOper} {Q : Env → St → Prop} : WO A (⟨d, op, some (g, b)⟩ :: r) e st Q = guardV A (e g) g b d op r e st Q := by
  rw [WO_consG2]
  cases h : e g with
  | bool t => rw [guardW_bool h]; rfl
  | _ => rfl
theorem guardV_bool {t : Bool} {g : Nat} {b : Bool} {d : Option Nat} {op : AOp} {r : List AOper} {Q : Env → St → Prop} : guardV A (.bool t) g b d op r e st Q =
    ((t = true → guardT A true b d op r (upd e g (.bool true)) st Q) ∧ (t = false → guardT A false b d op r (upd e g (.bool false)) st Q)) := rfl
theorem guardV_true {g : Nat} {b : Bool} {d : Option Nat} {op : AOp} {r : List AOper} {Q : Env → St → Prop} (h : e g = .bool true) : guardV A (.bool true) g b d op r e st Q = guardT A true b d op r e st Q := by
  rw [guardV_bool, upd_self h]; simp
theorem condW_imp {t : Bool} {a b : ACode} {Q : Ex → Env → St → Prop} : condW A (.bool t) a b e st Q = ((t = true → W A a e st Q) ∧ (t = false → W A b e st Q)) := by
  cases t <;> simp [condW]
theorem imp_F {p : Prop} : (False → p) = True := by simp
theorem imp_T {p : Prop} : (True → p) = p := by simp
theorem imp_tt {p : Prop} : ((true = true) → p) = p := by simp
theorem imp_ff {p : Prop} : ((false = false) → p) = p := by simp
theorem imp_tf {p : Prop} : ((true = false) → p) = True := by simp
theorem imp_ft {p : Prop} : ((false = true) → p) = True := by simp
end Go.Ab

/-
  Signs, atoms, labels, names; parts of a text.
-/
namespace Go.Ab
set_option linter.unusedVariables false
set_option linter.unusedSimpArgs false
variable {st s : St} {e : Env}

theorem ret1 {a : Nat} {v : PV} (ha : e a = v) (hnt : notTup v = true) (hk : Kept st s) (hf : Flat v) : ∃ rv, resOf e s [.tmp a] = some rv ∧ leave st s rv = (v, st) :=
  ⟨v, by simp [resOf, rvAll, rv1, ha, hnt, packRes], hk.leave' hf⟩
theorem retB {a : Nat} {b c : Bool} (ha : e a = .bool b) (hk : Kept st s) (hb : b = c) : ∃ rv, resOf e s [.tmp a] = some rv ∧ leave st s rv = (.bool c, st) := by
  subst hb; exact ret1 ha rfl hk ⟨fun _ => rfl, fun _ _ => rfl⟩
theorem retS {a : Nat} {b c : List UInt8} (ha : e a = .str b) (hk : Kept st s) (hb : b = c) : ∃ rv, resOf e s [.tmp a] = some rv ∧ leave st s rv = (.str c, st) := by
  subst hb; exact ret1 ha rfl hk ⟨fun _ => rfl, fun _ _ => rfl⟩
theorem retI {a : Nat} {k : IntKind} {b c : Int} (ha : e a = .int k b) (hk : Kept st s) (hb : b = c) : ∃ rv, resOf e s [.tmp a] = some rv ∧ leave st s rv = (.int k c, st) := by
  subst hb; exact ret1 ha rfl hk ⟨fun _ => rfl, fun _ _ => rfl⟩

theorem alnum_spec {c : UInt8} : call prog (.fn 134 []) [.b8 c] st = some (.bool (alnC c), st) := by
  refine call_of_W prog_134 ?_
  unfold F_addr_alnum; dsimp only
  have fin : ∀ {E : Env} (b : Bool), E 2 = .bool b → b = alnC c → ∃ rv, resOf E { boxes := st.boxes, toks := st.toks, loops := st.loops, low := st.boxes.length } [.tmp 2] = some rv ∧ leave st { boxes := st.boxes, toks := st.toks, loops := st.loops, low := st.boxes.length } rv = (.bool (alnC c), st) :=
    fun b h hb => retB h Kept.start hb
  simp (maxSteps := 1000000) (disch := omega) only [abR, WO_consG3, guardV_bool, guardT_tt, guardT_ff, guardT_tf, guardT_ft, condW_imp, imp_tt, imp_ff, imp_tf, imp_ft, imp_F, imp_T, implies_true, Decidable.not_not, forall_const, and_self, Bool.not_eq_false', evOp, ↓reduceIte, Nat.reduceEqDiff, List.nil_append, List.cons_append, List.append_nil, List.map_cons, List.map_nil, Option.map_some, Option.map_none, Bool.not_eq_true', decide_eq_true_eq, decide_eq_false_iff_not, decide_true, decide_false, Int.toNat_natCast, Int.ofNat_lt, Int.ofNat_le, Int.natCast_inj, Bool.false_eq_true, Bool.true_eq_false, extPV, List.getElem?_cons_zero, List.getElem?_cons_succ, nilckPV, Int.reduceToNat, Int.reduceLE, true_and, and_true, reduceCtorEq, or_false, false_or, or_true, Option.some.injEq, exists_eq_left', Bool.not_true, Bool.not_false, ne_eq, Int.reduceEq, not_true_eq_false, not_false_eq_true, Int.reduceLT, UInt8.reduceLT, UInt8.reduceLE, UInt8.reduceToNat]
  repeat' (first | refine And.intro ?_ ?_ | intro q)
  all_goals first | exact fin true rfl (by simp only [alnC, *, decide_true, decide_false, Bool.and_true, Bool.true_and, Bool.and_false, Bool.false_and, Bool.or_true, Bool.true_or, Bool.or_false, Bool.false_or, Bool.not_true, Bool.not_false, not_true_eq_false, not_false_eq_true]) | exact fin false rfl (by simp only [alnC, *, decide_true, decide_false, Bool.and_true, Bool.true_and, Bool.and_false, Bool.false_and, Bool.or_true, Bool.true_or, Bool.or_false, Bool.false_or, Bool.not_true, Bool.not_false, not_true_eq_false, not_false_eq_true])

theorem signs_neg {c : UInt8} : (Lib.indexByte [33, 35, 36, 37, 38, 39, 42, 43, 45, 47, 61, 63, 94, 95, 123, 124, 125, 126, 96] c < 0) = (signs.contains c = false) := by
  have := all8 (p := fun c => decide (Lib.indexByte [33, 35, 36, 37, 38, 39, 42, 43, 45, 47, 61, 63, 94, 95, 123, 124, 125, 126, 96] c < 0) == !signs.contains c) (by kernel_rfl) c
  simp only [beq_iff_eq] at this
  apply propext
  constructor
  · intro h; simp only [h, decide_true] at this; simpa using this.symm
  · intro h; rw [h] at this; simpa using this

theorem isAtom_spec {l : List UInt8} (hl : l.length ≤ 100000000) : call prog (.fn 125 []) [.str l] st = some (.bool (atomB l), st) := by
  refine call_of_W prog_125 ?_
  unfold F_addr_isAtom; dsimp only
  simp (maxSteps := 1000000) (disch := omega) only [len_s, abR, WO_consG3, guardV_bool, guardT_tt, guardT_ff, guardT_tf, guardT_ft, condW_imp, imp_tt, imp_ff, imp_tf, imp_ft, imp_F, imp_T, implies_true, Decidable.not_not, forall_const, and_self, Bool.not_eq_false', evOp, ↓reduceIte, Nat.reduceEqDiff, List.nil_append, List.cons_append, List.append_nil, List.map_cons, List.map_nil, Option.map_some, Option.map_none, Bool.not_eq_true', decide_eq_true_eq, decide_eq_false_iff_not, decide_true, decide_false, Int.toNat_natCast, Int.ofNat_lt, Int.ofNat_le, Int.natCast_inj, Bool.false_eq_true, Bool.true_eq_false, extPV, List.getElem?_cons_zero, List.getElem?_cons_succ, nilckPV, Int.reduceToNat, Int.reduceLE, true_and, and_true, reduceCtorEq, or_false, false_or, or_true, Option.some.injEq, exists_eq_left', Bool.not_true, Bool.not_false, ne_eq, Int.reduceEq, not_true_eq_false, not_false_eq_true, Int.reduceLT, UInt8.reduceLT, UInt8.reduceLE, UInt8.reduceToNat]
  obtain ⟨I, hI⟩ : ∃ I : Nat → Env → St → Prop, I = fun k e s' => ∃ (i : Nat), k = l.length - i ∧ i ≤ l.length ∧ Kept st s' ∧ (∀ j, j < i → atC (l.getD j 0) = true) ∧ e 0 = .str l ∧ e 5 = .int .i64 (l.length : Int) ∧ e 6 = .int .i64 (i : Int) := ⟨_, rfl⟩
  refine W_loop I ?_ (n := l.length) (by
    rw [hI]
    exact ⟨0, rfl, by omega, Kept.start, fun j h => by omega, rfl, rfl, rfl⟩)
  intro k e s' hh
  rw [hI] at hh
  obtain ⟨i, rfl, hi, hk, hall, h0, h5, h6⟩ := hh
  by_cases hlt : i < l.length
  · obtain ⟨c, hc⟩ : ∃ c, c = l.getD i 0 := ⟨_, rfl⟩
    have bad : atC c = false → ∀ E : Env, E 2 = .bool false → ∃ rv, resOf E s' [.tmp 2] = some rv ∧ leave st s' rv = (.bool (atomB l), st) := fun h E k2 =>
      retB k2 hk (by simp only [atomB, all_bad (p := atC) hlt (by rw [← hc]; exact h), Bool.false_and])
    have next : atC c = true → ∀ E : Env, E 0 = .str l → E 5 = .int .i64 (l.length : Int) → E 6 = .int .i64 ((i + 1 : Nat) : Int) → ∃ m, m < l.length - i ∧ I m E s' := fun h E k0 k5 k6 =>
      ⟨l.length - (i + 1), by omega, by
        rw [hI]
        refine ⟨i + 1, rfl, by omega, hk, fun j hj => ?_, k0, k5, k6⟩
        by_cases hji : j = i
        · subst hji; rw [← hc]; exact h
        · exact hall j (by omega)⟩
    simp (maxSteps := 1000000) (disch := omega) only [h0, h5, h6, hlt, idx_s, ← hc, alnum_spec, strIndexByte_spec, signs_neg, add_n, loopQ_normal, abR, WO_consG3, guardV_bool, guardT_tt, guardT_ff, guardT_tf, guardT_ft, condW_imp, imp_tt, imp_ff, imp_tf, imp_ft, imp_F, imp_T, implies_true, Decidable.not_not, forall_const, and_self, Bool.not_eq_false', evOp, ↓reduceIte, Nat.reduceEqDiff, List.nil_append, List.cons_append, List.append_nil, List.map_cons, List.map_nil, Option.map_some, Option.map_none, Bool.not_eq_true', decide_eq_true_eq, decide_eq_false_iff_not, decide_true, decide_false, Int.toNat_natCast, Int.ofNat_lt, Int.ofNat_le, Int.natCast_inj, Bool.false_eq_true, Bool.true_eq_false, extPV, List.getElem?_cons_zero, List.getElem?_cons_succ, nilckPV, Int.reduceToNat, Int.reduceLE, true_and, and_true, reduceCtorEq, or_false, false_or, or_true, Option.some.injEq, exists_eq_left', Bool.not_true, Bool.not_false, ne_eq, Int.reduceEq, not_true_eq_false, not_false_eq_true, Int.reduceLT, UInt8.reduceLT, UInt8.reduceLE, UInt8.reduceToNat]
    clear hc hall hI
    repeat' (first | refine And.intro ?_ ?_ | intro q)
    all_goals first | exact bad (by simp only [atC, *, decide_true, decide_false, Bool.and_true, Bool.true_and, Bool.and_false, Bool.false_and, Bool.or_true, Bool.true_or, Bool.or_false, Bool.false_or, Bool.not_true, Bool.not_false, not_true_eq_false, not_false_eq_true]) _ rfl | exact next (by simp only [atC, *, decide_true, decide_false, Bool.and_true, Bool.true_and, Bool.and_false, Bool.false_and, Bool.or_true, Bool.true_or, Bool.or_false, Bool.false_or, Bool.not_true, Bool.not_false, not_true_eq_false, not_false_eq_true]) _ h0 h5 rfl | (exfalso; simp_all; done)
  · obtain rfl : i = l.length := by omega
    simp (maxSteps := 1000000) (disch := omega) only [h0, h5, h6, hlt, abR, WO_consG3, guardV_bool, guardT_tt, guardT_ff, guardT_tf, guardT_ft, condW_imp, imp_tt, imp_ff, imp_tf, imp_ft, imp_F, imp_T, implies_true, Decidable.not_not, forall_const, and_self, Bool.not_eq_false', evOp, ↓reduceIte, Nat.reduceEqDiff, List.nil_append, List.cons_append, List.append_nil, List.map_cons, List.map_nil, Option.map_some, Option.map_none, Bool.not_eq_true', decide_eq_true_eq, decide_eq_false_iff_not, decide_true, decide_false, Int.toNat_natCast, Int.ofNat_lt, Int.ofNat_le, Int.natCast_inj, Bool.false_eq_true, Bool.true_eq_false, extPV, List.getElem?_cons_zero, List.getElem?_cons_succ, nilckPV, Int.reduceToNat, Int.reduceLE, true_and, and_true, reduceCtorEq, or_false, false_or, or_true, Option.some.injEq, exists_eq_left', Bool.not_true, Bool.not_false, ne_eq, Int.reduceEq, not_true_eq_false, not_false_eq_true, Int.reduceLT, UInt8.reduceLT, UInt8.reduceLE, UInt8.reduceToNat]
    refine retB rfl hk ?_
    simp only [atomB, all_getD (p := atC) hall, Bool.true_and]
    cases l <;> rfl

theorem isLabel_spec {l : List UInt8} (hl : l.length ≤ 100000000) : call prog (.fn 126 []) [.str l] st = some (.bool (labB l), st) := by
  refine call_of_W prog_126 ?_
  unfold F_addr_isLabel; dsimp only
  simp (maxSteps := 1000000) (disch := omega) only [len_s, abR, WO_consG3, guardV_bool, guardT_tt, guardT_ff, guardT_tf, guardT_ft, condW_imp, imp_tt, imp_ff, imp_tf, imp_ft, imp_F, imp_T, implies_true, Decidable.not_not, forall_const, and_self, Bool.not_eq_false', evOp, ↓reduceIte, Nat.reduceEqDiff, List.nil_append, List.cons_append, List.append_nil, List.map_cons, List.map_nil, Option.map_some, Option.map_none, Bool.not_eq_true', decide_eq_true_eq, decide_eq_false_iff_not, decide_true, decide_false, Int.toNat_natCast, Int.ofNat_lt, Int.ofNat_le, Int.natCast_inj, Bool.false_eq_true, Bool.true_eq_false, extPV, List.getElem?_cons_zero, List.getElem?_cons_succ, nilckPV, Int.reduceToNat, Int.reduceLE, true_and, and_true, reduceCtorEq, or_false, false_or, or_true, Option.some.injEq, exists_eq_left', Bool.not_true, Bool.not_false, ne_eq, Int.reduceEq, not_true_eq_false, not_false_eq_true, Int.reduceLT, UInt8.reduceLT, UInt8.reduceLE, UInt8.reduceToNat]
  obtain ⟨I, hI⟩ : ∃ I : Nat → Env → St → Prop, I = fun k e s' => ∃ (i : Nat), k = l.length - i ∧ i ≤ l.length ∧ Kept st s' ∧ (∀ j, j < i → labC (l.getD j 0) = true) ∧ e 0 = .str l ∧ e 5 = .int .i64 (l.length : Int) ∧ e 6 = .int .i64 (i : Int) := ⟨_, rfl⟩
  refine W_loop I ?_ (n := l.length) (by
    rw [hI]
    exact ⟨0, rfl, by omega, Kept.start, fun j h => by omega, rfl, rfl, rfl⟩)
  intro k e s' hh
  rw [hI] at hh
  obtain ⟨i, rfl, hi, hk, hall, h0, h5, h6⟩ := hh
  by_cases hlt : i < l.length
  · obtain ⟨c, hc⟩ : ∃ c, c = l.getD i 0 := ⟨_, rfl⟩
    have bad : labC c = false → ∀ E : Env, E 2 = .bool false → ∃ rv, resOf E s' [.tmp 2] = some rv ∧ leave st s' rv = (.bool (labB l), st) := fun h E k2 =>
      retB k2 hk (by simp only [labB, all_bad (p := labC) hlt (by rw [← hc]; exact h), Bool.false_and])
    have next : labC c = true → ∀ E : Env, E 0 = .str l → E 5 = .int .i64 (l.length : Int) → E 6 = .int .i64 ((i + 1 : Nat) : Int) → ∃ m, m < l.length - i ∧ I m E s' := fun h E k0 k5 k6 =>
      ⟨l.length - (i + 1), by omega, by
        rw [hI]
        refine ⟨i + 1, rfl, by omega, hk, fun j hj => ?_, k0, k5, k6⟩
        by_cases hji : j = i
        · subst hji; rw [← hc]; exact h
        · exact hall j (by omega)⟩
    simp (maxSteps := 1000000) (disch := omega) only [h0, h5, h6, hlt, idx_s, ← hc, alnum_spec, add_n, loopQ_normal, abR, WO_consG3, guardV_bool, guardT_tt, guardT_ff, guardT_tf, guardT_ft, condW_imp, imp_tt, imp_ff, imp_tf, imp_ft, imp_F, imp_T, implies_true, Decidable.not_not, forall_const, and_self, Bool.not_eq_false', evOp, ↓reduceIte, Nat.reduceEqDiff, List.nil_append, List.cons_append, List.append_nil, List.map_cons, List.map_nil, Option.map_some, Option.map_none, Bool.not_eq_true', decide_eq_true_eq, decide_eq_false_iff_not, decide_true, decide_false, Int.toNat_natCast, Int.ofNat_lt, Int.ofNat_le, Int.natCast_inj, Bool.false_eq_true, Bool.true_eq_false, extPV, List.getElem?_cons_zero, List.getElem?_cons_succ, nilckPV, Int.reduceToNat, Int.reduceLE, true_and, and_true, reduceCtorEq, or_false, false_or, or_true, Option.some.injEq, exists_eq_left', Bool.not_true, Bool.not_false, ne_eq, Int.reduceEq, not_true_eq_false, not_false_eq_true, Int.reduceLT, UInt8.reduceLT, UInt8.reduceLE, UInt8.reduceToNat]
    clear hc hall hI
    repeat' (first | refine And.intro ?_ ?_ | intro q)
    all_goals first | exact bad (by simp only [labC, *, decide_true, decide_false, Bool.and_true, Bool.true_and, Bool.and_false, Bool.false_and, Bool.or_true, Bool.true_or, Bool.or_false, Bool.false_or, Bool.not_true, Bool.not_false, not_true_eq_false, not_false_eq_true]) _ rfl | exact next (by simp only [labC, *, decide_true, decide_false, Bool.and_true, Bool.true_and, Bool.and_false, Bool.false_and, Bool.or_true, Bool.true_or, Bool.or_false, Bool.false_or, Bool.not_true, Bool.not_false, not_true_eq_false, not_false_eq_true]) _ h0 h5 rfl | (exfalso; simp_all; done)
  · obtain rfl : i = l.length := by omega
    have ha := all_getD (p := labC) hall
    by_cases hn : l = []
    · simp (maxSteps := 1000000) (disch := omega) only [h0, h5, h6, hlt, eq_true hn, abR, WO_consG3, guardV_bool, guardT_tt, guardT_ff, guardT_tf, guardT_ft, condW_imp, imp_tt, imp_ff, imp_tf, imp_ft, imp_F, imp_T, implies_true, Decidable.not_not, forall_const, and_self, Bool.not_eq_false', evOp, ↓reduceIte, Nat.reduceEqDiff, List.nil_append, List.cons_append, List.append_nil, List.map_cons, List.map_nil, Option.map_some, Option.map_none, Bool.not_eq_true', decide_eq_true_eq, decide_eq_false_iff_not, decide_true, decide_false, Int.toNat_natCast, Int.ofNat_lt, Int.ofNat_le, Int.natCast_inj, Bool.false_eq_true, Bool.true_eq_false, extPV, List.getElem?_cons_zero, List.getElem?_cons_succ, nilckPV, Int.reduceToNat, Int.reduceLE, true_and, and_true, reduceCtorEq, or_false, false_or, or_true, Option.some.injEq, exists_eq_left', Bool.not_true, Bool.not_false, ne_eq, Int.reduceEq, not_true_eq_false, not_false_eq_true, Int.reduceLT, UInt8.reduceLT, UInt8.reduceLE, UInt8.reduceToNat]
      exact retB rfl hk (by simp [labB, hn])
    · have hp := List.length_pos_iff.2 hn
      have hsub : ∀ ek, binPV .sub ek (.int .i64 (l.length : Int)) (.int .i64 1) = some (.int .i64 ((l.length - 1 : Nat) : Int)) := fun ek => by
        rw [sub_n (by omega) (by simp; omega) (by omega)]; rfl
      have he : l.isEmpty = false := by cases l with | nil => exact absurd rfl hn | cons a r => rfl
      by_cases h63 : l.length ≤ 63
      · have e63 : (l.length : Int) ≤ 63 := by omega
        simp (maxSteps := 1000000) (disch := omega) only [h0, h5, h6, hlt, hn, len_s, idx_s, hsub, e63, abR, WO_consG3, guardV_bool, guardT_tt, guardT_ff, guardT_tf, guardT_ft, condW_imp, imp_tt, imp_ff, imp_tf, imp_ft, imp_F, imp_T, implies_true, Decidable.not_not, forall_const, and_self, Bool.not_eq_false', evOp, ↓reduceIte, Nat.reduceEqDiff, List.nil_append, List.cons_append, List.append_nil, List.map_cons, List.map_nil, Option.map_some, Option.map_none, Bool.not_eq_true', decide_eq_true_eq, decide_eq_false_iff_not, decide_true, decide_false, Int.toNat_natCast, Int.ofNat_lt, Int.ofNat_le, Int.natCast_inj, Bool.false_eq_true, Bool.true_eq_false, extPV, List.getElem?_cons_zero, List.getElem?_cons_succ, nilckPV, Int.reduceToNat, Int.reduceLE, true_and, and_true, reduceCtorEq, or_false, false_or, or_true, Option.some.injEq, exists_eq_left', Bool.not_true, Bool.not_false, ne_eq, Int.reduceEq, not_true_eq_false, not_false_eq_true, Int.reduceLT, UInt8.reduceLT, UInt8.reduceLE, UInt8.reduceToNat]
        clear hall hI h0 h5 h6
        repeat' (first | refine And.intro ?_ ?_ | intro q)
        all_goals exact retB rfl hk (by simp only [labB, ha, he, *, decide_not, decide_true, decide_false, Bool.and_true, Bool.true_and, Bool.and_false, Bool.false_and, Bool.or_true, Bool.true_or, Bool.or_false, Bool.false_or, Bool.not_true, Bool.not_false, not_true_eq_false, not_false_eq_true])
      · have e63 : ¬ (l.length : Int) ≤ 63 := by omega
        simp (maxSteps := 1000000) (disch := omega) only [h0, h5, h6, hlt, hn, len_s, idx_s, hsub, e63, abR, WO_consG3, guardV_bool, guardT_tt, guardT_ff, guardT_tf, guardT_ft, condW_imp, imp_tt, imp_ff, imp_tf, imp_ft, imp_F, imp_T, implies_true, Decidable.not_not, forall_const, and_self, Bool.not_eq_false', evOp, ↓reduceIte, Nat.reduceEqDiff, List.nil_append, List.cons_append, List.append_nil, List.map_cons, List.map_nil, Option.map_some, Option.map_none, Bool.not_eq_true', decide_eq_true_eq, decide_eq_false_iff_not, decide_true, decide_false, Int.toNat_natCast, Int.ofNat_lt, Int.ofNat_le, Int.natCast_inj, Bool.false_eq_true, Bool.true_eq_false, extPV, List.getElem?_cons_zero, List.getElem?_cons_succ, nilckPV, Int.reduceToNat, Int.reduceLE, true_and, and_true, reduceCtorEq, or_false, false_or, or_true, Option.some.injEq, exists_eq_left', Bool.not_true, Bool.not_false, ne_eq, Int.reduceEq, not_true_eq_false, not_false_eq_true, Int.reduceLT, UInt8.reduceLT, UInt8.reduceLE, UInt8.reduceToNat]
        exact retB rfl hk (by simp only [labB, h63, decide_true, decide_false, Bool.and_true, Bool.true_and, Bool.and_false, Bool.false_and, Bool.or_true, Bool.true_or, Bool.or_false, Bool.false_or, Bool.not_true, Bool.not_false, not_true_eq_false, not_false_eq_true])

theorem isNm_spec {l : List UInt8} (hl : l.length ≤ 100000000) : call prog (.fn 127 []) [.str l] st = some (.bool (nmA l), st) := by
  refine call_of_W prog_127 ?_
  unfold F_addr_isName; dsimp only
  simp (maxSteps := 1000000) (disch := omega) only [len_s, abR, WO_consG3, guardV_bool, guardT_tt, guardT_ff, guardT_tf, guardT_ft, condW_imp, imp_tt, imp_ff, imp_tf, imp_ft, imp_F, imp_T, implies_true, Decidable.not_not, forall_const, and_self, Bool.not_eq_false', evOp, ↓reduceIte, Nat.reduceEqDiff, List.nil_append, List.cons_append, List.append_nil, List.map_cons, List.map_nil, Option.map_some, Option.map_none, Bool.not_eq_true', decide_eq_true_eq, decide_eq_false_iff_not, decide_true, decide_false, Int.toNat_natCast, Int.ofNat_lt, Int.ofNat_le, Int.natCast_inj, Bool.false_eq_true, Bool.true_eq_false, extPV, List.getElem?_cons_zero, List.getElem?_cons_succ, nilckPV, Int.reduceToNat, Int.reduceLE, true_and, and_true, reduceCtorEq, or_false, false_or, or_true, Option.some.injEq, exists_eq_left', Bool.not_true, Bool.not_false, ne_eq, Int.reduceEq, not_true_eq_false, not_false_eq_true, Int.reduceLT, UInt8.reduceLT, UInt8.reduceLE, UInt8.reduceToNat]
  obtain ⟨I, hI⟩ : ∃ I : Nat → Env → St → Prop, I = fun k e s' => ∃ (i : Nat), k = l.length - i ∧ i ≤ l.length ∧ Kept st s' ∧ (∀ j, j < i → prC (l.getD j 0) = true) ∧ e 0 = .str l ∧ e 5 = .int .i64 (l.length : Int) ∧ e 6 = .int .i64 (i : Int) := ⟨_, rfl⟩
  refine W_loop I ?_ (n := l.length) (by
    rw [hI]
    exact ⟨0, rfl, by omega, Kept.start, fun j h => by omega, rfl, rfl, rfl⟩)
  intro k e s' hh
  rw [hI] at hh
  obtain ⟨i, rfl, hi, hk, hall, h0, h5, h6⟩ := hh
  by_cases hlt : i < l.length
  · obtain ⟨c, hc⟩ : ∃ c, c = l.getD i 0 := ⟨_, rfl⟩
    have bad : prC c = false → ∀ E : Env, E 2 = .bool false → ∃ rv, resOf E s' [.tmp 2] = some rv ∧ leave st s' rv = (.bool (nmA l), st) := fun h E k2 =>
      retB k2 hk (by simp only [nmA, all_bad (p := prC) hlt (by rw [← hc]; exact h), Bool.false_and])
    have next : prC c = true → ∀ E : Env, E 0 = .str l → E 5 = .int .i64 (l.length : Int) → E 6 = .int .i64 ((i + 1 : Nat) : Int) → ∃ m, m < l.length - i ∧ I m E s' := fun h E k0 k5 k6 =>
      ⟨l.length - (i + 1), by omega, by
        rw [hI]
        refine ⟨i + 1, rfl, by omega, hk, fun j hj => ?_, k0, k5, k6⟩
        by_cases hji : j = i
        · subst hji; rw [← hc]; exact h
        · exact hall j (by omega)⟩
    simp (maxSteps := 1000000) (disch := omega) only [h0, h5, h6, hlt, idx_s, ← hc, add_n, loopQ_normal, abR, WO_consG3, guardV_bool, guardT_tt, guardT_ff, guardT_tf, guardT_ft, condW_imp, imp_tt, imp_ff, imp_tf, imp_ft, imp_F, imp_T, implies_true, Decidable.not_not, forall_const, and_self, Bool.not_eq_false', evOp, ↓reduceIte, Nat.reduceEqDiff, List.nil_append, List.cons_append, List.append_nil, List.map_cons, List.map_nil, Option.map_some, Option.map_none, Bool.not_eq_true', decide_eq_true_eq, decide_eq_false_iff_not, decide_true, decide_false, Int.toNat_natCast, Int.ofNat_lt, Int.ofNat_le, Int.natCast_inj, Bool.false_eq_true, Bool.true_eq_false, extPV, List.getElem?_cons_zero, List.getElem?_cons_succ, nilckPV, Int.reduceToNat, Int.reduceLE, true_and, and_true, reduceCtorEq, or_false, false_or, or_true, Option.some.injEq, exists_eq_left', Bool.not_true, Bool.not_false, ne_eq, Int.reduceEq, not_true_eq_false, not_false_eq_true, Int.reduceLT, UInt8.reduceLT, UInt8.reduceLE, UInt8.reduceToNat]
    clear hc hall hI
    repeat' (first | refine And.intro ?_ ?_ | intro q)
    all_goals first | exact bad (by simp only [prC, *, decide_true, decide_false, Bool.and_true, Bool.true_and, Bool.and_false, Bool.false_and, Bool.or_true, Bool.true_or, Bool.or_false, Bool.false_or, Bool.not_true, Bool.not_false, not_true_eq_false, not_false_eq_true]) _ rfl | exact next (by simp only [prC, *, decide_true, decide_false, Bool.and_true, Bool.true_and, Bool.and_false, Bool.false_and, Bool.or_true, Bool.true_or, Bool.or_false, Bool.false_or, Bool.not_true, Bool.not_false, not_true_eq_false, not_false_eq_true]) _ h0 h5 rfl
  · obtain rfl : i = l.length := by omega
    simp (maxSteps := 1000000) (disch := omega) only [h0, h5, h6, hlt, len_s, abR, WO_consG3, guardV_bool, guardT_tt, guardT_ff, guardT_tf, guardT_ft, condW_imp, imp_tt, imp_ff, imp_tf, imp_ft, imp_F, imp_T, implies_true, Decidable.not_not, forall_const, and_self, Bool.not_eq_false', evOp, ↓reduceIte, Nat.reduceEqDiff, List.nil_append, List.cons_append, List.append_nil, List.map_cons, List.map_nil, Option.map_some, Option.map_none, Bool.not_eq_true', decide_eq_true_eq, decide_eq_false_iff_not, decide_true, decide_false, Int.toNat_natCast, Int.ofNat_lt, Int.ofNat_le, Int.natCast_inj, Bool.false_eq_true, Bool.true_eq_false, extPV, List.getElem?_cons_zero, List.getElem?_cons_succ, nilckPV, Int.reduceToNat, Int.reduceLE, true_and, and_true, reduceCtorEq, or_false, false_or, or_true, Option.some.injEq, exists_eq_left', Bool.not_true, Bool.not_false, ne_eq, Int.reduceEq, not_true_eq_false, not_false_eq_true, Int.reduceLT, UInt8.reduceLT, UInt8.reduceLE, UInt8.reduceToNat]
    refine retB rfl hk ?_
    simp only [nmA, all_getD (p := prC) hall, Bool.true_and]
    by_cases h : l.length ≤ 128
    · rw [decide_eq_true h, decide_eq_true (by omega)]
    · rw [decide_eq_false h, decide_eq_false (by omega)]
end Go.Ab

/-
  What may be an address; its normal form; an address without a name.
-/
namespace Go.Ab
set_option linter.unusedVariables false
set_option linter.unusedSimpArgs false
variable {st s : St} {e : Env}

theorem split_len {sep : UInt8} : ∀ (l acc : Bs), ∀ x ∈ splitOn sep acc l, x.length ≤ acc.length + l.length := by
  intro l
  induction l with
  | nil => intro acc x hx; simp [splitOn] at hx; subst hx; simp
  | cons d r ih =>
    intro acc x hx
    simp only [splitOn] at hx
    split at hx
    · rcases List.mem_cons.1 hx with rfl | hx
      · simp
      · have := ih [] x hx; simp at this ⊢; omega
    · have := ih (acc ++ [d]) x hx; simp at this ⊢; omega
theorem split_num {sep : UInt8} : ∀ (l acc : Bs), (splitOn sep acc l).length ≤ l.length + 1 := by
  intro l
  induction l with
  | nil => intro acc; simp [splitOn]
  | cons d r ih =>
    intro acc
    simp only [splitOn]
    split
    · have := ih []; simp; omega
    · have := ih (acc ++ [d]); simp; omega
theorem Split_spec {l : Bs} {c : UInt8} (hl : l.length ≤ 100000000) : call prog (.fn 133 []) [.str l, .str [c]] st = some (.sl 1 .no ((splitOn c [] l).map .str), st) := by
  rw [call_prim prog_133]
  simp [pStrSplit]
  omega
theorem iaddr_t {x : PV} {xs : List Bs} {k : IntKind} {c : Int} (h : x.vs 1 = some (xs.map .str)) (h1 : 0 ≤ c) (h2 : c.toNat < xs.length) : iaddrPV 1 x (.int k c) = some (.cp [.str (xs.getD c.toNat [])]) := by
  rw [iaddr_vs h h1 (by simpa using h2)]
  simp [List.getD, h2, PV.cells]
theorem all_getD' {p : Bs → Bool} {xs : List Bs} (h : ∀ j, j < xs.length → p (xs.getD j []) = true) : xs.all p = true := by
  rw [List.all_eq_true]
  intro x hx
  obtain ⟨i, hi, rfl⟩ := List.mem_iff_getElem.1 hx
  have := h i hi
  simpa [List.getD, hi] using this
theorem all_bad' {p : Bs → Bool} {xs : List Bs} {j : Nat} (hj : j < xs.length) (h : p (xs.getD j []) = false) : xs.all p = false := by
  rw [List.all_eq_false]
  exact ⟨xs.getD j [], by simp [List.getD, hj], by rw [h]; simp⟩

theorem parts_spec {l : Bs} {c : UInt8} {f : Nat} {p : Bs → Bool} (hl : l.length ≤ 100000000) (hf : ∀ (S : St) (x : Bs), x.length ≤ 100000000 → call prog (.fn f []) [.str x] S = some (.bool (p x), S)) :
    call prog (.fn 124 []) [.str l, .str [c], .fn f []] st = some (.bool (partsB c p l), st) := by
  refine call_of_W prog_124 ?_
  unfold F_addr_parts; dsimp only
  obtain ⟨xs, hxs⟩ : ∃ xs, xs = splitOn c [] l := ⟨_, rfl⟩
  have hsp : ∀ S : St, call prog (.fn 133 []) [.str l, .str [c]] S = some (.sl 1 .no (xs.map .str), S) := fun S => by rw [hxs]; exact Split_spec hl
  have hlen : lenPV false (.sl 1 .no (xs.map .str)) = some (.int .i64 (xs.length : Int)) := by simp [lenPV]
  have hvs : (PV.sl 1 .no (xs.map .str)).vs 1 = some (xs.map .str) := by simp [PV.vs]
  have hp : partsB c p l = xs.all p := by rw [hxs]; rfl
  have hxl : ∀ j, j < xs.length → (xs.getD j []).length ≤ 100000000 := fun j hj => by
    have hm : xs.getD j [] ∈ splitOn c [] l := by rw [← hxs]; simp [List.getD, hj]
    have := split_len l [] _ hm
    simp at this ⊢; omega
  have hnum : xs.length ≤ 100000001 := by
    have := split_num (sep := c) l []
    rw [← hxs] at this; omega
  rw [hp]
  simp (maxSteps := 1000000) (disch := omega) only [hsp, hlen, abR, WO_consG3, guardV_bool, guardT_tt, guardT_ff, guardT_tf, guardT_ft, condW_imp, imp_tt, imp_ff, imp_tf, imp_ft, imp_F, imp_T, implies_true, Decidable.not_not, forall_const, and_self, Bool.not_eq_false', evOp, ↓reduceIte, Nat.reduceEqDiff, List.nil_append, List.cons_append, List.append_nil, List.map_cons, List.map_nil, Option.map_some, Option.map_none, Bool.not_eq_true', decide_eq_true_eq, decide_eq_false_iff_not, decide_true, decide_false, Int.toNat_natCast, Int.ofNat_lt, Int.ofNat_le, Int.natCast_inj, Bool.false_eq_true, Bool.true_eq_false, extPV, List.getElem?_cons_zero, List.getElem?_cons_succ, nilckPV, Int.reduceToNat, Int.reduceLE, true_and, and_true, reduceCtorEq, or_false, false_or, or_true, Option.some.injEq, exists_eq_left', Bool.not_true, Bool.not_false, ne_eq, Int.reduceEq, not_true_eq_false, not_false_eq_true, Int.reduceLT, UInt8.reduceLT, UInt8.reduceLE, UInt8.reduceToNat]
  obtain ⟨I, hI⟩ : ∃ I : Nat → Env → St → Prop, I = fun k e s' => ∃ (i : Nat), k = xs.length - i ∧ i ≤ xs.length ∧ Kept st s' ∧ (∀ j, j < i → p (xs.getD j []) = true) ∧ e 2 = .fn f [] ∧ e 11 = .sl 1 .no (xs.map .str) ∧ e 12 = .int .i64 (xs.length : Int) ∧ e 13 = .int .i64 (i : Int) := ⟨_, rfl⟩
  refine W_loop I ?_ (n := xs.length) (by
    rw [hI]
    exact ⟨0, rfl, by omega, Kept.start, fun j h => by omega, rfl, rfl, rfl, rfl⟩)
  intro k e s' hh
  rw [hI] at hh
  obtain ⟨i, rfl, hi, hk, hall, h2, h11, h12, h13⟩ := hh
  by_cases hlt : i < xs.length
  · obtain ⟨x, hx⟩ : ∃ x, x = xs.getD i [] := ⟨_, rfl⟩
    have hfx := fun S : St => hf S x (by rw [hx]; exact hxl i hlt)
    cases hpx : p x with
    | false =>
      rw [hpx] at hfx
      simp (maxSteps := 1000000) (disch := omega) only [h2, h11, h12, h13, hlt, iaddr_t hvs, ← hx, load_cp1, hfx, abR, WO_consG3, guardV_bool, guardT_tt, guardT_ff, guardT_tf, guardT_ft, condW_imp, imp_tt, imp_ff, imp_tf, imp_ft, imp_F, imp_T, implies_true, Decidable.not_not, forall_const, and_self, Bool.not_eq_false', evOp, ↓reduceIte, Nat.reduceEqDiff, List.nil_append, List.cons_append, List.append_nil, List.map_cons, List.map_nil, Option.map_some, Option.map_none, Bool.not_eq_true', decide_eq_true_eq, decide_eq_false_iff_not, decide_true, decide_false, Int.toNat_natCast, Int.ofNat_lt, Int.ofNat_le, Int.natCast_inj, Bool.false_eq_true, Bool.true_eq_false, extPV, List.getElem?_cons_zero, List.getElem?_cons_succ, nilckPV, Int.reduceToNat, Int.reduceLE, true_and, and_true, reduceCtorEq, or_false, false_or, or_true, Option.some.injEq, exists_eq_left', Bool.not_true, Bool.not_false, ne_eq, Int.reduceEq, not_true_eq_false, not_false_eq_true, Int.reduceLT, UInt8.reduceLT, UInt8.reduceLE, UInt8.reduceToNat]
      exact retB rfl hk (all_bad' hlt (by rw [← hx]; exact hpx)).symm
    | true =>
      rw [hpx] at hfx
      simp (maxSteps := 1000000) (disch := omega) only [h2, h11, h12, h13, hlt, iaddr_t hvs, ← hx, load_cp1, hfx, add_n, abR, WO_consG3, guardV_bool, guardT_tt, guardT_ff, guardT_tf, guardT_ft, condW_imp, imp_tt, imp_ff, imp_tf, imp_ft, imp_F, imp_T, implies_true, Decidable.not_not, forall_const, and_self, Bool.not_eq_false', evOp, ↓reduceIte, Nat.reduceEqDiff, List.nil_append, List.cons_append, List.append_nil, List.map_cons, List.map_nil, Option.map_some, Option.map_none, Bool.not_eq_true', decide_eq_true_eq, decide_eq_false_iff_not, decide_true, decide_false, Int.toNat_natCast, Int.ofNat_lt, Int.ofNat_le, Int.natCast_inj, Bool.false_eq_true, Bool.true_eq_false, extPV, List.getElem?_cons_zero, List.getElem?_cons_succ, nilckPV, Int.reduceToNat, Int.reduceLE, true_and, and_true, reduceCtorEq, or_false, false_or, or_true, Option.some.injEq, exists_eq_left', Bool.not_true, Bool.not_false, ne_eq, Int.reduceEq, not_true_eq_false, not_false_eq_true, Int.reduceLT, UInt8.reduceLT, UInt8.reduceLE, UInt8.reduceToNat]
      refine loopQ_intro (m := xs.length - (i + 1)) (by omega) ?_
      rw [hI]
      refine ⟨i + 1, rfl, by omega, hk, fun j hj => ?_, h2, h11, h12, rfl⟩
      by_cases hji : j = i
      · subst hji; rw [← hx]; exact hpx
      · exact hall j (by omega)
  · obtain rfl : i = xs.length := by omega
    simp (maxSteps := 1000000) (disch := omega) only [h2, h11, h12, h13, hlt, abR, WO_consG3, guardV_bool, guardT_tt, guardT_ff, guardT_tf, guardT_ft, condW_imp, imp_tt, imp_ff, imp_tf, imp_ft, imp_F, imp_T, implies_true, Decidable.not_not, forall_const, and_self, Bool.not_eq_false', evOp, ↓reduceIte, Nat.reduceEqDiff, List.nil_append, List.cons_append, List.append_nil, List.map_cons, List.map_nil, Option.map_some, Option.map_none, Bool.not_eq_true', decide_eq_true_eq, decide_eq_false_iff_not, decide_true, decide_false, Int.toNat_natCast, Int.ofNat_lt, Int.ofNat_le, Int.natCast_inj, Bool.false_eq_true, Bool.true_eq_false, extPV, List.getElem?_cons_zero, List.getElem?_cons_succ, nilckPV, Int.reduceToNat, Int.reduceLE, true_and, and_true, reduceCtorEq, or_false, false_or, or_true, Option.some.injEq, exists_eq_left', Bool.not_true, Bool.not_false, ne_eq, Int.reduceEq, not_true_eq_false, not_false_eq_true, Int.reduceLT, UInt8.reduceLT, UInt8.reduceLE, UInt8.reduceToNat]
    exact retB rfl hk (all_getD' hall).symm

theorem atoms_spec {l : Bs} {c : UInt8} (hl : l.length ≤ 100000000) : call prog (.fn 124 []) [.str l, .str [c], .fn 125 []] st = some (.bool (partsB c atomB l), st) :=
  parts_spec hl (fun S x hx => isAtom_spec hx)
theorem labels_spec {l : Bs} {c : UInt8} (hl : l.length ≤ 100000000) : call prog (.fn 124 []) [.str l, .str [c], .fn 126 []] st = some (.bool (partsB c labB l), st) :=
  parts_spec hl (fun S x hx => isLabel_spec hx)

/-! ### Three texts in a box -/
variable {B : List (List PV)} {T : List Bool} {L : List LoopS} {lo : Nat} {a b c : Bs}
abbrev cA (a b c : Bs) : List PV := [.str a, .str b, .str c]
theorem inB_a {m : Nat} : (PV.agg [.str a, .str b, .str c]).inB m = true := rfl
theorem all_a : List.all [PV.str a, .str b, .str c] leafOk = true := rfl
theorem ld_a0 : loadPV ⟨B ++ [cA a b c], T, L, lo⟩ false 1 (.ptr B.length 0) = some (.str a) := by simp [loadPV, readCells]
theorem ld_a1 : loadPV ⟨B ++ [cA a b c], T, L, lo⟩ false 1 (.ptr B.length 1) = some (.str b) := by simp [loadPV, readCells]
theorem ld_a2 : loadPV ⟨B ++ [cA a b c], T, L, lo⟩ false 1 (.ptr B.length 2) = some (.str c) := by simp [loadPV, readCells]
theorem ld_aa : loadPV ⟨B ++ [cA a b c], T, L, lo⟩ true 3 (.ptr B.length 0) = some (.agg (cA a b c)) := by simp [loadPV, readCells]
theorem st_aa {a' b' c' : Bs} : storePV ⟨B ++ [cA a b c], T, L, lo⟩ 3 (.ptr B.length 0) (.agg (cA a' b' c')) = some ⟨B ++ [cA a' b' c'], T, L, lo⟩ := by
  simp [storePV, PV.cells, PV.inB, PV.inB.inBAll, setCells, hasTok, tokOf, leafOk]
theorem cells_agg {cs : List PV} : (PV.agg cs).cells = cs := rfl
theorem Kept.box1 {z : List PV} : Kept st ⟨st.boxes ++ [z], st.toks, st.loops, st.boxes.length⟩ := Kept.start.alloc

structure okA (a : Adr) : Prop where
  n : a.1.length ≤ 100000000
  l : a.2.1.length ≤ 100000000
  d : a.2.2.length ≤ 100000000

theorem Right_spec {a : Adr} (h : okA a) : call prog (.fn 111 []) [aV a] st = some (.bool (rightA a), st) := by
  refine call_of_W prog_111 ?_
  unfold F_addr_Right; dsimp only
  obtain ⟨n, l, d⟩ := a
  have hn := h.n; have hl := h.l; have hd := h.d
  simp only at hn hl hd
  have e64 : ((l.length : Int) ≤ 64) = (l.length ≤ 64) := by apply propext; omega
  have e253 : ((d.length : Int) ≤ 253) = (d.length ≤ 253) := by apply propext; omega
  have hA := fun S : St => atoms_spec (st := S) (c := 46) hl
  have hD := fun S : St => labels_spec (st := S) (c := 46) hd
  have hN := fun S : St => isNm_spec (st := S) hn
  simp (maxSteps := 1000000) (disch := omega) only [aV, inB_a, all_a, allocPV, cells_agg, faP, Nat.zero_add, ld_a0, ld_a1, ld_a2, len_s, e64, e253, hA, hD, hN, abR, WO_consG3, guardV_bool, guardT_tt, guardT_ff, guardT_tf, guardT_ft, condW_imp, imp_tt, imp_ff, imp_tf, imp_ft, imp_F, imp_T, implies_true, Decidable.not_not, forall_const, and_self, Bool.not_eq_false', evOp, ↓reduceIte, Nat.reduceEqDiff, List.nil_append, List.cons_append, List.append_nil, List.map_cons, List.map_nil, Option.map_some, Option.map_none, Bool.not_eq_true', decide_eq_true_eq, decide_eq_false_iff_not, decide_true, decide_false, Int.toNat_natCast, Int.ofNat_lt, Int.ofNat_le, Int.natCast_inj, Bool.false_eq_true, Bool.true_eq_false, extPV, List.getElem?_cons_zero, List.getElem?_cons_succ, nilckPV, Int.reduceToNat, Int.reduceLE, true_and, and_true, reduceCtorEq, or_false, false_or, or_true, Option.some.injEq, exists_eq_left', Bool.not_true, Bool.not_false, ne_eq, Int.reduceEq, not_true_eq_false, not_false_eq_true, Int.reduceLT, UInt8.reduceLT, UInt8.reduceLE, UInt8.reduceToNat]
  clear hA hD hN
  repeat' (first | refine And.intro ?_ ?_ | intro q)
  all_goals exact retB rfl Kept.box1 (by simp only [rightA, *, decide_true, decide_false, Bool.and_true, Bool.true_and, Bool.and_false, Bool.false_and, Bool.or_true, Bool.true_or, Bool.or_false, Bool.false_or, Bool.not_true, Bool.not_false, not_true_eq_false, not_false_eq_true])

theorem long_spec {a : Adr} (h1 : a.1.length ≤ 4000000000000000000) (h2 : a.2.1.length ≤ 4000000000000000000) : call prog (.fn 110 []) [aV a] st = some (.bool (decide (1000 < a.1.length + a.2.1.length) || decide (1000 < a.2.2.length)), st) := by
  refine call_of_W prog_110 ?_
  unfold F_posthornlaw07_long; dsimp only
  obtain ⟨n, l, d⟩ := a
  simp only at h1 h2
  have hadd : ∀ ek, binPV .add ek (.int .i64 (n.length : Int)) (.int .i64 (l.length : Int)) = some (.int .i64 ((n.length + l.length : Nat) : Int)) := fun ek => by
    rw [add_i (by omega) (by omega)]; simp
  have e1 : ((1000 : Int) < ((n.length + l.length : Nat) : Int)) = (1000 < n.length + l.length) := by apply propext; omega
  have e2 : ((1000 : Int) < (d.length : Int)) = (1000 < d.length) := by apply propext; omega
  simp (maxSteps := 1000000) (disch := omega) only [aV, inB_a, all_a, allocPV, cells_agg, faP, Nat.zero_add, ld_a0, ld_a1, ld_a2, len_s, hadd, e1, e2, abR, WO_consG3, guardV_bool, guardT_tt, guardT_ff, guardT_tf, guardT_ft, condW_imp, imp_tt, imp_ff, imp_tf, imp_ft, imp_F, imp_T, implies_true, Decidable.not_not, forall_const, and_self, Bool.not_eq_false', evOp, ↓reduceIte, Nat.reduceEqDiff, List.nil_append, List.cons_append, List.append_nil, List.map_cons, List.map_nil, Option.map_some, Option.map_none, Bool.not_eq_true', decide_eq_true_eq, decide_eq_false_iff_not, decide_true, decide_false, Int.toNat_natCast, Int.ofNat_lt, Int.ofNat_le, Int.natCast_inj, Bool.false_eq_true, Bool.true_eq_false, extPV, List.getElem?_cons_zero, List.getElem?_cons_succ, nilckPV, Int.reduceToNat, Int.reduceLE, true_and, and_true, reduceCtorEq, or_false, false_or, or_true, Option.some.injEq, exists_eq_left', Bool.not_true, Bool.not_false, ne_eq, Int.reduceEq, not_true_eq_false, not_false_eq_true, Int.reduceLT, UInt8.reduceLT, UInt8.reduceLE, UInt8.reduceToNat]
  repeat' (first | refine And.intro ?_ ?_ | intro q)
  all_goals exact retB rfl Kept.box1 (by simp only [*, decide_true, decide_false, Bool.and_true, Bool.true_and, Bool.and_false, Bool.false_and, Bool.or_true, Bool.true_or, Bool.or_false, Bool.false_or, Bool.not_true, Bool.not_false, not_true_eq_false, not_false_eq_true])

/-! ### The normal form -/
/-- Bytes of one's own behind another box. -/
def bst2 (st : St) (z : List PV) (l : Bs) : St := ⟨(st.boxes ++ [z]) ++ [l.map PV.b8], st.toks, st.loops, st.boxes.length⟩
theorem load_bst2 {z : List PV} {l : Bs} {i : Nat} (h : i < l.length) : loadPV (bst2 st z l) false 1 (.ptr (st.boxes.length + 1) i) = some (.b8 (l.getD i 0)) := by
  have hg : (st.boxes ++ [z] ++ [l.map PV.b8])[st.boxes.length + 1]? = some (l.map PV.b8) := by
    rw [List.getElem?_append_right (by simp)]; simp
  simp only [loadPV, bst2, hg]
  rw [← List.map_drop, drop_getD h]; rfl
theorem store_bst2 {z : List PV} {l : Bs} {i : Nat} {c : UInt8} (h : i < l.length) : storePV (bst2 st z l) 1 (.ptr (st.boxes.length + 1) i) (.b8 c) = some (bst2 st z (l.set i c)) := by
  have hg : (st.boxes ++ [z] ++ [l.map PV.b8])[st.boxes.length + 1]? = some (l.map PV.b8) := by
    rw [List.getElem?_append_right (by simp)]; simp
  have hs : ∀ y, (st.boxes ++ [z] ++ [l.map PV.b8]).set (st.boxes.length + 1) y = st.boxes ++ [z] ++ [y] := fun y => by
    rw [List.set_append_right _ _ (by simp)]; simp
  have h2 : i + 1 ≤ l.length := by omega
  simp only [storePV, bst2, hg, PV.cells]
  simp [h2, PV.inB, leafOk, setCells, hasTok, tokOf, List.map_set]
theorem b2s_bst2 {z : List PV} {l : Bs} {n : Nat} (h : n = l.length) : b2s true (bst2 st z l) (.ms (st.boxes.length + 1) 0 n) = some l := by
  subst h
  have hg : (st.boxes ++ [z] ++ [l.map PV.b8])[st.boxes.length + 1]? = some (l.map PV.b8) := by
    rw [List.getElem?_append_right (by simp)]; simp
  simp only [b2s, if_true, src8, bst2, hg]
  rw [if_pos (by simp), List.drop_zero, List.take_of_length_le (by simp), bytesOf_map]
theorem Kept.bst2 {z : List PV} {l : Bs} : Kept st (bst2 st z l) := by
  have := (Kept.box1 (st := st) (z := z)).alloc (z := l.map PV.b8)
  exact this

set_option maxHeartbeats 1000000 in
theorem Normal_spec {a : Adr} (h : okA a) : call prog (.fn 113 []) [aV a] st = some (.str (normalA a), st) := by
  refine call_of_W prog_113 ?_
  unfold F_addr_Normal; dsimp only
  obtain ⟨n, l, d⟩ := a
  have hn := h.n; have hl := h.l; have hd := h.d
  simp only at hn hl hd
  have hR := fun S : St => Right_spec (st := S) h
  simp only [aV] at hR
  cases hr : rightA (n, l, d) with
  | false =>
    rw [hr] at hR
    simp (maxSteps := 1000000) (disch := omega) only [aV, inB_a, all_a, allocPV, cells_agg, ld_aa, hR, abR, WO_consG3, guardV_bool, guardT_tt, guardT_ff, guardT_tf, guardT_ft, condW_imp, imp_tt, imp_ff, imp_tf, imp_ft, imp_F, imp_T, implies_true, Decidable.not_not, forall_const, and_self, Bool.not_eq_false', evOp, ↓reduceIte, Nat.reduceEqDiff, List.nil_append, List.cons_append, List.append_nil, List.map_cons, List.map_nil, Option.map_some, Option.map_none, Bool.not_eq_true', decide_eq_true_eq, decide_eq_false_iff_not, decide_true, decide_false, Int.toNat_natCast, Int.ofNat_lt, Int.ofNat_le, Int.natCast_inj, Bool.false_eq_true, Bool.true_eq_false, extPV, List.getElem?_cons_zero, List.getElem?_cons_succ, nilckPV, Int.reduceToNat, Int.reduceLE, true_and, and_true, reduceCtorEq, or_false, false_or, or_true, Option.some.injEq, exists_eq_left', Bool.not_true, Bool.not_false, ne_eq, Int.reduceEq, not_true_eq_false, not_false_eq_true, Int.reduceLT, UInt8.reduceLT, UInt8.reduceLE, UInt8.reduceToNat]
    exact retS rfl Kept.box1 (by simp [normalA, hr])
  | true =>
    rw [hr] at hR
    obtain ⟨s, hs⟩ : ∃ s, s = l ++ [64] ++ d := ⟨_, rfl⟩
    have hsl : s.length = l.length + 1 + d.length := by rw [hs]; simp <;> omega
    have ha1 : ∀ ek, binPV .add ek (.str l) (.str [64]) = some (.str (l ++ [64])) := fun ek => adds (by simp; omega)
    have ha2 : ∀ ek, binPV .add ek (.str (l ++ [64])) (.str d) = some (.str s) := fun ek => by rw [hs]; exact adds (by simp; omega)
    have hbl : (st.boxes ++ [cA n l d]).length = st.boxes.length + 1 := by simp
    have hbb : ({ boxes := st.boxes ++ [cA n l d] ++ [s.map PV.b8], toks := st.toks, loops := st.loops, low := st.boxes.length } : St) = bst2 st (cA n l d) s := rfl
    simp (maxSteps := 1000000) (disch := omega) only [aV, inB_a, all_a, allocPV, cells_agg, ld_aa, hR, faP, Nat.zero_add, ld_a1, ld_a2, ha1, ha2, hbl, hbb, len_ms, abR, WO_consG3, guardV_bool, guardT_tt, guardT_ff, guardT_tf, guardT_ft, condW_imp, imp_tt, imp_ff, imp_tf, imp_ft, imp_F, imp_T, implies_true, Decidable.not_not, forall_const, and_self, Bool.not_eq_false', evOp, ↓reduceIte, Nat.reduceEqDiff, List.nil_append, List.cons_append, List.append_nil, List.map_cons, List.map_nil, Option.map_some, Option.map_none, Bool.not_eq_true', decide_eq_true_eq, decide_eq_false_iff_not, decide_true, decide_false, Int.toNat_natCast, Int.ofNat_lt, Int.ofNat_le, Int.natCast_inj, Bool.false_eq_true, Bool.true_eq_false, extPV, List.getElem?_cons_zero, List.getElem?_cons_succ, nilckPV, Int.reduceToNat, Int.reduceLE, true_and, and_true, reduceCtorEq, or_false, false_or, or_true, Option.some.injEq, exists_eq_left', Bool.not_true, Bool.not_false, ne_eq, Int.reduceEq, not_true_eq_false, not_false_eq_true, Int.reduceLT, UInt8.reduceLT, UInt8.reduceLE, UInt8.reduceToNat]
    obtain ⟨I, hI⟩ : ∃ I : Nat → Env → St → Prop, I = fun n' e s' => ∃ (i : Nat) (m : Bs), n' = s.length - i ∧ i ≤ s.length ∧ m = lowOf (s.take i) ++ s.drop i ∧ s' = bst2 st (cA n l d) m ∧ e 3 = .ms (st.boxes.length + 1) 0 s.length ∧ e 16 = .ms (st.boxes.length + 1) 0 s.length ∧ e 17 = .int .i64 (s.length : Int) ∧ e 18 = .int .i64 (i : Int) := ⟨_, rfl⟩
    refine W_loop I ?_ (n := s.length) (by
      rw [hI]
      exact ⟨0, s, rfl, by omega, by simp [lowOf], rfl, rfl, rfl, rfl, rfl⟩)
    intro n' e s' hh
    rw [hI] at hh
    obtain ⟨i, m, rfl, hi, hm, rfl, h3, h16, h17, h18⟩ := hh
    have hml : m.length = s.length := by rw [hm]; simp [lowOf]; omega
    by_cases hlt : i < s.length
    · obtain ⟨c, hc⟩ : ∃ c, c = s.getD i 0 := ⟨_, rfl⟩
      have hlc : m.getD i 0 = c := by
        rw [hm, hc]
        simp only [List.getD]
        rw [List.getElem?_append_right (by simp [lowOf]; omega)]
        simp [lowOf, Nat.min_eq_left hi]
      have hnext : ∀ (E : Env) (m' : Bs), m' = m.set i (lowC c) → E 3 = .ms (st.boxes.length + 1) 0 s.length → E 16 = .ms (st.boxes.length + 1) 0 s.length → E 17 = .int .i64 (s.length : Int) → E 18 = .int .i64 ((i + 1 : Nat) : Int) → ∃ k, k < s.length - i ∧ I k E (bst2 st (cA n l d) m') := by
        intro E m' k0 k1 k2 k3 k4
        refine ⟨s.length - (i + 1), by omega, ?_⟩
        rw [hI]
        refine ⟨i + 1, m', rfl, by omega, ?_, rfl, k1, k2, k3, k4⟩
        rw [k0, hm, take_getD hlt, ← hc, drop_getD hlt]
        have hn : (lowOf (s.take i)).length = i := by simp [lowOf]; omega
        rw [List.set_append_right _ _ (by omega), hn]
        simp [lowOf]
      have hsm : m.set i c = m := by
        rw [← hlc, List.getD, List.getElem?_eq_getElem (by omega)]; simp
      simp (maxSteps := 1000000) (disch := omega) only [h3, h16, h17, h18, hlt, iaddr_ms, load_bst2 (st := st) (l := m) (i := i) (by omega), hlc, add_8, store_bst2 (st := st) (l := m) (i := i) (by omega), add_n, loopQ_normal, abR, WO_consG3, guardV_bool, guardT_tt, guardT_ff, guardT_tf, guardT_ft, condW_imp, imp_tt, imp_ff, imp_tf, imp_ft, imp_F, imp_T, implies_true, Decidable.not_not, forall_const, and_self, Bool.not_eq_false', evOp, ↓reduceIte, Nat.reduceEqDiff, List.nil_append, List.cons_append, List.append_nil, List.map_cons, List.map_nil, Option.map_some, Option.map_none, Bool.not_eq_true', decide_eq_true_eq, decide_eq_false_iff_not, decide_true, decide_false, Int.toNat_natCast, Int.ofNat_lt, Int.ofNat_le, Int.natCast_inj, Bool.false_eq_true, Bool.true_eq_false, extPV, List.getElem?_cons_zero, List.getElem?_cons_succ, nilckPV, Int.reduceToNat, Int.reduceLE, true_and, and_true, reduceCtorEq, or_false, false_or, or_true, Option.some.injEq, exists_eq_left', Bool.not_true, Bool.not_false, ne_eq, Int.reduceEq, not_true_eq_false, not_false_eq_true, Int.reduceLT, UInt8.reduceLT, UInt8.reduceLE, UInt8.reduceToNat]
      clear hI hm hlc hc
      refine ⟨fun q1 => ⟨fun q2 => ?_, fun q2 => ?_⟩, fun q1 => ?_⟩
      · exact hnext _ (m.set i (c + 32)) (by rw [lowC, if_pos ⟨q1, q2⟩]) h3 h16 h17 rfl
      · exact hnext _ m (by rw [lowC, if_neg (fun h => q2 h.2), hsm]) h3 h16 h17 rfl
      · exact hnext _ m (by rw [lowC, if_neg (fun h => q1 h.1), hsm]) h3 h16 h17 rfl
    · obtain rfl : i = s.length := by omega
      have hml2 : s.length = m.length := hml.symm
      simp (maxSteps := 1000000) (disch := omega) only [h3, h16, h17, h18, hlt, b2s_bst2 (st := st) (l := m) hml2, abR, WO_consG3, guardV_bool, guardT_tt, guardT_ff, guardT_tf, guardT_ft, condW_imp, imp_tt, imp_ff, imp_tf, imp_ft, imp_F, imp_T, implies_true, Decidable.not_not, forall_const, and_self, Bool.not_eq_false', evOp, ↓reduceIte, Nat.reduceEqDiff, List.nil_append, List.cons_append, List.append_nil, List.map_cons, List.map_nil, Option.map_some, Option.map_none, Bool.not_eq_true', decide_eq_true_eq, decide_eq_false_iff_not, decide_true, decide_false, Int.toNat_natCast, Int.ofNat_lt, Int.ofNat_le, Int.natCast_inj, Bool.false_eq_true, Bool.true_eq_false, extPV, List.getElem?_cons_zero, List.getElem?_cons_succ, nilckPV, Int.reduceToNat, Int.reduceLE, true_and, and_true, reduceCtorEq, or_false, false_or, or_true, Option.some.injEq, exists_eq_left', Bool.not_true, Bool.not_false, ne_eq, Int.reduceEq, not_true_eq_false, not_false_eq_true, Int.reduceLT, UInt8.reduceLT, UInt8.reduceLE, UInt8.reduceToNat]
      refine retS rfl Kept.bst2 ?_
      rw [hm, List.take_length, List.drop_length, List.append_nil, hs]
      simp [normalA, hr, atA]

theorem Plain_spec {s : Bs} (h : s.length ≤ 100000000) : call prog (.fn 115 []) [.str s] st = some (.tup [aV (plainA s).1, .int .i64 (plainA s).2], st) := by
  refine call_of_W prog_115 ?_
  unfold F_addr_Plain; dsimp only
  have hcut : ∀ S : St, call prog (.fn 128 []) [.str s, .str [64]] S = some (cutAt s [64], S) := fun S => Cut_spec (by omega) (by simp)
  obtain ⟨a, ha⟩ : ∃ a, a = cutA s := ⟨_, rfl⟩
  obtain ⟨t, hct⟩ : ∃ t, cutAt s [64] = .tup [.str a.2.1, .str a.2.2, .bool t] := by
    rw [ha]
    unfold cutAt cutA
    split
    · exact ⟨true, rfl⟩
    · exact ⟨false, rfl⟩
  have ha1 : a.1 = [] := by rw [ha]; unfold cutA; split <;> rfl
  have hok : okA a := by
    rw [ha]
    unfold cutA
    split
    · exact ⟨by simp, by simp; omega, by simp; omega⟩
    · exact ⟨by simp, h, by simp⟩
  rw [hct] at hcut
  obtain ⟨n, l, d⟩ := a
  simp only at ha1 hcut
  subst ha1
  have hR := fun S : St => Right_spec (st := S) hok
  simp only [aV] at hR
  have hbuild : buildCells [.str [], .str [], .str []] [(1, 1, .str l), (2, 1, .str d)] = some (cA [] l d) := rfl
  have hb0 : buildCells [.str [], .str [], .str []] [] = some (cA [] [] []) := rfl
  have hlen1 : (st.boxes ++ [cA [] [] []]).length = st.boxes.length + 1 := by simp
  have hs2 : ∀ T L lo, storePV ⟨st.boxes ++ [cA [] [] []] ++ [cA [] [] []], T, L, lo⟩ 3 (.ptr (st.boxes.length + 1) 0) (.agg (cA [] l d)) = some ⟨st.boxes ++ [cA [] [] []] ++ [cA [] l d], T, L, lo⟩ := fun T L lo => by
    have := st_aa (B := st.boxes ++ [cA [] [] []]) (T := T) (L := L) (lo := lo) (a := []) (b := []) (c := []) (a' := []) (b' := l) (c' := d)
    rw [hlen1] at this; exact this
  have hl2 : ∀ x T L lo, loadPV ⟨st.boxes ++ [x] ++ [cA [] l d], T, L, lo⟩ true 3 (.ptr (st.boxes.length + 1) 0) = some (.agg (cA [] l d)) := fun x T L lo => by
    have := ld_aa (B := st.boxes ++ [x]) (T := T) (L := L) (lo := lo) (a := []) (b := l) (c := d)
    simpa using this
  have hs0 : ∀ (x y z : Bs) (w : List PV) T L lo, storePV ⟨st.boxes ++ [cA [] [] []] ++ [w], T, L, lo⟩ 3 (.ptr st.boxes.length 0) (.agg (cA x y z)) = some ⟨st.boxes ++ [cA x y z] ++ [w], T, L, lo⟩ := fun x y z w T L lo => by
    simp [storePV, PV.cells, PV.inB, PV.inB.inBAll, setCells, hasTok, tokOf, leafOk]
  have fin : ∀ (E : Env) (x y z : Bs) (w : List PV) (c : Int), E 2 = .ptr st.boxes.length 0 → E 3 = .int .i64 c → plainA s = ((x, y, z), c) →
      ∃ rv, resOf E ⟨st.boxes ++ [cA x y z] ++ [w], st.toks, st.loops, st.boxes.length⟩ [.cell 2 true 3, .tmp 3] = some rv ∧ leave st ⟨st.boxes ++ [cA x y z] ++ [w], st.toks, st.loops, st.boxes.length⟩ rv = (.tup [aV (plainA s).1, .int .i64 (plainA s).2], st) := by
    intro E x y z w c k2 k3 hp
    have hk : Kept st ⟨st.boxes ++ [cA x y z] ++ [w], st.toks, st.loops, st.boxes.length⟩ := (Kept.box1 (st := st) (z := cA x y z)).alloc
    refine ⟨.tup [.agg (cA x y z), .int .i64 c], ?_, ?_⟩
    · simp [resOf, rvAll, rv1, k2, k3, loadPV, readCells, notTup, packRes]
    · rw [hp]; exact hk.leave rfl (fun _ _ => rfl)
  cases hr : rightA ([], l, d) with
  | true =>
    rw [hr] at hR
    simp (maxSteps := 1000000) (disch := omega) only [allocPV, hcut, hbuild, hlen1, hs2, hl2, hR, hs0, abR, WO_consG3, guardV_bool, guardT_tt, guardT_ff, guardT_tf, guardT_ft, condW_imp, imp_tt, imp_ff, imp_tf, imp_ft, imp_F, imp_T, implies_true, Decidable.not_not, forall_const, and_self, Bool.not_eq_false', evOp, ↓reduceIte, Nat.reduceEqDiff, List.nil_append, List.cons_append, List.append_nil, List.map_cons, List.map_nil, Option.map_some, Option.map_none, Bool.not_eq_true', decide_eq_true_eq, decide_eq_false_iff_not, decide_true, decide_false, Int.toNat_natCast, Int.ofNat_lt, Int.ofNat_le, Int.natCast_inj, Bool.false_eq_true, Bool.true_eq_false, extPV, List.getElem?_cons_zero, List.getElem?_cons_succ, nilckPV, Int.reduceToNat, Int.reduceLE, true_and, and_true, reduceCtorEq, or_false, false_or, or_true, Option.some.injEq, exists_eq_left', Bool.not_true, Bool.not_false, ne_eq, Int.reduceEq, not_true_eq_false, not_false_eq_true, Int.reduceLT, UInt8.reduceLT, UInt8.reduceLE, UInt8.reduceToNat]
    exact fin _ [] l d _ 0 rfl rfl (by simp [plainA, ← ha, hr])
  | false =>
    rw [hr] at hR
    simp (maxSteps := 1000000) (disch := omega) only [allocPV, hcut, hbuild, hb0, hlen1, hs2, hl2, hR, hs0, abR, WO_consG3, guardV_bool, guardT_tt, guardT_ff, guardT_tf, guardT_ft, condW_imp, imp_tt, imp_ff, imp_tf, imp_ft, imp_F, imp_T, implies_true, Decidable.not_not, forall_const, and_self, Bool.not_eq_false', evOp, ↓reduceIte, Nat.reduceEqDiff, List.nil_append, List.cons_append, List.append_nil, List.map_cons, List.map_nil, Option.map_some, Option.map_none, Bool.not_eq_true', decide_eq_true_eq, decide_eq_false_iff_not, decide_true, decide_false, Int.toNat_natCast, Int.ofNat_lt, Int.ofNat_le, Int.natCast_inj, Bool.false_eq_true, Bool.true_eq_false, extPV, List.getElem?_cons_zero, List.getElem?_cons_succ, nilckPV, Int.reduceToNat, Int.reduceLE, true_and, and_true, reduceCtorEq, or_false, false_or, or_true, Option.some.injEq, exists_eq_left', Bool.not_true, Bool.not_false, ne_eq, Int.reduceEq, not_true_eq_false, not_false_eq_true, Int.reduceLT, UInt8.reduceLT, UInt8.reduceLE, UInt8.reduceToNat]
    exact fin _ [] [] [] _ 60 rfl rfl (by simp [plainA, ← ha, hr, noA])
end Go.Ab

/-
  Layer 20: what must come of fixed calls; weekdays.
-/
namespace Go.Ab
set_option linter.unusedVariables false
set_option linter.unusedSimpArgs false
set_option maxRecDepth 20000
variable {st s : St} {e : Env}

theorem al20_0 : evV prog 400 (.fn 260 []) [] ⟨[], [], [], 0⟩ = some (.bool true, ⟨[], [], [], 0⟩) := by kernel_rfl

theorem retV2 {a b : Nat} {v w : PV} (ha : e a = v) (hb : e b = w) (h1 : notTup v = true) (h2 : notTup w = true) (hk : Kept st s) (hf : Flat (.tup [v, w])) : ∃ rv, resOf e s [.tmp a, .tmp b] = some rv ∧ leave st s rv = (.tup [v, w], st) :=
  ⟨.tup [v, w], by simp [resOf, rvAll, rv1, ha, hb, h1, h2, packRes], hk.leave' hf⟩
theorem retII {a b : Nat} {k l : IntKind} {t u : Int} {n m : Int} (ha : e a = .int k t) (hb : e b = .int l n) (hk : Kept st s) (h1 : t = u) (h2 : n = m) : ∃ rv, resOf e s [.tmp a, .tmp b] = some rv ∧ leave st s rv = (.tup [.int k u, .int l m], st) := by
  subst h1 h2; exact retV2 ha hb rfl rfl hk ⟨fun _ => rfl, fun _ _ => rfl⟩
theorem retTI {a b : Nat} {t u : Bs} {n m : Int} (ha : e a = .str t) (hb : e b = .int .i64 n) (hk : Kept st s) (h1 : t = u) (h2 : n = m) : ∃ rv, resOf e s [.tmp a, .tmp b] = some rv ∧ leave st s rv = (.tup [.str u, .int .i64 m], st) := by
  subst h1 h2; exact retV2 ha hb rfl rfl hk ⟨fun _ => rfl, fun _ _ => rfl⟩

/-- A day's weekday. -/
def wkOf (d : Int) : Int × Int := if d < 0 ∨ 2932896 < d then (0, 110) else ((d + 3) % 7, 0)
theorem rem_i {k : IntKind} {ek : EK} {a : Int} {c : Int} (h : c ≠ 0) : binPV .rem ek (.int k a) (.int k c) = some (.int k (a.tmod c)) := by simp [binPV, binI, h]
theorem quo_i {ek : EK} {a : Int} {c : Int} (h : 0 < c) (h1 : -9223372036854775808 < a) (h2 : a < 9223372036854775808) : binPV .quo ek (.int .i64 a) (.int .i64 c) = some (.int .i64 (a.tdiv c)) := by
  have h3 : c ≠ 0 := by omega
  simp only [binPV, binI, reduceIte, h3, Option.some.injEq]
  have : (a.tdiv c).natAbs ≤ a.natAbs := by rw [Int.natAbs_tdiv]; exact Nat.div_le_self _ _
  rw [wrap64 (by omega) (by omega)]

theorem Weekday_spec {d : Int} : call prog (.fn 258 []) [.int .i64 d] st = some (.tup [.int .i64 (wkOf d).1, .int .i64 (wkOf d).2], st) := by
  refine call_of_W prog_258 ?_
  unfold F_date_Weekday; dsimp only
  by_cases h : d < 0 ∨ 2932896 < d
  · have e1 : wkOf d = (0, 110) := by simp [wkOf, h]
    rw [e1]
    by_cases h1 : d < 0
    · simp (maxSteps := 1000000) (disch := omega) only [h1, abR, WO_consG, wantedA_eq, wantB, evOp, ↓reduceIte, Nat.reduceEqDiff, List.nil_append, List.cons_append, List.append_nil, List.map_cons, List.map_nil, Option.map_some, Option.map_none, condW_bool, Bool.not_eq_true', decide_eq_true_eq, decide_eq_false_iff_not, decide_true, decide_false, Int.toNat_natCast, Int.ofNat_lt, Int.ofNat_le, Int.natCast_inj, Bool.false_eq_true, Bool.true_eq_false, extPV, List.getElem?_cons_zero, List.getElem?_cons_succ, nilckPV, Int.reduceToNat, Int.reduceLE, true_and, and_true, reduceCtorEq, or_false, false_or, or_true, Option.some.injEq, exists_eq_left', Bool.not_true, Bool.not_false, ne_eq, Int.reduceEq, not_true_eq_false, not_false_eq_true, Int.reduceLT, UInt8.reduceLT, UInt8.reduceLE, UInt8.reduceToNat]
      exact retII rfl rfl Kept.start rfl rfl
    · have h2 : 2932896 < d := by omega
      simp (maxSteps := 1000000) (disch := omega) only [h1, h2, abR, WO_consG, wantedA_eq, wantB, evOp, ↓reduceIte, Nat.reduceEqDiff, List.nil_append, List.cons_append, List.append_nil, List.map_cons, List.map_nil, Option.map_some, Option.map_none, condW_bool, Bool.not_eq_true', decide_eq_true_eq, decide_eq_false_iff_not, decide_true, decide_false, Int.toNat_natCast, Int.ofNat_lt, Int.ofNat_le, Int.natCast_inj, Bool.false_eq_true, Bool.true_eq_false, extPV, List.getElem?_cons_zero, List.getElem?_cons_succ, nilckPV, Int.reduceToNat, Int.reduceLE, true_and, and_true, reduceCtorEq, or_false, false_or, or_true, Option.some.injEq, exists_eq_left', Bool.not_true, Bool.not_false, ne_eq, Int.reduceEq, not_true_eq_false, not_false_eq_true, Int.reduceLT, UInt8.reduceLT, UInt8.reduceLE, UInt8.reduceToNat]
      exact retII rfl rfl Kept.start rfl rfl
  · have e1 : wkOf d = ((d + 3) % 7, 0) := by simp [wkOf, h]
    rw [e1]
    have h1 : ¬ d < 0 := by omega
    have h2 : ¬ 2932896 < d := by omega
    simp (maxSteps := 1000000) (disch := omega) only [h1, h2, add_i, rem_i, Int.tmod_eq_emod_of_nonneg (show 0 ≤ d + 3 by omega), abR, WO_consG, wantedA_eq, wantB, evOp, ↓reduceIte, Nat.reduceEqDiff, List.nil_append, List.cons_append, List.append_nil, List.map_cons, List.map_nil, Option.map_some, Option.map_none, condW_bool, Bool.not_eq_true', decide_eq_true_eq, decide_eq_false_iff_not, decide_true, decide_false, Int.toNat_natCast, Int.ofNat_lt, Int.ofNat_le, Int.natCast_inj, Bool.false_eq_true, Bool.true_eq_false, extPV, List.getElem?_cons_zero, List.getElem?_cons_succ, nilckPV, Int.reduceToNat, Int.reduceLE, true_and, and_true, reduceCtorEq, or_false, false_or, or_true, Option.some.injEq, exists_eq_left', Bool.not_true, Bool.not_false, ne_eq, Int.reduceEq, not_true_eq_false, not_false_eq_true, Int.reduceLT, UInt8.reduceLT, UInt8.reduceLE, UInt8.reduceToNat]
    exact retII rfl rfl Kept.start rfl rfl

set_option maxHeartbeats 1000000 in
theorem law_DateWeeks {d : Int} : ∃ s', call prog (.fn 273 []) [.int .i64 d] ⟨[], [], [], 0⟩ = some (.bool true, s') := by
  refine law_of_W prog_273 rfl ?_
  unfold F_posthornlaw20_DateWeeks; dsimp only
  have hA := call_of al20_0
  by_cases h1 : d < 7
  · simp (maxSteps := 1000000) (disch := omega) only [h1, hA, List.length_nil, abR, WO_consG, wantedA_eq, wantB, evOp, ↓reduceIte, Nat.reduceEqDiff, List.nil_append, List.cons_append, List.append_nil, List.map_cons, List.map_nil, Option.map_some, Option.map_none, condW_bool, Bool.not_eq_true', decide_eq_true_eq, decide_eq_false_iff_not, decide_true, decide_false, Int.toNat_natCast, Int.ofNat_lt, Int.ofNat_le, Int.natCast_inj, Bool.false_eq_true, Bool.true_eq_false, extPV, List.getElem?_cons_zero, List.getElem?_cons_succ, nilckPV, Int.reduceToNat, Int.reduceLE, true_and, and_true, reduceCtorEq, or_false, false_or, or_true, Option.some.injEq, exists_eq_left', Bool.not_true, Bool.not_false, ne_eq, Int.reduceEq, not_true_eq_false, not_false_eq_true, Int.reduceLT, UInt8.reduceLT, UInt8.reduceLE, UInt8.reduceToNat]
  · by_cases h2 : 2932896 < d
    · simp (maxSteps := 1000000) (disch := omega) only [h1, h2, hA, List.length_nil, abR, WO_consG, wantedA_eq, wantB, evOp, ↓reduceIte, Nat.reduceEqDiff, List.nil_append, List.cons_append, List.append_nil, List.map_cons, List.map_nil, Option.map_some, Option.map_none, condW_bool, Bool.not_eq_true', decide_eq_true_eq, decide_eq_false_iff_not, decide_true, decide_false, Int.toNat_natCast, Int.ofNat_lt, Int.ofNat_le, Int.natCast_inj, Bool.false_eq_true, Bool.true_eq_false, extPV, List.getElem?_cons_zero, List.getElem?_cons_succ, nilckPV, Int.reduceToNat, Int.reduceLE, true_and, and_true, reduceCtorEq, or_false, false_or, or_true, Option.some.injEq, exists_eq_left', Bool.not_true, Bool.not_false, ne_eq, Int.reduceEq, not_true_eq_false, not_false_eq_true, Int.reduceLT, UInt8.reduceLT, UInt8.reduceLE, UInt8.reduceToNat]
    · have w0 := fun S : St => Weekday_spec (st := S) (d := d)
      have w1 := fun S : St => Weekday_spec (st := S) (d := d - 1)
      have w7 := fun S : St => Weekday_spec (st := S) (d := d - 7)
      rw [show wkOf d = ((d + 3) % 7, 0) by unfold wkOf; rw [if_neg (by omega)]] at w0
      rw [show wkOf (d - 1) = ((d - 1 + 3) % 7, 0) by unfold wkOf; rw [if_neg (by omega)]] at w1
      rw [show wkOf (d - 7) = ((d - 7 + 3) % 7, 0) by unfold wkOf; rw [if_neg (by omega)]] at w7
      have e1 : (d + 3) % 7 = (d - 7 + 3) % 7 := by omega
      have e2 : (d + 3) % 7 = ((d - 1 + 3) % 7 + 1) % 7 := by omega
      have e3 : 0 ≤ (d + 3) % 7 := by omega
      have e4 : (d + 3) % 7 < 7 := by omega
      have e5 : 0 ≤ (d - 1 + 3) % 7 + 1 := by omega
      simp (maxSteps := 1000000) (disch := omega) only [h1, h2, hA, List.length_nil, w0, w1, w7, add_i, sub_i, rem_i, Int.tmod_eq_emod_of_nonneg e5, eq_true e1, eq_true e2, eq_true e3, eq_true e4, abR, WO_consG, wantedA_eq, wantB, evOp, ↓reduceIte, Nat.reduceEqDiff, List.nil_append, List.cons_append, List.append_nil, List.map_cons, List.map_nil, Option.map_some, Option.map_none, condW_bool, Bool.not_eq_true', decide_eq_true_eq, decide_eq_false_iff_not, decide_true, decide_false, Int.toNat_natCast, Int.ofNat_lt, Int.ofNat_le, Int.natCast_inj, Bool.false_eq_true, Bool.true_eq_false, extPV, List.getElem?_cons_zero, List.getElem?_cons_succ, nilckPV, Int.reduceToNat, Int.reduceLE, true_and, and_true, reduceCtorEq, or_false, false_or, or_true, Option.some.injEq, exists_eq_left', Bool.not_true, Bool.not_false, ne_eq, Int.reduceEq, not_true_eq_false, not_false_eq_true, Int.reduceLT, UInt8.reduceLT, UInt8.reduceLE, UInt8.reduceToNat]
end Go.Ab

/-
  Ids are written.
-/
namespace Go.Ab
set_option linter.unusedVariables false
set_option linter.unusedSimpArgs false
set_option maxRecDepth 20000
variable {st s : St} {e : Env}

theorem wrapU {n : Int} (h1 : 0 ≤ n) (h2 : n < 18446744073709551616) : IntKind.u64.wrap n = n := by
  unfold IntKind.wrap
  simp only [IntKind.signed, IntKind.bits]
  simp
  omega
theorem and31 {ek : EK} {m : Nat} (h : m < 18446744073709551616) : binPV .and ek (.int .u64 (m : Int)) (.int .u64 31) = some (.int .u64 ((m % 32 : Nat) : Int)) := by
  simp only [binPV, binI, reduceIte, Option.some.injEq]
  have e1 : (BitVec.ofInt IntKind.u64.bits (m : Int) &&& BitVec.ofInt IntKind.u64.bits 31).toNat = m % 32 := by
    rw [BitVec.toNat_and]
    have a1 : (BitVec.ofInt IntKind.u64.bits (m : Int)).toNat = m := by
      simp only [IntKind.bits, BitVec.ofInt_natCast, BitVec.toNat_ofNat]
      exact Nat.mod_eq_of_lt h
    have a2 : (BitVec.ofInt IntKind.u64.bits 31).toNat = 31 := by decide
    rw [a1, a2]
    exact Nat.and_two_pow_sub_one_eq_mod m 5
  rw [e1, wrapU (by omega) (by omega)]
theorem shr5 {ek : EK} {m : Nat} (h : m < 18446744073709551616) : binPV .shr ek (.int .u64 (m : Int)) (.int .u64 5) = some (.int .u64 ((m / 32 : Nat) : Int)) := by
  have e1 : (m : Int).fdiv (2 ^ (min (5 : Int).toNat IntKind.u64.bits)) = ((m / 32 : Nat) : Int) := by
    rw [show (2 : Int) ^ (min (5 : Int).toNat IntKind.u64.bits) = 32 by decide]
    rw [Int.fdiv_eq_ediv_of_nonneg _ (by decide)]; omega
  simp only [binPV, shI, e1]
  rfl
theorem addU {ek : EK} {a : Nat} {c : Int} (h1 : 0 ≤ c) (h2 : a + c.toNat < 18446744073709551616) : binPV .add ek (.int .u64 (a : Int)) (.int .u64 c) = some (.int .u64 ((a + c.toNat : Nat) : Int)) := by
  simp only [binPV, binI, reduceIte, Option.some.injEq]
  rw [wrapU (by omega) (by omega)]
  congr 1; omega
def sgT : Bs := [48, 49, 50, 51, 52, 53, 54, 55, 56, 57, 97, 98, 99, 100, 101, 102, 103, 104, 105, 106, 107, 108, 109, 110, 111, 112, 113, 114, 115, 116, 117, 118]
theorem sgT_at {m : Nat} (h : m < 32) : slcPV 0 (.str sgT) (some (.int .u64 (m : Int))) (some (.int .u64 ((m + 1 : Nat) : Int))) none = some (.str [sgC m]) := by
  rw [slc_s (by omega) (by omega) (by simp [sgT]; omega)]
  have := List.all_eq_true.1 (show (List.range 32).all (fun m => (sgT.take (m + 1)).drop m == [sgC m]) = true by kernel_rfl) m (List.mem_range.2 h)
  simp only [beq_iff_eq] at this
  simp only [Int.toNat_natCast, this]

theorem five_spec {n : Nat} (hn : n < 9223372036854775808) : call prog (.fn 303 []) [.int .u64 (n : Int)] st = some (.str (sg32 n), st) := by
  refine call_of_W prog_303 ?_
  unfold F_date_five; dsimp only
  have hlen := sg_len 12 n (Nat.lt_of_lt_of_le hn (by decide))
  rw [show ([48, 49, 50, 51, 52, 53, 54, 55, 56, 57, 97, 98, 99, 100, 101, 102, 103, 104, 105, 106, 107, 108, 109, 110, 111, 112, 113, 114, 115, 116, 117, 118] : List UInt8) = sgT from rfl]
  simp (maxSteps := 1000000) (disch := omega) only [abR, WO_consG3, guardV_bool, guardT_tt, guardT_ff, guardT_tf, guardT_ft, condW_imp, imp_tt, imp_ff, imp_tf, imp_ft, imp_F, imp_T, implies_true, Decidable.not_not, forall_const, and_self, Bool.not_eq_false', evOp, ↓reduceIte, Nat.reduceEqDiff, List.nil_append, List.cons_append, List.append_nil, List.map_cons, List.map_nil, Option.map_some, Option.map_none, Bool.not_eq_true', decide_eq_true_eq, decide_eq_false_iff_not, decide_true, decide_false, Int.toNat_natCast, Int.ofNat_lt, Int.ofNat_le, Int.natCast_inj, Bool.false_eq_true, Bool.true_eq_false, extPV, List.getElem?_cons_zero, List.getElem?_cons_succ, nilckPV, Int.reduceToNat, Int.reduceLE, true_and, and_true, reduceCtorEq, or_false, false_or, or_true, Option.some.injEq, exists_eq_left', Bool.not_true, Bool.not_false, ne_eq, Int.reduceEq, not_true_eq_false, not_false_eq_true, Int.reduceLT, UInt8.reduceLT, UInt8.reduceLE, UInt8.reduceToNat]
  obtain ⟨I, hI⟩ : ∃ I : Nat → Env → St → Prop, I = fun k e s' => ∃ (acc : Bs), k ≤ n ∧ Kept st s' ∧ sg32 n = sg32 k ++ acc ∧ e 0 = .int .u64 (k : Int) ∧ e 3 = .str acc := ⟨_, rfl⟩
  refine W_loop I ?_ (n := n) (by
    rw [hI]
    exact ⟨[], Nat.le_refl _, Kept.start, by simp, rfl, rfl⟩)
  intro k e s' hh
  rw [hI] at hh
  obtain ⟨acc, hk, hke, hsg, h0, h3⟩ := hh
  have hl2 : acc.length ≤ 13 := by have := congrArg List.length hsg; simp at this; omega
  have hs := @sgT_at (k % 32) (Nat.mod_lt _ (by omega))
  have hone : ([sgC (k % 32)] : Bs).length = 1 := rfl
  have hz : ((k / 32 : Nat) : Int) = 0 ↔ k / 32 = 0 := by omega
  have fin : k / 32 = 0 → ∀ E : Env, E 2 = .str ([sgC (k % 32)] ++ acc) → ∃ rv, resOf E s' [.tmp 2] = some rv ∧ leave st s' rv = (.str (sg32 n), st) := fun h E k2 =>
    retS k2 hke (by rw [hsg, sg_lt (show k < 32 by omega), show k % 32 = k by omega])
  have next : ¬ k / 32 = 0 → ∀ E : Env, E 0 = .int .u64 ((k / 32 : Nat) : Int) → E 3 = .str ([sgC (k % 32)] ++ acc) → ∃ m, m < k ∧ I m E s' := fun h E k0 k3 =>
    ⟨k / 32, by omega, by
      rw [hI]
      exact ⟨_, by omega, hke, by rw [hsg, sg_ge (show ¬ k < 32 by omega)]; simp, k0, k3⟩⟩
  clear hI
  simp (maxSteps := 1000000) (disch := omega) only [h0, h3, and31, addU, shr5, Int.toNat_one, hs, adds, hone, hz, loopQ_normal, abR, WO_consG3, guardV_bool, guardT_tt, guardT_ff, guardT_tf, guardT_ft, condW_imp, imp_tt, imp_ff, imp_tf, imp_ft, imp_F, imp_T, implies_true, Decidable.not_not, forall_const, and_self, Bool.not_eq_false', evOp, ↓reduceIte, Nat.reduceEqDiff, List.nil_append, List.cons_append, List.append_nil, List.map_cons, List.map_nil, Option.map_some, Option.map_none, Bool.not_eq_true', decide_eq_true_eq, decide_eq_false_iff_not, decide_true, decide_false, Int.toNat_natCast, Int.ofNat_lt, Int.ofNat_le, Int.natCast_inj, Bool.false_eq_true, Bool.true_eq_false, extPV, List.getElem?_cons_zero, List.getElem?_cons_succ, nilckPV, Int.reduceToNat, Int.reduceLE, true_and, and_true, reduceCtorEq, or_false, false_or, or_true, Option.some.injEq, exists_eq_left', Bool.not_true, Bool.not_false, ne_eq, Int.reduceEq, not_true_eq_false, not_false_eq_true, Int.reduceLT, UInt8.reduceLT, UInt8.reduceLE, UInt8.reduceToNat]
  refine And.intro (fun q => ?_) (fun q => ?_)
  · exact fin q _ rfl
  · exact next q _ rfl rfl

theorem isDomain_spec {d : Bs} (h : d.length ≤ 100000000) : call prog (.fn 302 []) [.str d] st = some (.bool (rightA ([], [120], d)), st) := by
  refine call_of_W prog_302 ?_
  unfold F_date_isDomain; dsimp only
  have hR := fun S : St => Right_spec (st := S) (a := ([], [120], d)) ⟨by simp, by simp, h⟩
  simp only [aV] at hR
  have hb : buildCells [.str [], .str [], .str []] [(1, 1, .str [120]), (2, 1, .str d)] = some [.str [], .str [120], .str d] := by
    simp [buildCells, PV.cells, setCells, leafOk]
  simp (maxSteps := 1000000) (disch := omega) only [hb, hR, abR, WO_consG, wantedA_eq, wantB, evOp, ↓reduceIte, Nat.reduceEqDiff, List.nil_append, List.cons_append, List.append_nil, List.map_cons, List.map_nil, Option.map_some, Option.map_none, condW_bool, Bool.not_eq_true', decide_eq_true_eq, decide_eq_false_iff_not, decide_true, decide_false, Int.toNat_natCast, Int.ofNat_lt, Int.ofNat_le, Int.natCast_inj, Bool.false_eq_true, Bool.true_eq_false, extPV, List.getElem?_cons_zero, List.getElem?_cons_succ, nilckPV, Int.reduceToNat, Int.reduceLE, true_and, and_true, reduceCtorEq, or_false, false_or, or_true, Option.some.injEq, exists_eq_left', Bool.not_true, Bool.not_false, ne_eq, Int.reduceEq, not_true_eq_false, not_false_eq_true, Int.reduceLT, UInt8.reduceLT, UInt8.reduceLE, UInt8.reduceToNat]
  exact retB rfl Kept.start rfl

theorem cU64 {n : Nat} (h : n < 9223372036854775808) : cIntPV .u64 (.int .i64 (n : Int)) = some (.int .u64 (n : Int)) := by
  simp only [cIntPV, Option.some.injEq]
  rw [wrapU (by omega) (by omega)]
theorem Right_w {t : Int} : call prog (.fn 199 []) [.int .i64 t] st = some (.bool (decide (0 ≤ t ∧ t ≤ 253402300799)), st) := by
  refine call_of_W prog_199 ?_
  unfold F_when_Right; dsimp only
  by_cases h1 : 0 ≤ t
  · by_cases h2 : t ≤ 253402300799
    · simp (maxSteps := 1000000) (disch := omega) only [h1, h2, abR, WO_consG, wantedA_eq, wantB, evOp, ↓reduceIte, Nat.reduceEqDiff, List.nil_append, List.cons_append, List.append_nil, List.map_cons, List.map_nil, Option.map_some, Option.map_none, condW_bool, Bool.not_eq_true', decide_eq_true_eq, decide_eq_false_iff_not, decide_true, decide_false, Int.toNat_natCast, Int.ofNat_lt, Int.ofNat_le, Int.natCast_inj, Bool.false_eq_true, Bool.true_eq_false, extPV, List.getElem?_cons_zero, List.getElem?_cons_succ, nilckPV, Int.reduceToNat, Int.reduceLE, true_and, and_true, reduceCtorEq, or_false, false_or, or_true, Option.some.injEq, exists_eq_left', Bool.not_true, Bool.not_false, ne_eq, Int.reduceEq, not_true_eq_false, not_false_eq_true, Int.reduceLT, UInt8.reduceLT, UInt8.reduceLE, UInt8.reduceToNat]
      exact retB rfl Kept.start (by simp [h1, h2])
    · simp (maxSteps := 1000000) (disch := omega) only [h1, h2, abR, WO_consG, wantedA_eq, wantB, evOp, ↓reduceIte, Nat.reduceEqDiff, List.nil_append, List.cons_append, List.append_nil, List.map_cons, List.map_nil, Option.map_some, Option.map_none, condW_bool, Bool.not_eq_true', decide_eq_true_eq, decide_eq_false_iff_not, decide_true, decide_false, Int.toNat_natCast, Int.ofNat_lt, Int.ofNat_le, Int.natCast_inj, Bool.false_eq_true, Bool.true_eq_false, extPV, List.getElem?_cons_zero, List.getElem?_cons_succ, nilckPV, Int.reduceToNat, Int.reduceLE, true_and, and_true, reduceCtorEq, or_false, false_or, or_true, Option.some.injEq, exists_eq_left', Bool.not_true, Bool.not_false, ne_eq, Int.reduceEq, not_true_eq_false, not_false_eq_true, Int.reduceLT, UInt8.reduceLT, UInt8.reduceLE, UInt8.reduceToNat]
      exact retB rfl Kept.start (by simp [h1, h2])
  · simp (maxSteps := 1000000) (disch := omega) only [h1, abR, WO_consG, wantedA_eq, wantB, evOp, ↓reduceIte, Nat.reduceEqDiff, List.nil_append, List.cons_append, List.append_nil, List.map_cons, List.map_nil, Option.map_some, Option.map_none, condW_bool, Bool.not_eq_true', decide_eq_true_eq, decide_eq_false_iff_not, decide_true, decide_false, Int.toNat_natCast, Int.ofNat_lt, Int.ofNat_le, Int.natCast_inj, Bool.false_eq_true, Bool.true_eq_false, extPV, List.getElem?_cons_zero, List.getElem?_cons_succ, nilckPV, Int.reduceToNat, Int.reduceLE, true_and, and_true, reduceCtorEq, or_false, false_or, or_true, Option.some.injEq, exists_eq_left', Bool.not_true, Bool.not_false, ne_eq, Int.reduceEq, not_true_eq_false, not_false_eq_true, Int.reduceLT, UInt8.reduceLT, UInt8.reduceLE, UInt8.reduceToNat]
    exact retB rfl Kept.start (by simp [h1])

def idV (t c : Int) (d : Bs) : Bs × Int := if (0 ≤ t ∧ t ≤ 253402300799) ∧ 0 ≤ c ∧ rightA ([], [120], d) = true then (idT t.toNat c.toNat d, 0) else ([], 1)
theorem ID_spec {t c : Int} {d : Bs} (h : d.length ≤ 100000000) (hc : c < 9223372036854775808) : call prog (.fn 265 []) [.int .i64 t, .int .i64 c, .str d] st = some (.tup [.str (idV t c d).1, .int .i64 (idV t c d).2], st) := by
  refine call_of_W prog_265 ?_
  unfold F_date_ID; dsimp only
  have hR := fun S : St => Right_w (st := S) (t := t)
  have hD := fun S : St => isDomain_spec (st := S) h
  by_cases h1 : 0 ≤ t ∧ t ≤ 253402300799
  · rw [show decide (0 ≤ t ∧ t ≤ 253402300799) = true from decide_eq_true h1] at hR
    by_cases h2 : c < 0
    · rw [show idV t c d = ([], 1) by unfold idV; rw [if_neg (by omega)]]
      simp (maxSteps := 1000000) (disch := omega) only [hR, h2, abR, WO_consG, wantedA_eq, wantB, evOp, ↓reduceIte, Nat.reduceEqDiff, List.nil_append, List.cons_append, List.append_nil, List.map_cons, List.map_nil, Option.map_some, Option.map_none, condW_bool, Bool.not_eq_true', decide_eq_true_eq, decide_eq_false_iff_not, decide_true, decide_false, Int.toNat_natCast, Int.ofNat_lt, Int.ofNat_le, Int.natCast_inj, Bool.false_eq_true, Bool.true_eq_false, extPV, List.getElem?_cons_zero, List.getElem?_cons_succ, nilckPV, Int.reduceToNat, Int.reduceLE, true_and, and_true, reduceCtorEq, or_false, false_or, or_true, Option.some.injEq, exists_eq_left', Bool.not_true, Bool.not_false, ne_eq, Int.reduceEq, not_true_eq_false, not_false_eq_true, Int.reduceLT, UInt8.reduceLT, UInt8.reduceLE, UInt8.reduceToNat]
      exact retTI rfl rfl Kept.start rfl rfl
    · cases h3 : rightA ([], [120], d) with
      | false =>
        rw [h3] at hD
        rw [show idV t c d = ([], 1) by unfold idV; rw [if_neg (by rw [h3]; simp)]]
        simp (maxSteps := 1000000) (disch := omega) only [hR, h2, hD, abR, WO_consG, wantedA_eq, wantB, evOp, ↓reduceIte, Nat.reduceEqDiff, List.nil_append, List.cons_append, List.append_nil, List.map_cons, List.map_nil, Option.map_some, Option.map_none, condW_bool, Bool.not_eq_true', decide_eq_true_eq, decide_eq_false_iff_not, decide_true, decide_false, Int.toNat_natCast, Int.ofNat_lt, Int.ofNat_le, Int.natCast_inj, Bool.false_eq_true, Bool.true_eq_false, extPV, List.getElem?_cons_zero, List.getElem?_cons_succ, nilckPV, Int.reduceToNat, Int.reduceLE, true_and, and_true, reduceCtorEq, or_false, false_or, or_true, Option.some.injEq, exists_eq_left', Bool.not_true, Bool.not_false, ne_eq, Int.reduceEq, not_true_eq_false, not_false_eq_true, Int.reduceLT, UInt8.reduceLT, UInt8.reduceLE, UInt8.reduceToNat]
        exact retTI rfl rfl Kept.start rfl rfl
      | true =>
        rw [h3] at hD
        rw [show idV t c d = (idT t.toNat c.toNat d, 0) by unfold idV; rw [if_pos ⟨h1, by omega, h3⟩]]
        obtain ⟨tn, rfl⟩ : ∃ n : Nat, t = (n : Int) := ⟨t.toNat, by omega⟩
        obtain ⟨cn, rfl⟩ : ∃ n : Nat, c = (n : Int) := ⟨c.toNat, by omega⟩
        have l1 := sg_len 12 tn (Nat.lt_of_lt_of_le (show tn < 9223372036854775808 by omega) (by decide))
        have l2 := sg_len 12 cn (Nat.lt_of_lt_of_le (show cn < 9223372036854775808 by omega) (by decide))
        simp (maxSteps := 1000000) (disch := first | omega | (simp only [List.length_append, List.length_cons, List.length_nil]; omega)) only [hR, h2, hD, cU64, five_spec, adds, abR, WO_consG, wantedA_eq, wantB, evOp, ↓reduceIte, Nat.reduceEqDiff, List.nil_append, List.cons_append, List.append_nil, List.map_cons, List.map_nil, Option.map_some, Option.map_none, condW_bool, Bool.not_eq_true', decide_eq_true_eq, decide_eq_false_iff_not, decide_true, decide_false, Int.toNat_natCast, Int.ofNat_lt, Int.ofNat_le, Int.natCast_inj, Bool.false_eq_true, Bool.true_eq_false, extPV, List.getElem?_cons_zero, List.getElem?_cons_succ, nilckPV, Int.reduceToNat, Int.reduceLE, true_and, and_true, reduceCtorEq, or_false, false_or, or_true, Option.some.injEq, exists_eq_left', Bool.not_true, Bool.not_false, ne_eq, Int.reduceEq, not_true_eq_false, not_false_eq_true, Int.reduceLT, UInt8.reduceLT, UInt8.reduceLE, UInt8.reduceToNat]
        exact retTI rfl rfl Kept.start (by simp [idT, locT]) rfl
  · rw [show decide (0 ≤ t ∧ t ≤ 253402300799) = false from decide_eq_false h1] at hR
    rw [show idV t c d = ([], 1) by unfold idV; rw [if_neg (fun q => h1 q.1)]]
    simp (maxSteps := 1000000) (disch := omega) only [hR, abR, WO_consG, wantedA_eq, wantB, evOp, ↓reduceIte, Nat.reduceEqDiff, List.nil_append, List.cons_append, List.append_nil, List.map_cons, List.map_nil, Option.map_some, Option.map_none, condW_bool, Bool.not_eq_true', decide_eq_true_eq, decide_eq_false_iff_not, decide_true, decide_false, Int.toNat_natCast, Int.ofNat_lt, Int.ofNat_le, Int.natCast_inj, Bool.false_eq_true, Bool.true_eq_false, extPV, List.getElem?_cons_zero, List.getElem?_cons_succ, nilckPV, Int.reduceToNat, Int.reduceLE, true_and, and_true, reduceCtorEq, or_false, false_or, or_true, Option.some.injEq, exists_eq_left', Bool.not_true, Bool.not_false, ne_eq, Int.reduceEq, not_true_eq_false, not_false_eq_true, Int.reduceLT, UInt8.reduceLT, UInt8.reduceLE, UInt8.reduceToNat]
    exact retTI rfl rfl Kept.start rfl rfl
end Go.Ab

/-
  Rows of one's own in a state that keeps what the caller has.
-/
namespace Go.Ab
set_option linter.unusedVariables false
set_option linter.unusedSimpArgs false
variable {st s : St} {e : Env}

/-! ### Rows of one's own in a state that keeps what the caller has -/
theorem Kept.appV {esz : Nat} {v u w : PV} {xs : List PV} (hk : Kept st s) (h : Own st s esz v xs) (hl : xs.length + 1 ≤ room) :
    ∃ v' s', Ab.appV esz s.tok1 v (.sl esz (.own s.toks.length) [u]) = some (v', s') ∧ Kept st s' ∧ Own st s' esz v' (xs ++ [u]) ∧ s'.boxes = s.boxes := by
  have hk1 := hk.tok1
  have hg : GrewAt s.tok1.boxes st.toks s.tok1.loops s.tok1.low s.tok1 := ⟨rfl, rfl, rfl, hk1.tk⟩
  have h1 := h.tok1
  obtain ⟨g2, o2⟩ := Own.app (ys := xs ++ [u]) hg h1
  refine ⟨_, _, appV_own h1 hl, ⟨?_, ?_, ?_, g2.tk⟩, o2, g2.bx⟩
  · rw [g2.bx]; exact hk1.bx
  · rw [g2.lp]; exact hk1.lp
  · rw [g2.lw]; exact hk1.lw
theorem Kept.leaveOwn {esz : Nat} {v : PV} {xs : List PV} {k : IntKind} {n : Int} (hk : Kept st s) (h : Own st s esz v xs) (hne : xs = [] → v = .nils) :
    Ab.leave st s (.tup [v, .int k n]) = (.tup [newSl st esz xs, .int k n], newS st xs.isEmpty) := by
  have e1 := hk.bx; have e2 := hk.lp; have e3 := hk.tk
  rcases h with ⟨rfl, rfl⟩ | ⟨i, rfl, h2, h3⟩
  · simp [Ab.leave, PV.inB, PV.inB.inBAll, hk.lw, keepRes, keepVals, keepVal, keepLeaf, newSl, newS, e1, e2, e3]
  · by_cases hx : xs = []
    · have := hne hx; cases this
    · simp [Ab.leave, PV.inB, PV.inB.inBAll, hk.lw, keepRes, keepVals, keepVal, keepLeaf, keepTok, newSl, newS, hx, h3, show ¬ i < st.toks.length by omega, e1, e2, e3, St.tok1]
theorem Kept.leaveOwn1 {esz : Nat} {v : PV} {xs : List PV} (hk : Kept st s) (h : Own st s esz v xs) (hne : xs = [] → v = .nils) : Ab.leave st s v = (newSl st esz xs, newS st xs.isEmpty) := by
  have e1 := hk.bx; have e2 := hk.lp; have e3 := hk.tk
  rcases h with ⟨rfl, rfl⟩ | ⟨i, rfl, h2, h3⟩
  · simp [Ab.leave, PV.inB, hk.lw, keepRes, keepVal, keepLeaf, newSl, newS, e1, e2, e3]
  · by_cases hx : xs = []
    · have := hne hx; cases this
    · simp [Ab.leave, PV.inB, hk.lw, keepRes, keepVal, keepLeaf, keepTok, newSl, newS, hx, h3, show ¬ i < st.toks.length by omega, e1, e2, e3, St.tok1]
theorem own_nt {esz : Nat} {v : PV} {xs : List PV} (h : Own st s esz v xs) : notTup v = true := by rcases h with ⟨rfl, _⟩ | ⟨i, rfl, _⟩ <;> rfl
theorem lit_s {x : Bs} : litFill 1 (List.replicate 1 (.str [])) [(0, .str x)] = some [.str x] := rfl
end Go.Ab

/-
  Ids are read; the law DateUnlike.
-/
namespace Go.Ab
set_option linter.unusedVariables false
set_option linter.unusedSimpArgs false
set_option maxRecDepth 20000
variable {st s : St} {e : Env}

theorem ret2sb {a b : Nat} {t u : Bs} {p q : Bool} (ha : e a = .str t) (hb : e b = .bool p) (hk : Kept st s) (h1 : t = u) (h2 : p = q) : ∃ rv, resOf e s [.tmp a, .tmp b] = some rv ∧ leave st s rv = (.tup [.str u, .bool q], st) := by
  subst h1 h2; exact retV2 ha hb rfl rfl hk ⟨fun _ => rfl, fun _ _ => rfl⟩

theorem hasPrefix_c {a : Bs} {c : UInt8} : decide ([c] <+: a) = decide (a.head? = some c) := by
  cases a with
  | nil => simp
  | cons x r => simp [List.cons_prefix_cons, eq_comm]

theorem sCutPrefix_spec {a : Bs} {c : UInt8} (h : a.length < 4294967281) : call prog (.fn 314 []) [.str a, .str [c]] st = some (.tup [.str (if a.head? = some c then a.drop 1 else a), .bool (decide (a.head? = some c))], st) := by
  refine call_of_W prog_314 ?_
  unfold F_internal_stringslite_CutPrefix; dsimp only
  have hP := fun S : St => slHasPrefix_spec (st := S) (a := a) (b := [c])
  have hl1 : ((([c] : Bs).length : Nat) : Int) = 1 := rfl
  by_cases hc : a.head? = some c
  · have h0 : 1 ≤ a.length := by cases a with | nil => simp at hc | cons x r => simp
    rw [if_pos hc]
    simp only [hasPrefix_c, hc, decide_true] at hP
    simp (maxSteps := 1000000) (disch := omega) only [hP, hc, len_s, hl1, Int.toNat_one, slc_s_lo, abR, WO_consG, wantedA_eq, wantB, evOp, ↓reduceIte, Nat.reduceEqDiff, List.nil_append, List.cons_append, List.append_nil, List.map_cons, List.map_nil, Option.map_some, Option.map_none, condW_bool, Bool.not_eq_true', decide_eq_true_eq, decide_eq_false_iff_not, decide_true, decide_false, Int.toNat_natCast, Int.ofNat_lt, Int.ofNat_le, Int.natCast_inj, Bool.false_eq_true, Bool.true_eq_false, extPV, List.getElem?_cons_zero, List.getElem?_cons_succ, nilckPV, Int.reduceToNat, Int.reduceLE, true_and, and_true, reduceCtorEq, or_false, false_or, or_true, Option.some.injEq, exists_eq_left', Bool.not_true, Bool.not_false, ne_eq, Int.reduceEq, not_true_eq_false, not_false_eq_true, Int.reduceLT, UInt8.reduceLT, UInt8.reduceLE, UInt8.reduceToNat]
    exact ret2sb rfl rfl Kept.start rfl rfl
  · rw [if_neg hc]
    simp only [hasPrefix_c, hc, decide_false] at hP
    simp (maxSteps := 1000000) (disch := omega) only [hP, hc, abR, WO_consG, wantedA_eq, wantB, evOp, ↓reduceIte, Nat.reduceEqDiff, List.nil_append, List.cons_append, List.append_nil, List.map_cons, List.map_nil, Option.map_some, Option.map_none, condW_bool, Bool.not_eq_true', decide_eq_true_eq, decide_eq_false_iff_not, decide_true, decide_false, Int.toNat_natCast, Int.ofNat_lt, Int.ofNat_le, Int.natCast_inj, Bool.false_eq_true, Bool.true_eq_false, extPV, List.getElem?_cons_zero, List.getElem?_cons_succ, nilckPV, Int.reduceToNat, Int.reduceLE, true_and, and_true, reduceCtorEq, or_false, false_or, or_true, Option.some.injEq, exists_eq_left', Bool.not_true, Bool.not_false, ne_eq, Int.reduceEq, not_true_eq_false, not_false_eq_true, Int.reduceLT, UInt8.reduceLT, UInt8.reduceLE, UInt8.reduceToNat]
    exact ret2sb rfl rfl Kept.start rfl rfl
theorem CutPrefix_spec {a : Bs} {c : UInt8} (h : a.length < 4294967281) : call prog (.fn 305 []) [.str a, .str [c]] st = some (.tup [.str (if a.head? = some c then a.drop 1 else a), .bool (decide (a.head? = some c))], st) := by
  refine call_of_W prog_305 ?_
  unfold F_strings_CutPrefix; dsimp only
  have hP := fun S : St => sCutPrefix_spec (st := S) (c := c) h
  simp (maxSteps := 1000000) (disch := omega) only [hP, abR, WO_consG, wantedA_eq, wantB, evOp, ↓reduceIte, Nat.reduceEqDiff, List.nil_append, List.cons_append, List.append_nil, List.map_cons, List.map_nil, Option.map_some, Option.map_none, condW_bool, Bool.not_eq_true', decide_eq_true_eq, decide_eq_false_iff_not, decide_true, decide_false, Int.toNat_natCast, Int.ofNat_lt, Int.ofNat_le, Int.natCast_inj, Bool.false_eq_true, Bool.true_eq_false, extPV, List.getElem?_cons_zero, List.getElem?_cons_succ, nilckPV, Int.reduceToNat, Int.reduceLE, true_and, and_true, reduceCtorEq, or_false, false_or, or_true, Option.some.injEq, exists_eq_left', Bool.not_true, Bool.not_false, ne_eq, Int.reduceEq, not_true_eq_false, not_false_eq_true, Int.reduceLT, UInt8.reduceLT, UInt8.reduceLE, UInt8.reduceToNat]
  exact ret2sb rfl rfl Kept.start rfl rfl

theorem ids_cut {inner rest : Bs} {acc : List Bs} {m : Nat} (hn : ∀ c ∈ inner, c ≠ 62) : idsGo (m + 1) (60 :: (inner ++ 62 :: rest)) acc = if (plainA inner).2 = 0 then idsGo m rest (acc ++ [60 :: (inner ++ [62])]) else ([], 3) := by
  have hix : Lib.index (60 :: (inner ++ 62 :: rest)) [62] = ((60 :: inner).length : Int) := by
    rw [show 60 :: (inner ++ 62 :: rest) = (60 :: inner) ++ 62 :: rest by simp]
    refine index_chr _ _ fun c hc => ?_
    rcases List.mem_cons.1 hc with h | h
    · rw [h]; decide
    · exact hn c h
  have e1 : (Int.toNat ((60 :: inner).length : Int)) = inner.length + 1 := by simp
  have e2 : ((60 :: (inner ++ 62 :: rest)).take (inner.length + 1)).drop 1 = inner := by simp
  have e3 : (60 :: (inner ++ 62 :: rest)).drop (inner.length + 1 + 1) = rest := by simp [List.drop_append]
  have e4 : (60 :: (inner ++ 62 :: rest)).take (inner.length + 1) ++ [62] = 60 :: (inner ++ [62]) := by simp
  rw [idsGo, if_neg (by decide), hix, e1, e2, e3, e4]
  by_cases h : (plainA inner).2 = 0
  · rw [if_pos ⟨by omega, rfl, h⟩, if_pos h]
  · rw [if_neg (fun q => h q.2.2), if_neg h]
theorem ids_no {c : UInt8} {t : Bs} {acc : List Bs} {m : Nat} (h1 : ¬ (c = 32 ∨ c = 9)) (h2 : Lib.index (c :: t) [62] < 0 ∨ c ≠ 60) : idsGo (m + 1) (c :: t) acc = ([], 3) := by
  rw [idsGo, if_neg h1, if_neg]
  rintro ⟨q1, q2, _⟩
  rcases h2 with h | h
  · omega
  · exact h q2

set_option maxHeartbeats 2000000 in
theorem IDs_spec {s : Bs} (hl : s.length ≤ 100000000) : call prog (.fn 267 []) [.str s] st = some (.tup [newSl st 1 ((idsOf s).1.map .str), .int .i64 (idsOf s).2], newS st ((idsOf s).1.map PV.str).isEmpty) := by
  refine call_of_W prog_267 ?_
  unfold F_date_IDs; dsimp only
  obtain ⟨T, hT⟩ : ∃ T, T = idsOf s := ⟨_, rfl⟩
  rw [← hT]
  simp (maxSteps := 1000000) (disch := omega) only [abR, WO_consG, wantedA_eq, wantB, evOp, ↓reduceIte, Nat.reduceEqDiff, List.nil_append, List.cons_append, List.append_nil, List.map_cons, List.map_nil, Option.map_some, Option.map_none, condW_bool, Bool.not_eq_true', decide_eq_true_eq, decide_eq_false_iff_not, decide_true, decide_false, Int.toNat_natCast, Int.ofNat_lt, Int.ofNat_le, Int.natCast_inj, Bool.false_eq_true, Bool.true_eq_false, extPV, List.getElem?_cons_zero, List.getElem?_cons_succ, nilckPV, Int.reduceToNat, Int.reduceLE, true_and, and_true, reduceCtorEq, or_false, false_or, or_true, Option.some.injEq, exists_eq_left', Bool.not_true, Bool.not_false, ne_eq, Int.reduceEq, not_true_eq_false, not_false_eq_true, Int.reduceLT, UInt8.reduceLT, UInt8.reduceLE, UInt8.reduceToNat]
  obtain ⟨Q0, hQ0⟩ : ∃ Q0 : Ex → Env → St → Prop, Q0 = endQ st [.tmp 2, .tmp 3] (.tup [newSl st 1 (T.1.map .str), .int .i64 T.2], newS st (T.1.map PV.str).isEmpty) := ⟨_, rfl⟩
  rw [← hQ0]
  obtain ⟨I, hI⟩ : ∃ I : Nat → Env → St → Prop, I = fun k E S => ∃ (r : Bs) (j : Nat) (v : PV) (acc : List Bs), k = r.length ∧ Kept st S ∧ Own st S 1 v (acc.map .str) ∧ (acc = [] → v = .nils) ∧ acc.length + r.length ≤ s.length ∧ T = idsGo (r.length + j + 1) r acc ∧ E 0 = .str r ∧ E 4 = v := ⟨_, rfl⟩
  refine W_loop I ?_ (n := s.length) (by
    rw [hI]
    exact ⟨s, 0, .nils, [], rfl, Kept.start, .inl ⟨rfl, rfl⟩, fun _ => rfl, by simp, hT, rfl, rfl⟩)
  intro k E S hh
  rw [hI] at hh
  obtain ⟨r, j, v, acc, rfl, hk, ho, hne, hal, hTT, h0, h4⟩ := hh
  have hlen : lenPV false v = some (.int .i64 (acc.length : Int)) := by 
    rcases ho with ⟨rfl, h⟩ | ⟨i, rfl, _⟩
    · simp at h; subst h; rfl
    · simp [lenPV]
  have hst : ∀ (n l d : Bs) (B : List (List PV)) T L lo, storePV ⟨B ++ [cA [] [] []], T, L, lo⟩ 3 (.ptr B.length 0) (.agg [.str n, .str l, .str d]) = some ⟨B ++ [cA n l d], T, L, lo⟩ := fun n l d B T L lo => st_aa
  have bad : T = ([], 3) → ∀ (E : Env) (z : List PV), E 2 = .nils → E 3 = .int .i64 3 → Q0 .ret E ⟨S.boxes ++ [z], S.toks, S.loops, S.low⟩ := fun h E z k2 k3 => by
    rw [hQ0, endQ_ret, h]
    exact ⟨.tup [.nils, .int .i64 3], by simp [resOf, rvAll, rv1, k2, k3, notTup, packRes], hk.alloc.leave rfl (fun _ _ => rfl)⟩
  match r, hTT, h0, hal with
  | [], hTT, h0, hal =>
    have e0 : ¬ (([] : Bs) ≠ []) := by simp
    by_cases h64 : 64 < acc.length
    · have e64 : (64 : Int) < (acc.length : Int) := by omega
      have hr : T = ([], 2) := by rw [hTT]; simp [idsGo, h64]
      simp (maxSteps := 1000000) (disch := omega) only [h0, h4, e0, hlen, e64, abR, WO_consG, wantedA_eq, wantB, evOp, ↓reduceIte, Nat.reduceEqDiff, List.nil_append, List.cons_append, List.append_nil, List.map_cons, List.map_nil, Option.map_some, Option.map_none, condW_bool, Bool.not_eq_true', decide_eq_true_eq, decide_eq_false_iff_not, decide_true, decide_false, Int.toNat_natCast, Int.ofNat_lt, Int.ofNat_le, Int.natCast_inj, Bool.false_eq_true, Bool.true_eq_false, extPV, List.getElem?_cons_zero, List.getElem?_cons_succ, nilckPV, Int.reduceToNat, Int.reduceLE, true_and, and_true, reduceCtorEq, or_false, false_or, or_true, Option.some.injEq, exists_eq_left', Bool.not_true, Bool.not_false, ne_eq, Int.reduceEq, not_true_eq_false, not_false_eq_true, Int.reduceLT, UInt8.reduceLT, UInt8.reduceLE, UInt8.reduceToNat]
      rw [hQ0, endQ_ret, hr]
      exact ⟨.tup [.nils, .int .i64 2], by simp [resOf, rvAll, rv1, upd_eq, notTup, packRes], hk.leave rfl (fun _ _ => rfl)⟩
    · have e64 : ¬ (64 : Int) < (acc.length : Int) := by omega
      have hr : T = (acc, 0) := by rw [hTT]; simp [idsGo, h64]
      simp (maxSteps := 1000000) (disch := omega) only [h0, h4, e0, hlen, e64, abR, WO_consG, wantedA_eq, wantB, evOp, ↓reduceIte, Nat.reduceEqDiff, List.nil_append, List.cons_append, List.append_nil, List.map_cons, List.map_nil, Option.map_some, Option.map_none, condW_bool, Bool.not_eq_true', decide_eq_true_eq, decide_eq_false_iff_not, decide_true, decide_false, Int.toNat_natCast, Int.ofNat_lt, Int.ofNat_le, Int.natCast_inj, Bool.false_eq_true, Bool.true_eq_false, extPV, List.getElem?_cons_zero, List.getElem?_cons_succ, nilckPV, Int.reduceToNat, Int.reduceLE, true_and, and_true, reduceCtorEq, or_false, false_or, or_true, Option.some.injEq, exists_eq_left', Bool.not_true, Bool.not_false, ne_eq, Int.reduceEq, not_true_eq_false, not_false_eq_true, Int.reduceLT, UInt8.reduceLT, UInt8.reduceLE, UInt8.reduceToNat]
      rw [hQ0, endQ_ret, hr]
      refine ⟨.tup [v, .int .i64 0], by rcases ho with ⟨hv, _⟩ | ⟨j, hv, _⟩ <;> simp [resOf, rvAll, rv1, upd_eq, h4, hv, notTup, packRes], ?_⟩
      exact hk.leaveOwn ho (fun h => hne (by simpa using h))
  | c :: t, hTT, h0, hal =>
    have e0 : (c :: t) ≠ [] := by simp
    have hi0 : idxSPV (.str (c :: t)) (.int .i64 0) = some (.b8 c) := by simp [idxSPV, intOf]
    have hlt : (c :: t).length ≤ s.length := by omega
    have hs1 : slcPV 0 (.str (c :: t)) (some (.int .i64 1)) none none = some (.str t) := by
      rw [slc_s_lo (by omega) (by simp)]; rfl
    have next : ∀ (r' : Bs) (v' : PV) (acc' : List Bs) (S' : St) (j' : Nat), r'.length < (c :: t).length → Kept st S' → Own st S' 1 v' (acc'.map .str) → (acc' = [] → v' = .nils) → acc'.length + r'.length ≤ s.length → T = idsGo (r'.length + j' + 1) r' acc' → ∀ E : Env, E 0 = .str r' → E 4 = v' → ∃ m, m < (c :: t).length ∧ I m E S' := fun r' v' acc' S' j' q1 q2 q3 q4 q5 q6 E k0 k4 =>
      ⟨r'.length, q1, by rw [hI]; exact ⟨r', j', v', acc', rfl, q2, q3, q4, q5, q6, k0, k4⟩⟩
    by_cases hb : c = 32 ∨ c = 9
    · have hnx : T = idsGo (t.length + j + 1) t acc := by
        rw [hTT, show (c :: t).length + j + 1 = (t.length + j + 1) + 1 by simp; omega, ids_blank hb]
      by_cases h32 : c = 32
      · have e32 : (c = 32) = True := eq_true h32
        simp (maxSteps := 1000000) (disch := omega) only [h0, h4, eq_true e0, hi0, e32, hs1, loopQ_normal, abR, WO_consG, wantedA_eq, wantB, evOp, ↓reduceIte, Nat.reduceEqDiff, List.nil_append, List.cons_append, List.append_nil, List.map_cons, List.map_nil, Option.map_some, Option.map_none, condW_bool, Bool.not_eq_true', decide_eq_true_eq, decide_eq_false_iff_not, decide_true, decide_false, Int.toNat_natCast, Int.ofNat_lt, Int.ofNat_le, Int.natCast_inj, Bool.false_eq_true, Bool.true_eq_false, extPV, List.getElem?_cons_zero, List.getElem?_cons_succ, nilckPV, Int.reduceToNat, Int.reduceLE, true_and, and_true, reduceCtorEq, or_false, false_or, or_true, Option.some.injEq, exists_eq_left', Bool.not_true, Bool.not_false, ne_eq, Int.reduceEq, not_true_eq_false, not_false_eq_true, Int.reduceLT, UInt8.reduceLT, UInt8.reduceLE, UInt8.reduceToNat]
        exact next t v acc S j (by simp) hk ho hne (by simp at hal; omega) hnx _ rfl h4
      · have e9 : (c = 9) = True := eq_true (by rcases hb with h | h; exact absurd h h32; exact h)
        simp (maxSteps := 1000000) (disch := omega) only [h0, h4, eq_true e0, hi0, h32, e9, hs1, loopQ_normal, abR, WO_consG, wantedA_eq, wantB, evOp, ↓reduceIte, Nat.reduceEqDiff, List.nil_append, List.cons_append, List.append_nil, List.map_cons, List.map_nil, Option.map_some, Option.map_none, condW_bool, Bool.not_eq_true', decide_eq_true_eq, decide_eq_false_iff_not, decide_true, decide_false, Int.toNat_natCast, Int.ofNat_lt, Int.ofNat_le, Int.natCast_inj, Bool.false_eq_true, Bool.true_eq_false, extPV, List.getElem?_cons_zero, List.getElem?_cons_succ, nilckPV, Int.reduceToNat, Int.reduceLE, true_and, and_true, reduceCtorEq, or_false, false_or, or_true, Option.some.injEq, exists_eq_left', Bool.not_true, Bool.not_false, ne_eq, Int.reduceEq, not_true_eq_false, not_false_eq_true, Int.reduceLT, UInt8.reduceLT, UInt8.reduceLE, UInt8.reduceToNat]
        exact next t v acc S j (by simp) hk ho hne (by simp at hal; omega) hnx _ rfl h4
    · have n32 : ¬ c = 32 := fun h => hb (.inl h)
      have n9 : ¬ c = 9 := fun h => hb (.inr h)
      have hcut : ∀ S : St, call prog (.fn 128 []) [.str (c :: t), .str [62]] S = some (cutAt (c :: t) [62], S) := fun S => Cut_spec (by omega) (by simp)
      have fuel : (c :: t).length + j + 1 = (t.length + j + 1) + 1 := by simp; omega
      rw [fuel] at hTT
      rcases chr_split 62 (c :: t) with ⟨q1, q2⟩ | ⟨n, r, q1, q2⟩
      · have hc1 : cutAt (c :: t) [62] = .tup [.str (c :: t), .str [], .bool false] := by unfold cutAt; rw [q2, if_neg (by decide)]
        rw [hc1] at hcut
        have hT3 : T = ([], 3) := by rw [hTT]; exact ids_no hb (.inl (by rw [q2]; decide))
        have hcp := fun S : St => CutPrefix_spec (st := S) (a := c :: t) (c := 60) (by omega)
        obtain ⟨x, hx⟩ : ∃ x, x = (if (c :: t).head? = some 60 then (c :: t).drop 1 else (c :: t)) := ⟨_, rfl⟩
        have hxl : x.length ≤ 100000000 := by rw [hx]; split <;> simp at hlt ⊢ <;> omega
        rw [← hx] at hcp
        have hP := fun S : St => Plain_spec (st := S) hxl
        obtain ⟨⟨⟨a1, a2, a3⟩, a4⟩, ha⟩ : ∃ q, q = plainA x := ⟨_, rfl⟩
        rw [← ha] at hP
        simp only [aV] at hP
        simp (maxSteps := 1000000) (disch := omega) only [h0, h4, eq_true e0, hi0, n32, n9, hcut, hcp, hP, allocPV, hst, abR, WO_consG, wantedA_eq, wantB, evOp, ↓reduceIte, Nat.reduceEqDiff, List.nil_append, List.cons_append, List.append_nil, List.map_cons, List.map_nil, Option.map_some, Option.map_none, condW_bool, Bool.not_eq_true', decide_eq_true_eq, decide_eq_false_iff_not, decide_true, decide_false, Int.toNat_natCast, Int.ofNat_lt, Int.ofNat_le, Int.natCast_inj, Bool.false_eq_true, Bool.true_eq_false, extPV, List.getElem?_cons_zero, List.getElem?_cons_succ, nilckPV, Int.reduceToNat, Int.reduceLE, true_and, and_true, reduceCtorEq, or_false, false_or, or_true, Option.some.injEq, exists_eq_left', Bool.not_true, Bool.not_false, ne_eq, Int.reduceEq, not_true_eq_false, not_false_eq_true, Int.reduceLT, UInt8.reduceLT, UInt8.reduceLE, UInt8.reduceToNat]
        exact bad hT3 _ _ rfl rfl
      · have hix : Lib.index (c :: t) [62] = (n.length : Int) := by rw [q1]; exact index_chr _ _ q2
        have hn62 : n.length + 1 + r.length = (c :: t).length := by rw [q1]; simp; omega
        have hc1 : cutAt (c :: t) [62] = .tup [.str n, .str r, .bool true] := by
          unfold cutAt
          rw [hix, if_pos (by omega), Int.toNat_natCast, q1]
          simp [List.drop_append]
        rw [hc1] at hcut
        have hcp := fun S : St => CutPrefix_spec (st := S) (a := n) (c := 60) (by omega)
        by_cases hh : n.head? = some 60
        · obtain ⟨inner, rfl⟩ : ∃ inner, n = 60 :: inner := by
            cases n with
            | nil => simp at hh
            | cons y z => simp at hh; exact ⟨z, by rw [hh]⟩
          simp only [List.head?_cons, if_true, List.drop_succ_cons, List.drop_zero, decide_true] at hcp
          have hin : ∀ x ∈ inner, x ≠ 62 := fun x hx => q2 x (by simp [hx])
          simp only [List.cons_append, List.cons.injEq] at q1
          obtain ⟨rfl, rfl⟩ := q1
          rw [ids_cut hin] at hTT
          have hxl : inner.length ≤ 100000000 := by simp at hn62 hlt; omega
          have hP := fun S : St => Plain_spec (st := S) hxl
          obtain ⟨⟨⟨a1, a2, a3⟩, a4⟩, ha⟩ : ∃ q, q = plainA inner := ⟨_, rfl⟩
          rw [← ha] at hP hTT
          simp only [aV] at hP
          by_cases h40 : a4 = 0
          · subst h40
            simp only [if_true] at hTT
            have hkb : Kept st ⟨S.boxes ++ [cA a1 a2 a3], S.toks, S.loops, S.low⟩ := hk.alloc
            have hob : Own st ⟨S.boxes ++ [cA a1 a2 a3], S.toks, S.loops, S.low⟩ 1 v (acc.map .str) := ho
            have hx62 : ((60 :: inner).length + ([62] : Bs).length) ≤ 9223372036854775807 := by simp at hn62 hlt ⊢; omega
            obtain ⟨v1, S1, b1, k1, o1, _⟩ := hkb.appV (u := .str (60 :: (inner ++ [62]))) (w := v) hob (by simp only [List.length_map, room]; omega)
            simp (maxSteps := 1000000) (disch := omega) only [h0, h4, eq_true e0, hi0, n32, n9, hcut, hcp, hP, allocPV, hst, adds hx62, lit_s, freshT_eq, b1, loopQ_normal, abR, WO_consG, wantedA_eq, wantB, evOp, ↓reduceIte, Nat.reduceEqDiff, List.nil_append, List.cons_append, List.append_nil, List.map_cons, List.map_nil, Option.map_some, Option.map_none, condW_bool, Bool.not_eq_true', decide_eq_true_eq, decide_eq_false_iff_not, decide_true, decide_false, Int.toNat_natCast, Int.ofNat_lt, Int.ofNat_le, Int.natCast_inj, Bool.false_eq_true, Bool.true_eq_false, extPV, List.getElem?_cons_zero, List.getElem?_cons_succ, nilckPV, Int.reduceToNat, Int.reduceLE, true_and, and_true, reduceCtorEq, or_false, false_or, or_true, Option.some.injEq, exists_eq_left', Bool.not_true, Bool.not_false, ne_eq, Int.reduceEq, not_true_eq_false, not_false_eq_true, Int.reduceLT, UInt8.reduceLT, UInt8.reduceLE, UInt8.reduceToNat]
            exact next r v1 (acc ++ [60 :: (inner ++ [62])]) S1 ((inner ++ 62 :: r).length + j - r.length) (by simp at hn62 ⊢; omega) k1 (by rw [List.map_append]; exact o1) (fun h => by simp at h) (by simp at hal hn62 ⊢; omega) (by rw [hTT]; congr 1; simp at hn62 ⊢; omega) _ rfl rfl
          · rw [if_neg h40] at hTT
            simp (maxSteps := 1000000) (disch := omega) only [h0, h4, eq_true e0, hi0, n32, n9, hcut, hcp, hP, allocPV, hst, h40, abR, WO_consG, wantedA_eq, wantB, evOp, ↓reduceIte, Nat.reduceEqDiff, List.nil_append, List.cons_append, List.append_nil, List.map_cons, List.map_nil, Option.map_some, Option.map_none, condW_bool, Bool.not_eq_true', decide_eq_true_eq, decide_eq_false_iff_not, decide_true, decide_false, Int.toNat_natCast, Int.ofNat_lt, Int.ofNat_le, Int.natCast_inj, Bool.false_eq_true, Bool.true_eq_false, extPV, List.getElem?_cons_zero, List.getElem?_cons_succ, nilckPV, Int.reduceToNat, Int.reduceLE, true_and, and_true, reduceCtorEq, or_false, false_or, or_true, Option.some.injEq, exists_eq_left', Bool.not_true, Bool.not_false, ne_eq, Int.reduceEq, not_true_eq_false, not_false_eq_true, Int.reduceLT, UInt8.reduceLT, UInt8.reduceLE, UInt8.reduceToNat]
            exact bad hTT _ _ rfl rfl
        · rw [if_neg hh, show decide (n.head? = some 60) = false from decide_eq_false hh] at hcp
          have hT3 : T = ([], 3) := by
            rw [hTT]
            refine ids_no hb (.inr ?_)
            rintro rfl
            cases n with
            | nil => simp at q1
            | cons y z => simp at q1 hh; exact hh q1.1.symm
          have hP := fun S : St => Plain_spec (st := S) (s := n) (by omega)
          obtain ⟨⟨⟨a1, a2, a3⟩, a4⟩, ha⟩ : ∃ q, q = plainA n := ⟨_, rfl⟩
          rw [← ha] at hP
          simp only [aV] at hP
          simp (maxSteps := 1000000) (disch := omega) only [h0, h4, eq_true e0, hi0, n32, n9, hcut, hcp, hP, allocPV, hst, abR, WO_consG, wantedA_eq, wantB, evOp, ↓reduceIte, Nat.reduceEqDiff, List.nil_append, List.cons_append, List.append_nil, List.map_cons, List.map_nil, Option.map_some, Option.map_none, condW_bool, Bool.not_eq_true', decide_eq_true_eq, decide_eq_false_iff_not, decide_true, decide_false, Int.toNat_natCast, Int.ofNat_lt, Int.ofNat_le, Int.natCast_inj, Bool.false_eq_true, Bool.true_eq_false, extPV, List.getElem?_cons_zero, List.getElem?_cons_succ, nilckPV, Int.reduceToNat, Int.reduceLE, true_and, and_true, reduceCtorEq, or_false, false_or, or_true, Option.some.injEq, exists_eq_left', Bool.not_true, Bool.not_false, ne_eq, Int.reduceEq, not_true_eq_false, not_false_eq_true, Int.reduceLT, UInt8.reduceLT, UInt8.reduceLE, UInt8.reduceToNat]
          exact bad hT3 _ _ rfl rfl

theorem ids_two {a b c k : Nat} {d : Bs} {m : Nat} (ha : a < 2 ^ 63) (hb : b < 2 ^ 63) (hc : c < 2 ^ 63) (hk : k < 2 ^ 63) (hd : rightA ([], [120], d) = true) :
    idsOf (idT a b d ++ idT c k d) = ([idT a b d, idT c k d], 0) ∧ idsOf (32 :: (idT a b d ++ [9] ++ idT c k d ++ [32])) = ([idT a b d, idT c k d], 0) := by
  have l1 : 0 < (idT a b d).length := by simp [idT]
  have l2 : 0 < (idT c k d).length := by simp [idT]
  constructor
  · unfold idsOf
    obtain ⟨p, hp⟩ : ∃ p, (idT a b d ++ idT c k d).length + 1 = (p + 1) + 1 + 1 := ⟨(idT a b d).length + (idT c k d).length - 2, by simp; omega⟩
    rw [hp, ids_one ha hb hd, show idT c k d = idT c k d ++ [] by simp, ids_one hc hk hd]
    simp [idsGo]
  · unfold idsOf
    obtain ⟨p, hp⟩ : ∃ p, (32 :: (idT a b d ++ [9] ++ idT c k d ++ [32])).length + 1 = p + 1 + 1 + 1 + 1 + 1 + 1 := ⟨(idT a b d).length + (idT c k d).length - 2, by simp; omega⟩
    rw [hp, show (32 :: (idT a b d ++ [9] ++ idT c k d ++ [32]) : Bs) = 32 :: (idT a b d ++ (9 :: (idT c k d ++ [32]))) by simp, ids_blank (.inl rfl), ids_one ha hb hd, ids_blank (.inr rfl), ids_one hc hk hd, ids_blank (.inl rfl)]
    simp [idsGo]

theorem al20_2 : evV prog 400 (.fn 260 []) [] ⟨[], [true, true], [], 0⟩ = some (.bool true, ⟨[], [true, true], [], 0⟩) := by kernel_rfl

set_option maxHeartbeats 2000000 in
theorem law_DateUnlike {t u m n : Int} {d : Bs} (hm : m < 9223372036854775808) (hn : n < 9223372036854775808) :
    ∃ s', call prog (.fn 272 []) [.int .i64 t, .int .i64 u, .int .i64 m, .int .i64 n, .str d] ⟨[], [], [], 0⟩ = some (.bool true, s') := by
  refine law_of_W prog_272 rfl ?_
  unfold F_posthornlaw20_DateUnlike; dsimp only
  have hA := call_of al20_0
  have hA2 := call_of al20_2
  by_cases h6 : 600 < d.length
  · have e6 : (600 : Int) < (d.length : Int) := by omega
    simp (maxSteps := 1000000) (disch := omega) only [len_s, e6, hA, List.length_nil, abR, WO_consG, wantedA_eq, wantB, evOp, ↓reduceIte, Nat.reduceEqDiff, List.nil_append, List.cons_append, List.append_nil, List.map_cons, List.map_nil, Option.map_some, Option.map_none, condW_bool, Bool.not_eq_true', decide_eq_true_eq, decide_eq_false_iff_not, decide_true, decide_false, Int.toNat_natCast, Int.ofNat_lt, Int.ofNat_le, Int.natCast_inj, Bool.false_eq_true, Bool.true_eq_false, extPV, List.getElem?_cons_zero, List.getElem?_cons_succ, nilckPV, Int.reduceToNat, Int.reduceLE, true_and, and_true, reduceCtorEq, or_false, false_or, or_true, Option.some.injEq, exists_eq_left', Bool.not_true, Bool.not_false, ne_eq, Int.reduceEq, not_true_eq_false, not_false_eq_true, Int.reduceLT, UInt8.reduceLT, UInt8.reduceLE, UInt8.reduceToNat]
  have e6 : ¬ (600 : Int) < (d.length : Int) := by omega
  have hI1 := fun S : St => ID_spec (st := S) (t := t) (c := m) (d := d) (by omega) hm
  have hI2 := fun S : St => ID_spec (st := S) (t := u) (c := n) (d := d) (by omega) hn
  by_cases g1 : (0 ≤ t ∧ t ≤ 253402300799) ∧ 0 ≤ m ∧ rightA ([], [120], d) = true
  · rw [show idV t m d = (idT t.toNat m.toNat d, 0) by unfold idV; rw [if_pos g1]] at hI1
    by_cases g2 : (0 ≤ u ∧ u ≤ 253402300799) ∧ 0 ≤ n ∧ rightA ([], [120], d) = true
    · rw [show idV u n d = (idT u.toNat n.toNat d, 0) by unfold idV; rw [if_pos g2]] at hI2
      obtain ⟨p1, p2⟩ := ids_two (a := t.toNat) (b := m.toNat) (c := u.toNat) (k := n.toNat) (d := d) (m := 0) (by omega) (by omega) (by omega) (by omega) g1.2.2
      have hAB : (idT t.toNat m.toNat d = idT u.toNat n.toNat d) = (t = u ∧ m = n) := by
        rw [id_inj]; apply propext; omega
      have lA : (idT t.toNat m.toNat d).length ≤ 700 := by
        have := sg_len 12 t.toNat (Nat.lt_of_lt_of_le (show t.toNat < 9223372036854775808 by omega) (by decide))
        have := sg_len 12 m.toNat (Nat.lt_of_lt_of_le (show m.toNat < 9223372036854775808 by omega) (by decide))
        simp [idT, locT]; omega
      have lB : (idT u.toNat n.toNat d).length ≤ 700 := by
        have := sg_len 12 u.toNat (Nat.lt_of_lt_of_le (show u.toNat < 9223372036854775808 by omega) (by decide))
        have := sg_len 12 n.toNat (Nat.lt_of_lt_of_le (show n.toNat < 9223372036854775808 by omega) (by decide))
        simp [idT, locT]; omega
      obtain ⟨A, hAe⟩ : ∃ A, A = idT t.toNat m.toNat d := ⟨_, rfl⟩
      obtain ⟨B, hBe⟩ : ∃ B, B = idT u.toNat n.toNat d := ⟨_, rfl⟩
      rw [← hAe] at hI1 p1 p2 hAB lA
      rw [← hBe] at hI2 p1 p2 hAB lB
      have q1 := fun S : St => IDs_spec (st := S) (s := A ++ B) (by simp; omega)
      have q2 := fun S : St => IDs_spec (st := S) (s := 32 :: (A ++ [9] ++ B ++ [32])) (by simp; omega)
      simp only [p1, p2, List.map_cons, List.map_nil, List.isEmpty_cons, newS_eq, newSl, reduceCtorEq, if_false] at q1 q2
      have z1 : ∀ i : Nat, lenPV false (.sl 1 (.own i) [.str A, .str B]) = some (.int .i64 2) := fun _ => rfl
      have z2 : ∀ i : Nat, iaddrPV 1 (.sl 1 (.own i) [.str A, .str B]) (.int .i64 0) = some (.cp [.str A]) := fun _ => rfl
      have z3 : ∀ i : Nat, iaddrPV 1 (.sl 1 (.own i) [.str A, .str B]) (.int .i64 1) = some (.cp [.str B]) := fun _ => rfl
      have s1 : ∀ T L lo, call prog (.fn 267 []) [.str (A ++ B)] ⟨[], T, L, lo⟩ = some (.tup [.sl 1 (.own T.length) [.str A, .str B], .int .i64 0], ⟨[], T ++ [true], L, lo⟩) := fun T L lo => by rw [q1]; rfl
      have s2 : ∀ T L lo, call prog (.fn 267 []) [.str (32 :: (A ++ [9] ++ B ++ [32]))] ⟨[], T, L, lo⟩ = some (.tup [.sl 1 (.own T.length) [.str A, .str B], .int .i64 0], ⟨[], T ++ [true], L, lo⟩) := fun T L lo => by rw [q2]; rfl
      have a1 : binPV .add .no (.str A) (.str B) = some (.str (A ++ B)) := adds (by omega)
      have a2 : binPV .add .no (.str [32]) (.str A) = some (.str (32 :: A)) := adds (by simp; omega)
      have a3 : binPV .add .no (.str (32 :: A)) (.str [9]) = some (.str (32 :: (A ++ [9]))) := adds (by simp; omega)
      have a4 : binPV .add .no (.str (32 :: (A ++ [9]))) (.str B) = some (.str (32 :: (A ++ [9] ++ B))) := adds (by simp; omega)
      have a5 : binPV .add .no (.str (32 :: (A ++ [9] ++ B))) (.str [32]) = some (.str (32 :: (A ++ [9] ++ B ++ [32]))) := adds (by simp; omega)
      clear q1 q2 hAe hBe p1 p2
      by_cases w1 : t = u
      · by_cases w2 : m = n
        · have hABt : A = B := by rw [hAB]; exact ⟨w1, w2⟩
          simp (maxSteps := 1000000) (disch := omega) only [len_s, e6, hI1, hI2, a1, a2, a3, a4, a5, s1, s2, z1, z2, z3, eq_true w1, eq_true w2, eq_true hABt, hA2, List.length_nil, List.length_cons, Nat.zero_add, abR, WO_consG, wantedA_eq, wantB, evOp, ↓reduceIte, Nat.reduceEqDiff, List.nil_append, List.cons_append, List.append_nil, List.map_cons, List.map_nil, Option.map_some, Option.map_none, condW_bool, Bool.not_eq_true', decide_eq_true_eq, decide_eq_false_iff_not, decide_true, decide_false, Int.toNat_natCast, Int.ofNat_lt, Int.ofNat_le, Int.natCast_inj, Bool.false_eq_true, Bool.true_eq_false, extPV, List.getElem?_cons_zero, List.getElem?_cons_succ, nilckPV, Int.reduceToNat, Int.reduceLE, true_and, and_true, reduceCtorEq, or_false, false_or, or_true, Option.some.injEq, exists_eq_left', Bool.not_true, Bool.not_false, ne_eq, Int.reduceEq, not_true_eq_false, not_false_eq_true, Int.reduceLT, UInt8.reduceLT, UInt8.reduceLE, UInt8.reduceToNat]
        · have hABf : ¬ A = B := fun h => w2 (hAB ▸ h).2
          simp (maxSteps := 1000000) (disch := omega) only [len_s, e6, hI1, hI2, a1, a2, a3, a4, a5, s1, s2, z1, z2, z3, eq_true w1, w2, hABf, hA2, List.length_nil, List.length_cons, Nat.zero_add, abR, WO_consG, wantedA_eq, wantB, evOp, ↓reduceIte, Nat.reduceEqDiff, List.nil_append, List.cons_append, List.append_nil, List.map_cons, List.map_nil, Option.map_some, Option.map_none, condW_bool, Bool.not_eq_true', decide_eq_true_eq, decide_eq_false_iff_not, decide_true, decide_false, Int.toNat_natCast, Int.ofNat_lt, Int.ofNat_le, Int.natCast_inj, Bool.false_eq_true, Bool.true_eq_false, extPV, List.getElem?_cons_zero, List.getElem?_cons_succ, nilckPV, Int.reduceToNat, Int.reduceLE, true_and, and_true, reduceCtorEq, or_false, false_or, or_true, Option.some.injEq, exists_eq_left', Bool.not_true, Bool.not_false, ne_eq, Int.reduceEq, not_true_eq_false, not_false_eq_true, Int.reduceLT, UInt8.reduceLT, UInt8.reduceLE, UInt8.reduceToNat]
      · have hABf : ¬ A = B := fun h => w1 (hAB ▸ h).1
        simp (maxSteps := 1000000) (disch := omega) only [len_s, e6, hI1, hI2, a1, a2, a3, a4, a5, s1, s2, z1, z2, z3, w1, hABf, hA2, List.length_nil, List.length_cons, Nat.zero_add, abR, WO_consG, wantedA_eq, wantB, evOp, ↓reduceIte, Nat.reduceEqDiff, List.nil_append, List.cons_append, List.append_nil, List.map_cons, List.map_nil, Option.map_some, Option.map_none, condW_bool, Bool.not_eq_true', decide_eq_true_eq, decide_eq_false_iff_not, decide_true, decide_false, Int.toNat_natCast, Int.ofNat_lt, Int.ofNat_le, Int.natCast_inj, Bool.false_eq_true, Bool.true_eq_false, extPV, List.getElem?_cons_zero, List.getElem?_cons_succ, nilckPV, Int.reduceToNat, Int.reduceLE, true_and, and_true, reduceCtorEq, or_false, false_or, or_true, Option.some.injEq, exists_eq_left', Bool.not_true, Bool.not_false, ne_eq, Int.reduceEq, not_true_eq_false, not_false_eq_true, Int.reduceLT, UInt8.reduceLT, UInt8.reduceLE, UInt8.reduceToNat]
    · rw [show idV u n d = ([], 1) by unfold idV; rw [if_neg g2]] at hI2
      simp (maxSteps := 1000000) (disch := omega) only [len_s, e6, hI1, hI2, hA, List.length_nil, abR, WO_consG, wantedA_eq, wantB, evOp, ↓reduceIte, Nat.reduceEqDiff, List.nil_append, List.cons_append, List.append_nil, List.map_cons, List.map_nil, Option.map_some, Option.map_none, condW_bool, Bool.not_eq_true', decide_eq_true_eq, decide_eq_false_iff_not, decide_true, decide_false, Int.toNat_natCast, Int.ofNat_lt, Int.ofNat_le, Int.natCast_inj, Bool.false_eq_true, Bool.true_eq_false, extPV, List.getElem?_cons_zero, List.getElem?_cons_succ, nilckPV, Int.reduceToNat, Int.reduceLE, true_and, and_true, reduceCtorEq, or_false, false_or, or_true, Option.some.injEq, exists_eq_left', Bool.not_true, Bool.not_false, ne_eq, Int.reduceEq, not_true_eq_false, not_false_eq_true, Int.reduceLT, UInt8.reduceLT, UInt8.reduceLE, UInt8.reduceToNat]
  · rw [show idV t m d = ([], 1) by unfold idV; rw [if_neg g1]] at hI1
    simp (maxSteps := 1000000) (disch := omega) only [len_s, e6, hI1, hI2, hA, List.length_nil, abR, WO_consG, wantedA_eq, wantB, evOp, ↓reduceIte, Nat.reduceEqDiff, List.nil_append, List.cons_append, List.append_nil, List.map_cons, List.map_nil, Option.map_some, Option.map_none, condW_bool, Bool.not_eq_true', decide_eq_true_eq, decide_eq_false_iff_not, decide_true, decide_false, Int.toNat_natCast, Int.ofNat_lt, Int.ofNat_le, Int.natCast_inj, Bool.false_eq_true, Bool.true_eq_false, extPV, List.getElem?_cons_zero, List.getElem?_cons_succ, nilckPV, Int.reduceToNat, Int.reduceLE, true_and, and_true, reduceCtorEq, or_false, false_or, or_true, Option.some.injEq, exists_eq_left', Bool.not_true, Bool.not_false, ne_eq, Int.reduceEq, not_true_eq_false, not_false_eq_true, Int.reduceLT, UInt8.reduceLT, UInt8.reduceLE, UInt8.reduceToNat]
end Go.Ab

/-
  The document's addresses: parts, letters, atoms, domains.
-/
namespace Go.Ab
set_option linter.unusedVariables false
set_option linter.unusedSimpArgs false
set_option maxRecDepth 20000
variable {st s : St} {e : Env}

theorem split_step {l : Bs} {by_ : UInt8} {i f : Nat} (hf : f ≤ i) (hi : i < l.length) (hb : l.getD i 0 = by_) : splitOn by_ ((l.take i).drop f) (l.drop i) = (l.take i).drop f :: splitOn by_ ((l.take (i + 1)).drop (i + 1)) (l.drop (i + 1)) := by
  have hd : l.drop i = l.getD i 0 :: l.drop (i + 1) := by rw [List.drop_eq_getElem_cons hi]; simp [List.getD, hi]
  rw [hd, splitOn, if_pos hb, List.drop_of_length_le (l := l.take (i + 1)) (by simp; omega)]
theorem split_go {l : Bs} {by_ : UInt8} {i f : Nat} (hf : f ≤ i) (hi : i < l.length) (hb : ¬ l.getD i 0 = by_) : splitOn by_ ((l.take i).drop f) (l.drop i) = splitOn by_ ((l.take (i + 1)).drop f) (l.drop (i + 1)) := by
  have hd : l.drop i = l.getD i 0 :: l.drop (i + 1) := by rw [List.drop_eq_getElem_cons hi]; simp [List.getD, hi]
  rw [hd, splitOn, if_neg hb]
  congr 1
  rw [List.take_add_one, List.drop_append_of_le_length (by simp; omega)]
  simp [List.getD, hi]

set_option maxHeartbeats 1000000 in
theorem Parts_spec {l : Bs} {c : UInt8} (hl : l.length ≤ 100000000) : call prog (.fn 215 []) [.str l, .b8 c] st = some (newSl st 1 ((splitOn c [] l).map .str), st.tok1) := by
  refine call_of_W prog_215 ?_
  unfold F_posthornref04_Parts; dsimp only
  obtain ⟨T, hT⟩ : ∃ T, T = splitOn c [] l := ⟨_, rfl⟩
  rw [← hT]
  simp (maxSteps := 1000000) (disch := omega) only [abR, WO_consG, wantedA_eq, wantB, evOp, ↓reduceIte, Nat.reduceEqDiff, List.nil_append, List.cons_append, List.append_nil, List.map_cons, List.map_nil, Option.map_some, Option.map_none, condW_bool, Bool.not_eq_true', decide_eq_true_eq, decide_eq_false_iff_not, decide_true, decide_false, Int.toNat_natCast, Int.ofNat_lt, Int.ofNat_le, Int.natCast_inj, Bool.false_eq_true, Bool.true_eq_false, extPV, List.getElem?_cons_zero, List.getElem?_cons_succ, nilckPV, Int.reduceToNat, Int.reduceLE, true_and, and_true, reduceCtorEq, or_false, false_or, or_true, Option.some.injEq, exists_eq_left', Bool.not_true, Bool.not_false, ne_eq, Int.reduceEq, not_true_eq_false, not_false_eq_true, Int.reduceLT, UInt8.reduceLT, UInt8.reduceLE, UInt8.reduceToNat]
  obtain ⟨Q0, hQ0⟩ : ∃ Q0 : Ex → Env → St → Prop, Q0 = endQ st [.tmp 4] (newSl st 1 (T.map .str), st.tok1) := ⟨_, rfl⟩
  rw [← hQ0]
  obtain ⟨I, hI⟩ : ∃ I : Nat → Env → St → Prop, I = fun k E S => ∃ (i f : Nat) (v : PV) (dn : List Bs), k = l.length + 1 - i ∧ f ≤ i ∧ i ≤ l.length + 1 ∧ Kept st S ∧ Own st S 1 v (dn.map .str) ∧ (dn = [] → v = .nils) ∧ dn.length ≤ i ∧ (if i ≤ l.length then T = dn ++ splitOn c ((l.take i).drop f) (l.drop i) ∧ f ≤ l.length else T = dn ∧ dn ≠ []) ∧ E 0 = .str l ∧ E 1 = .b8 c ∧ E 5 = v ∧ E 6 = .int .i64 (f : Int) ∧ E 7 = .int .i64 (i : Int) := ⟨_, rfl⟩
  refine W_loop I ?_ (n := l.length + 1) (by
    rw [hI]
    exact ⟨0, 0, .nils, [], rfl, by omega, by omega, Kept.start, .inl ⟨rfl, rfl⟩, fun _ => rfl, by simp, by rw [if_pos (by omega)]; exact ⟨by simpa using hT, by omega⟩, rfl, rfl, rfl, rfl, rfl⟩)
  intro k E S hh
  rw [hI] at hh
  obtain ⟨i, f, v, dn, rfl, hfi, hil, hk, ho, hne, hdi, hTT, h0, h1, h5, h6, h7⟩ := hh
  by_cases hlt : i ≤ l.length
  · rw [if_pos hlt] at hTT
    obtain ⟨hTT, hfl⟩ := hTT
    have hs : slcPV 0 (.str l) (some (.int .i64 (f : Int))) (some (.int .i64 (i : Int))) none = some (.str ((l.take i).drop f)) := by
      rw [slc_s (by omega) (by omega) (by omega)]; rfl
    obtain ⟨v1, S1, b1, k1, o1, _⟩ := hk.appV (u := .str ((l.take i).drop f)) (w := v) ho (by simp only [List.length_map, room]; omega)
    by_cases he : i = l.length
    · have he' : ((i : Int) = (l.length : Int)) := by omega
      simp (maxSteps := 1000000) (disch := omega) only [h0, h1, h5, h6, h7, len_s, hlt, eq_true he, hs, lit_s, freshT_eq, b1, add_n, loopQ_normal, abR, WO_consG, wantedA_eq, wantB, evOp, ↓reduceIte, Nat.reduceEqDiff, List.nil_append, List.cons_append, List.append_nil, List.map_cons, List.map_nil, Option.map_some, Option.map_none, condW_bool, Bool.not_eq_true', decide_eq_true_eq, decide_eq_false_iff_not, decide_true, decide_false, Int.toNat_natCast, Int.ofNat_lt, Int.ofNat_le, Int.natCast_inj, Bool.false_eq_true, Bool.true_eq_false, extPV, List.getElem?_cons_zero, List.getElem?_cons_succ, nilckPV, Int.reduceToNat, Int.reduceLE, true_and, and_true, reduceCtorEq, or_false, false_or, or_true, Option.some.injEq, exists_eq_left', Bool.not_true, Bool.not_false, ne_eq, Int.reduceEq, not_true_eq_false, not_false_eq_true, Int.reduceLT, UInt8.reduceLT, UInt8.reduceLE, UInt8.reduceToNat]
      refine ⟨l.length + 1 - (i + 1), by omega, ?_⟩
      rw [hI]
      refine ⟨i + 1, i + 1, v1, dn ++ [(l.take i).drop f], rfl, by omega, by omega, k1, by rw [List.map_append]; exact o1, fun h => by simp at h, by simp; omega, ?_, h0, h1, rfl, rfl, rfl⟩
      rw [if_neg (by omega)]
      refine ⟨?_, by simp⟩
      rw [hTT, he, List.drop_length]; simp [splitOn]
    · obtain ⟨x, hx⟩ : ∃ x, x = l.getD i 0 := ⟨_, rfl⟩
      have he2 : ¬ (i = l.length) := he
      by_cases hb : x = c
      · simp (maxSteps := 1000000) (disch := omega) only [h0, h1, h5, h6, h7, len_s, hlt, he2, idx_s, ← hx, eq_true hb, hs, lit_s, freshT_eq, b1, add_n, loopQ_normal, abR, WO_consG, wantedA_eq, wantB, evOp, ↓reduceIte, Nat.reduceEqDiff, List.nil_append, List.cons_append, List.append_nil, List.map_cons, List.map_nil, Option.map_some, Option.map_none, condW_bool, Bool.not_eq_true', decide_eq_true_eq, decide_eq_false_iff_not, decide_true, decide_false, Int.toNat_natCast, Int.ofNat_lt, Int.ofNat_le, Int.natCast_inj, Bool.false_eq_true, Bool.true_eq_false, extPV, List.getElem?_cons_zero, List.getElem?_cons_succ, nilckPV, Int.reduceToNat, Int.reduceLE, true_and, and_true, reduceCtorEq, or_false, false_or, or_true, Option.some.injEq, exists_eq_left', Bool.not_true, Bool.not_false, ne_eq, Int.reduceEq, not_true_eq_false, not_false_eq_true, Int.reduceLT, UInt8.reduceLT, UInt8.reduceLE, UInt8.reduceToNat]
        refine ⟨l.length + 1 - (i + 1), by omega, ?_⟩
        rw [hI]
        refine ⟨i + 1, i + 1, v1, dn ++ [(l.take i).drop f], rfl, by omega, by omega, k1, by rw [List.map_append]; exact o1, fun h => by simp at h, by simp; omega, ?_, h0, h1, rfl, rfl, rfl⟩
        rw [if_pos (by omega)]
        refine ⟨?_, by omega⟩
        rw [hTT, split_step hfi (by omega) (by rw [← hx]; exact hb)]; simp
      · simp (maxSteps := 1000000) (disch := omega) only [h0, h1, h5, h6, h7, len_s, hlt, he2, idx_s, ← hx, hb, add_n, loopQ_normal, abR, WO_consG, wantedA_eq, wantB, evOp, ↓reduceIte, Nat.reduceEqDiff, List.nil_append, List.cons_append, List.append_nil, List.map_cons, List.map_nil, Option.map_some, Option.map_none, condW_bool, Bool.not_eq_true', decide_eq_true_eq, decide_eq_false_iff_not, decide_true, decide_false, Int.toNat_natCast, Int.ofNat_lt, Int.ofNat_le, Int.natCast_inj, Bool.false_eq_true, Bool.true_eq_false, extPV, List.getElem?_cons_zero, List.getElem?_cons_succ, nilckPV, Int.reduceToNat, Int.reduceLE, true_and, and_true, reduceCtorEq, or_false, false_or, or_true, Option.some.injEq, exists_eq_left', Bool.not_true, Bool.not_false, ne_eq, Int.reduceEq, not_true_eq_false, not_false_eq_true, Int.reduceLT, UInt8.reduceLT, UInt8.reduceLE, UInt8.reduceToNat]
        refine ⟨l.length + 1 - (i + 1), by omega, ?_⟩
        rw [hI]
        refine ⟨i + 1, f, v, dn, rfl, by omega, by omega, hk, ho, hne, by omega, ?_, h0, h1, h5, h6, rfl⟩
        rw [if_pos (by omega)]
        exact ⟨by rw [hTT, split_go hfi (by omega) (by rw [← hx]; exact hb)], hfl⟩
  · rw [if_neg hlt] at hTT
    obtain ⟨hTT, hdn⟩ := hTT
    simp (maxSteps := 1000000) (disch := omega) only [h0, h1, h5, h6, h7, len_s, hlt, abR, WO_consG, wantedA_eq, wantB, evOp, ↓reduceIte, Nat.reduceEqDiff, List.nil_append, List.cons_append, List.append_nil, List.map_cons, List.map_nil, Option.map_some, Option.map_none, condW_bool, Bool.not_eq_true', decide_eq_true_eq, decide_eq_false_iff_not, decide_true, decide_false, Int.toNat_natCast, Int.ofNat_lt, Int.ofNat_le, Int.natCast_inj, Bool.false_eq_true, Bool.true_eq_false, extPV, List.getElem?_cons_zero, List.getElem?_cons_succ, nilckPV, Int.reduceToNat, Int.reduceLE, true_and, and_true, reduceCtorEq, or_false, false_or, or_true, Option.some.injEq, exists_eq_left', Bool.not_true, Bool.not_false, ne_eq, Int.reduceEq, not_true_eq_false, not_false_eq_true, Int.reduceLT, UInt8.reduceLT, UInt8.reduceLE, UInt8.reduceToNat]
    rw [hQ0, endQ_ret, hTT]
    refine ⟨v, by rcases ho with ⟨hv, _⟩ | ⟨j, hv, _⟩ <;> simp [resOf, rvAll, rv1, upd_eq, h5, hv, notTup, packRes], ?_⟩
    rw [hk.leaveOwn1 ho (fun h => hne (by simpa using h))]
    cases dn with
    | nil => exact absurd rfl hdn
    | cons a r => rfl

theorem guardV_un {A : AP} {g : Nat} {b : Bool} {d : Option Nat} {op : AOp} {r : List AOper} {Q : Env → St → Prop} : guardV A .undef g b d op r e st Q = WO A r (updO e d .undef) st Q := rfl
theorem Letter_spec {c : UInt8} : call prog (.fn 220 []) [.b8 c] st = some (.bool (alnC c), st) := by
  refine call_of_W prog_220 ?_
  unfold F_posthornref07_Letter; dsimp only
  have fin : ∀ {E : Env} (b : Bool), E 2 = .bool b → b = alnC c → ∃ rv, resOf E { boxes := st.boxes, toks := st.toks, loops := st.loops, low := st.boxes.length } [.tmp 2] = some rv ∧ leave st { boxes := st.boxes, toks := st.toks, loops := st.loops, low := st.boxes.length } rv = (.bool (alnC c), st) :=
    fun b h hb => retB h Kept.start hb
  simp (maxSteps := 1000000) (disch := omega) only [guardV_un, abR, WO_consG3, guardV_bool, guardT_tt, guardT_ff, guardT_tf, guardT_ft, condW_imp, imp_tt, imp_ff, imp_tf, imp_ft, imp_F, imp_T, implies_true, Decidable.not_not, forall_const, and_self, Bool.not_eq_false', evOp, ↓reduceIte, Nat.reduceEqDiff, List.nil_append, List.cons_append, List.append_nil, List.map_cons, List.map_nil, Option.map_some, Option.map_none, Bool.not_eq_true', decide_eq_true_eq, decide_eq_false_iff_not, decide_true, decide_false, Int.toNat_natCast, Int.ofNat_lt, Int.ofNat_le, Int.natCast_inj, Bool.false_eq_true, Bool.true_eq_false, extPV, List.getElem?_cons_zero, List.getElem?_cons_succ, nilckPV, Int.reduceToNat, Int.reduceLE, true_and, and_true, reduceCtorEq, or_false, false_or, or_true, Option.some.injEq, exists_eq_left', Bool.not_true, Bool.not_false, ne_eq, Int.reduceEq, not_true_eq_false, not_false_eq_true, Int.reduceLT, UInt8.reduceLT, UInt8.reduceLE, UInt8.reduceToNat]
  repeat' (first | refine And.intro ?_ ?_ | intro q)
  all_goals first | exact fin true rfl (by simp only [alnC, *, decide_true, decide_false, Bool.and_true, Bool.true_and, Bool.and_false, Bool.false_and, Bool.or_true, Bool.true_or, Bool.or_false, Bool.false_or, Bool.not_true, Bool.not_false, not_true_eq_false, not_false_eq_true]) | exact fin false rfl (by simp only [alnC, *, decide_true, decide_false, Bool.and_true, Bool.true_and, Bool.and_false, Bool.false_and, Bool.or_true, Bool.true_or, Bool.or_false, Bool.false_or, Bool.not_true, Bool.not_false, not_true_eq_false, not_false_eq_true]) | exact fin _ rfl (by simp only [alnC, *, decide_true, decide_false, Bool.and_true, Bool.true_and, Bool.and_false, Bool.false_and, Bool.or_true, Bool.true_or, Bool.or_false, Bool.false_or, Bool.not_true, Bool.not_false, not_true_eq_false, not_false_eq_true])

theorem has_one (c : UInt8) : hasB signs [c] = signs.contains c := by
  have := all8 (p := fun c => hasB signs [c] == signs.contains c) (by kernel_rfl) c
  simpa only [beq_iff_eq] using this
theorem take_one {l : Bs} {i : Nat} (h : i < l.length) : (l.take (i + 1)).drop i = [l.getD i 0] := by
  rw [List.take_add_one, List.drop_append_of_le_length (by simp; omega), List.drop_of_length_le (by simp; omega)]
  simp [List.getD, h]

theorem rAtom_spec {l : Bs} (hl : l.length ≤ 100000000) : call prog (.fn 219 []) [.str l] st = some (.bool (atomB l), st) := by
  refine call_of_W prog_219 ?_
  unfold F_posthornref07_Atom; dsimp only
  simp (maxSteps := 1000000) (disch := omega) only [len_s, abR, WO_consG3, guardV_bool, guardT_tt, guardT_ff, guardT_tf, guardT_ft, condW_imp, imp_tt, imp_ff, imp_tf, imp_ft, imp_F, imp_T, implies_true, Decidable.not_not, forall_const, and_self, Bool.not_eq_false', evOp, ↓reduceIte, Nat.reduceEqDiff, List.nil_append, List.cons_append, List.append_nil, List.map_cons, List.map_nil, Option.map_some, Option.map_none, Bool.not_eq_true', decide_eq_true_eq, decide_eq_false_iff_not, decide_true, decide_false, Int.toNat_natCast, Int.ofNat_lt, Int.ofNat_le, Int.natCast_inj, Bool.false_eq_true, Bool.true_eq_false, extPV, List.getElem?_cons_zero, List.getElem?_cons_succ, nilckPV, Int.reduceToNat, Int.reduceLE, true_and, and_true, reduceCtorEq, or_false, false_or, or_true, Option.some.injEq, exists_eq_left', Bool.not_true, Bool.not_false, ne_eq, Int.reduceEq, not_true_eq_false, not_false_eq_true, Int.reduceLT, UInt8.reduceLT, UInt8.reduceLE, UInt8.reduceToNat]
  obtain ⟨I, hI⟩ : ∃ I : Nat → Env → St → Prop, I = fun k e s' => ∃ (i : Nat), k = l.length - i ∧ i ≤ l.length ∧ Kept st s' ∧ (∀ j, j < i → atC (l.getD j 0) = true) ∧ e 0 = .str l ∧ e 3 = .int .i64 (i : Int) := ⟨_, rfl⟩
  refine W_loop I ?_ (n := l.length) (by
    rw [hI]
    exact ⟨0, rfl, by omega, Kept.start, fun j h => by omega, rfl, rfl⟩)
  intro k e s' hh
  rw [hI] at hh
  obtain ⟨i, rfl, hi, hk, hall, h0, h3⟩ := hh
  by_cases hlt : i < l.length
  · obtain ⟨c, hc⟩ : ∃ c, c = l.getD i 0 := ⟨_, rfl⟩
    have bad : atC c = false → ∀ E : Env, E 2 = .bool false → ∃ rv, resOf E s' [.tmp 2] = some rv ∧ leave st s' rv = (.bool (atomB l), st) := fun h E k2 =>
      retB k2 hk (by simp only [atomB, all_bad (p := atC) hlt (by rw [← hc]; exact h), Bool.false_and])
    have next : atC c = true → ∀ E : Env, E 0 = .str l → E 3 = .int .i64 ((i + 1 : Nat) : Int) → ∃ m, m < l.length - i ∧ I m E s' := fun h E k0 k3 =>
      ⟨l.length - (i + 1), by omega, by
        rw [hI]
        refine ⟨i + 1, rfl, by omega, hk, fun j hj => ?_, k0, k3⟩
        by_cases hji : j = i
        · subst hji; rw [← hc]; exact h
        · exact hall j (by omega)⟩
    have hs : slcPV 0 (.str l) (some (.int .i64 (i : Int))) (some (.int .i64 ((i + 1 : Nat) : Int))) none = some (.str [c]) := by
      rw [slc_s (by omega) (by omega) (by omega), Int.toNat_natCast, Int.toNat_natCast, take_one hlt, hc]
    have hH := fun S : St => Has_spec (st := S) (a := signs) (b := [c]) (by decide) (by simp)
    simp only [has_one] at hH
    simp only [signs] at hH
    cases ha : alnC c with
    | true =>
      have hL := fun S : St => Letter_spec (st := S) (c := c)
      rw [ha] at hL
      simp (maxSteps := 1000000) (disch := omega) only [h0, h3, hlt, len_s, idx_s, ← hc, hL, add_n, loopQ_normal, abR, WO_consG, wantedA_eq, wantB, evOp, ↓reduceIte, Nat.reduceEqDiff, List.nil_append, List.cons_append, List.append_nil, List.map_cons, List.map_nil, Option.map_some, Option.map_none, condW_bool, Bool.not_eq_true', decide_eq_true_eq, decide_eq_false_iff_not, decide_true, decide_false, Int.toNat_natCast, Int.ofNat_lt, Int.ofNat_le, Int.natCast_inj, Bool.false_eq_true, Bool.true_eq_false, extPV, List.getElem?_cons_zero, List.getElem?_cons_succ, nilckPV, Int.reduceToNat, Int.reduceLE, true_and, and_true, reduceCtorEq, or_false, false_or, or_true, Option.some.injEq, exists_eq_left', Bool.not_true, Bool.not_false, ne_eq, Int.reduceEq, not_true_eq_false, not_false_eq_true, Int.reduceLT, UInt8.reduceLT, UInt8.reduceLE, UInt8.reduceToNat]
      exact next (by simp only [atC, ha, decide_true, decide_false, Bool.and_true, Bool.true_and, Bool.and_false, Bool.false_and, Bool.or_true, Bool.true_or, Bool.or_false, Bool.false_or, Bool.not_true, Bool.not_false, not_true_eq_false, not_false_eq_true]) _ h0 rfl
    | false =>
      have hL := fun S : St => Letter_spec (st := S) (c := c)
      rw [ha] at hL
      cases hg : signs.contains c with
      | true =>
        simp only [signs] at hg
        rw [hg] at hH
        simp (maxSteps := 1000000) (disch := omega) only [h0, h3, hlt, len_s, idx_s, ← hc, hL, hs, hH, add_n, loopQ_normal, abR, WO_consG, wantedA_eq, wantB, evOp, ↓reduceIte, Nat.reduceEqDiff, List.nil_append, List.cons_append, List.append_nil, List.map_cons, List.map_nil, Option.map_some, Option.map_none, condW_bool, Bool.not_eq_true', decide_eq_true_eq, decide_eq_false_iff_not, decide_true, decide_false, Int.toNat_natCast, Int.ofNat_lt, Int.ofNat_le, Int.natCast_inj, Bool.false_eq_true, Bool.true_eq_false, extPV, List.getElem?_cons_zero, List.getElem?_cons_succ, nilckPV, Int.reduceToNat, Int.reduceLE, true_and, and_true, reduceCtorEq, or_false, false_or, or_true, Option.some.injEq, exists_eq_left', Bool.not_true, Bool.not_false, ne_eq, Int.reduceEq, not_true_eq_false, not_false_eq_true, Int.reduceLT, UInt8.reduceLT, UInt8.reduceLE, UInt8.reduceToNat]
        exact next (by simp only [atC, ha, signs, hg, decide_true, decide_false, Bool.and_true, Bool.true_and, Bool.and_false, Bool.false_and, Bool.or_true, Bool.true_or, Bool.or_false, Bool.false_or, Bool.not_true, Bool.not_false, not_true_eq_false, not_false_eq_true]) _ h0 rfl
      | false =>
        simp only [signs] at hg
        rw [hg] at hH
        simp (maxSteps := 1000000) (disch := omega) only [h0, h3, hlt, len_s, idx_s, ← hc, hL, hs, hH, add_n, abR, WO_consG, wantedA_eq, wantB, evOp, ↓reduceIte, Nat.reduceEqDiff, List.nil_append, List.cons_append, List.append_nil, List.map_cons, List.map_nil, Option.map_some, Option.map_none, condW_bool, Bool.not_eq_true', decide_eq_true_eq, decide_eq_false_iff_not, decide_true, decide_false, Int.toNat_natCast, Int.ofNat_lt, Int.ofNat_le, Int.natCast_inj, Bool.false_eq_true, Bool.true_eq_false, extPV, List.getElem?_cons_zero, List.getElem?_cons_succ, nilckPV, Int.reduceToNat, Int.reduceLE, true_and, and_true, reduceCtorEq, or_false, false_or, or_true, Option.some.injEq, exists_eq_left', Bool.not_true, Bool.not_false, ne_eq, Int.reduceEq, not_true_eq_false, not_false_eq_true, Int.reduceLT, UInt8.reduceLT, UInt8.reduceLE, UInt8.reduceToNat]
        exact bad (by simp only [atC, ha, signs, hg, decide_true, decide_false, Bool.and_true, Bool.true_and, Bool.and_false, Bool.false_and, Bool.or_true, Bool.true_or, Bool.or_false, Bool.false_or, Bool.not_true, Bool.not_false, not_true_eq_false, not_false_eq_true]) _ rfl
  · obtain rfl : i = l.length := by omega
    simp (maxSteps := 1000000) (disch := omega) only [h0, h3, hlt, len_s, abR, WO_consG, wantedA_eq, wantB, evOp, ↓reduceIte, Nat.reduceEqDiff, List.nil_append, List.cons_append, List.append_nil, List.map_cons, List.map_nil, Option.map_some, Option.map_none, condW_bool, Bool.not_eq_true', decide_eq_true_eq, decide_eq_false_iff_not, decide_true, decide_false, Int.toNat_natCast, Int.ofNat_lt, Int.ofNat_le, Int.natCast_inj, Bool.false_eq_true, Bool.true_eq_false, extPV, List.getElem?_cons_zero, List.getElem?_cons_succ, nilckPV, Int.reduceToNat, Int.reduceLE, true_and, and_true, reduceCtorEq, or_false, false_or, or_true, Option.some.injEq, exists_eq_left', Bool.not_true, Bool.not_false, ne_eq, Int.reduceEq, not_true_eq_false, not_false_eq_true, Int.reduceLT, UInt8.reduceLT, UInt8.reduceLE, UInt8.reduceToNat]
    refine retB rfl hk ?_
    simp only [atomB, all_getD (p := atC) hall, Bool.true_and]
    cases l <;> simp
end Go.Ab

/-
  The document's addresses: domains, plain addresses.
-/
namespace Go.Ab
set_option linter.unusedVariables false
set_option linter.unusedSimpArgs false
set_option maxRecDepth 20000
variable {st s : St} {e : Env}

theorem ratoms_spec {l : Bs} {c : UInt8} (hl : l.length ≤ 100000000) : call prog (.fn 217 []) [.str l, .b8 c] st = some (.bool (partsB c atomB l), st) := by
  refine call_of_W prog_217 ?_
  unfold F_posthornref07_atoms; dsimp only
  obtain ⟨xs, hxs⟩ : ∃ xs, xs = splitOn c [] l := ⟨_, rfl⟩
  have hsp := fun S : St => Parts_spec (st := S) (c := c) hl
  rw [← hxs] at hsp
  have hk1 : Kept st (St.tok1 ⟨st.boxes, st.toks, st.loops, st.boxes.length⟩) := Kept.start.tok1
  have hvs := newSl_vs (st := (⟨st.boxes, st.toks, st.loops, st.boxes.length⟩ : St)) (esz := 1) (xs := xs.map .str)
  obtain ⟨V, hV⟩ : ∃ V, V = newSl (⟨st.boxes, st.toks, st.loops, st.boxes.length⟩ : St) 1 (xs.map .str) := ⟨_, rfl⟩
  have hsp0 := hsp (⟨st.boxes, st.toks, st.loops, st.boxes.length⟩ : St)
  rw [← hV] at hvs hsp0
  have hlen : lenPV false V = some (.int .i64 (xs.length : Int)) := by rw [len_vs hvs, List.length_map]
  have hp : partsB c atomB l = xs.all atomB := by rw [hxs]; rfl
  have hxl : ∀ j, j < xs.length → (xs.getD j []).length ≤ 100000000 := fun j hj => by
    have hm : xs.getD j [] ∈ splitOn c [] l := by rw [← hxs]; simp [List.getD, hj]
    have := split_len l [] _ hm
    simp at this ⊢; omega
  have hnum : xs.length ≤ 100000001 := by
    have := split_num (sep := c) l []
    rw [← hxs] at this; omega
  rw [hp]
  simp (maxSteps := 1000000) (disch := omega) only [hsp0, abR, WO_consG, wantedA_eq, wantB, evOp, ↓reduceIte, Nat.reduceEqDiff, List.nil_append, List.cons_append, List.append_nil, List.map_cons, List.map_nil, Option.map_some, Option.map_none, condW_bool, Bool.not_eq_true', decide_eq_true_eq, decide_eq_false_iff_not, decide_true, decide_false, Int.toNat_natCast, Int.ofNat_lt, Int.ofNat_le, Int.natCast_inj, Bool.false_eq_true, Bool.true_eq_false, extPV, List.getElem?_cons_zero, List.getElem?_cons_succ, nilckPV, Int.reduceToNat, Int.reduceLE, true_and, and_true, reduceCtorEq, or_false, false_or, or_true, Option.some.injEq, exists_eq_left', Bool.not_true, Bool.not_false, ne_eq, Int.reduceEq, not_true_eq_false, not_false_eq_true, Int.reduceLT, UInt8.reduceLT, UInt8.reduceLE, UInt8.reduceToNat]
  obtain ⟨I, hI⟩ : ∃ I : Nat → Env → St → Prop, I = fun k e s' => ∃ (i : Nat), k = xs.length - i ∧ i ≤ xs.length ∧ Kept st s' ∧ (∀ j, j < i → atomB (xs.getD j []) = true) ∧ e 5 = V ∧ e 6 = .int .i64 (i : Int) := ⟨_, rfl⟩
  refine W_loop I ?_ (n := xs.length) (by
    rw [hI]
    exact ⟨0, rfl, by omega, hk1, fun j h => by omega, rfl, rfl⟩)
  intro k e s' hh
  rw [hI] at hh
  obtain ⟨i, rfl, hi, hk, hall, h5, h6⟩ := hh
  by_cases hlt : i < xs.length
  · obtain ⟨x, hx⟩ : ∃ x, x = xs.getD i [] := ⟨_, rfl⟩
    have hfx := fun S : St => rAtom_spec (st := S) (l := x) (by rw [hx]; exact hxl i hlt)
    cases hpx : atomB x with
    | false =>
      rw [hpx] at hfx
      simp (maxSteps := 1000000) (disch := omega) only [h5, h6, hlen, hlt, iaddr_t hvs, ← hx, load_cp1, hfx, abR, WO_consG, wantedA_eq, wantB, evOp, ↓reduceIte, Nat.reduceEqDiff, List.nil_append, List.cons_append, List.append_nil, List.map_cons, List.map_nil, Option.map_some, Option.map_none, condW_bool, Bool.not_eq_true', decide_eq_true_eq, decide_eq_false_iff_not, decide_true, decide_false, Int.toNat_natCast, Int.ofNat_lt, Int.ofNat_le, Int.natCast_inj, Bool.false_eq_true, Bool.true_eq_false, extPV, List.getElem?_cons_zero, List.getElem?_cons_succ, nilckPV, Int.reduceToNat, Int.reduceLE, true_and, and_true, reduceCtorEq, or_false, false_or, or_true, Option.some.injEq, exists_eq_left', Bool.not_true, Bool.not_false, ne_eq, Int.reduceEq, not_true_eq_false, not_false_eq_true, Int.reduceLT, UInt8.reduceLT, UInt8.reduceLE, UInt8.reduceToNat]
      exact retB rfl hk (all_bad' hlt (by rw [← hx]; exact hpx)).symm
    | true =>
      rw [hpx] at hfx
      simp (maxSteps := 1000000) (disch := omega) only [h5, h6, hlen, hlt, iaddr_t hvs, ← hx, load_cp1, hfx, add_n, abR, WO_consG, wantedA_eq, wantB, evOp, ↓reduceIte, Nat.reduceEqDiff, List.nil_append, List.cons_append, List.append_nil, List.map_cons, List.map_nil, Option.map_some, Option.map_none, condW_bool, Bool.not_eq_true', decide_eq_true_eq, decide_eq_false_iff_not, decide_true, decide_false, Int.toNat_natCast, Int.ofNat_lt, Int.ofNat_le, Int.natCast_inj, Bool.false_eq_true, Bool.true_eq_false, extPV, List.getElem?_cons_zero, List.getElem?_cons_succ, nilckPV, Int.reduceToNat, Int.reduceLE, true_and, and_true, reduceCtorEq, or_false, false_or, or_true, Option.some.injEq, exists_eq_left', Bool.not_true, Bool.not_false, ne_eq, Int.reduceEq, not_true_eq_false, not_false_eq_true, Int.reduceLT, UInt8.reduceLT, UInt8.reduceLE, UInt8.reduceToNat]
      refine loopQ_intro (m := xs.length - (i + 1)) (by omega) ?_
      rw [hI]
      refine ⟨i + 1, rfl, by omega, hk, fun j hj => ?_, h5, rfl⟩
      by_cases hji : j = i
      · subst hji; rw [← hx]; exact hpx
      · exact hall j (by omega)
  · obtain rfl : i = xs.length := by omega
    simp (maxSteps := 1000000) (disch := omega) only [h5, h6, hlen, hlt, abR, WO_consG, wantedA_eq, wantB, evOp, ↓reduceIte, Nat.reduceEqDiff, List.nil_append, List.cons_append, List.append_nil, List.map_cons, List.map_nil, Option.map_some, Option.map_none, condW_bool, Bool.not_eq_true', decide_eq_true_eq, decide_eq_false_iff_not, decide_true, decide_false, Int.toNat_natCast, Int.ofNat_lt, Int.ofNat_le, Int.natCast_inj, Bool.false_eq_true, Bool.true_eq_false, extPV, List.getElem?_cons_zero, List.getElem?_cons_succ, nilckPV, Int.reduceToNat, Int.reduceLE, true_and, and_true, reduceCtorEq, or_false, false_or, or_true, Option.some.injEq, exists_eq_left', Bool.not_true, Bool.not_false, ne_eq, Int.reduceEq, not_true_eq_false, not_false_eq_true, Int.reduceLT, UInt8.reduceLT, UInt8.reduceLE, UInt8.reduceToNat]
    exact retB rfl hk (all_getD' hall).symm

set_option maxHeartbeats 2000000 in
theorem rDomain_spec {l : Bs} (hl : l.length ≤ 100000000) : call prog (.fn 218 []) [.str l] st = some (.bool (decide (l.length ≤ 253) && partsB 46 labB l), st) := by
  refine call_of_W prog_218 ?_
  unfold F_posthornref07_Domain; dsimp only
  obtain ⟨xs, hxs⟩ : ∃ xs, xs = splitOn 46 [] l := ⟨_, rfl⟩
  have hsp := fun S : St => Parts_spec (st := S) (c := 46) hl
  rw [← hxs] at hsp
  have hk1 : Kept st (St.tok1 ⟨st.boxes, st.toks, st.loops, st.boxes.length⟩) := Kept.start.tok1
  have hvs := newSl_vs (st := (⟨st.boxes, st.toks, st.loops, st.boxes.length⟩ : St)) (esz := 1) (xs := xs.map .str)
  obtain ⟨V, hV⟩ : ∃ V, V = newSl (⟨st.boxes, st.toks, st.loops, st.boxes.length⟩ : St) 1 (xs.map .str) := ⟨_, rfl⟩
  have hsp0 := hsp (⟨st.boxes, st.toks, st.loops, st.boxes.length⟩ : St)
  rw [← hV] at hvs hsp0
  have hlen : lenPV false V = some (.int .i64 (xs.length : Int)) := by rw [len_vs hvs, List.length_map]
  have hp : partsB 46 labB l = xs.all labB := by rw [hxs]; rfl
  have hxl : ∀ j, j < xs.length → (xs.getD j []).length ≤ 100000000 := fun j hj => by
    have hm : xs.getD j [] ∈ splitOn 46 [] l := by rw [← hxs]; simp [List.getD, hj]
    have := split_len l [] _ hm
    simp at this ⊢; omega
  have hnum : xs.length ≤ 100000001 := by
    have := split_num (sep := 46) l []
    rw [← hxs] at this; omega
  rw [hp]
  simp (maxSteps := 1000000) (disch := omega) only [hsp0, abR, WO_consG, wantedA_eq, wantB, evOp, ↓reduceIte, Nat.reduceEqDiff, List.nil_append, List.cons_append, List.append_nil, List.map_cons, List.map_nil, Option.map_some, Option.map_none, condW_bool, Bool.not_eq_true', decide_eq_true_eq, decide_eq_false_iff_not, decide_true, decide_false, Int.toNat_natCast, Int.ofNat_lt, Int.ofNat_le, Int.natCast_inj, Bool.false_eq_true, Bool.true_eq_false, extPV, List.getElem?_cons_zero, List.getElem?_cons_succ, nilckPV, Int.reduceToNat, Int.reduceLE, true_and, and_true, reduceCtorEq, or_false, false_or, or_true, Option.some.injEq, exists_eq_left', Bool.not_true, Bool.not_false, ne_eq, Int.reduceEq, not_true_eq_false, not_false_eq_true, Int.reduceLT, UInt8.reduceLT, UInt8.reduceLE, UInt8.reduceToNat]
  obtain ⟨I, hI⟩ : ∃ I : Nat → Env → St → Prop, I = fun k e s' => ∃ (i : Nat), k = xs.length - i ∧ i ≤ xs.length ∧ Kept st s' ∧ (∀ j, j < i → labB (xs.getD j []) = true) ∧ e 0 = .str l ∧ e 3 = V ∧ e 4 = .int .i64 (i : Int) := ⟨_, rfl⟩
  refine W_loop I ?_ (n := xs.length) (by
    rw [hI]
    exact ⟨0, rfl, by omega, hk1, fun j h => by omega, rfl, rfl, rfl⟩)
  intro k e s' hh
  rw [hI] at hh
  obtain ⟨i, rfl, hi, hk, hall, h0, h3, h4⟩ := hh
  by_cases hlt : i < xs.length
  · obtain ⟨x, hx⟩ : ∃ x, x = xs.getD i [] := ⟨_, rfl⟩
    have hxl' : x.length ≤ 100000000 := by rw [hx]; exact hxl i hlt
    have bad : labB x = false → (decide (l.length ≤ 253) && xs.all labB) = false := fun h => by rw [all_bad' hlt (by rw [← hx]; exact h), Bool.and_false]
    have next : labB x = true → ∀ (E : Env) (S : St), Kept st S → E 0 = .str l → E 3 = V → E 4 = .int .i64 ((i + 1 : Nat) : Int) → ∃ m, m < xs.length - i ∧ I m E S := fun h E S q1 q2 q3 q4 =>
      ⟨xs.length - (i + 1), by omega, by
        rw [hI]
        refine ⟨i + 1, rfl, by omega, q1, fun j hj => ?_, q2, q3, q4⟩
        by_cases hji : j = i
        · subst hji; rw [← hx]; exact h
        · exact hall j (by omega)⟩
    clear hI hall
    by_cases n0 : x = []
    · have e0 : (x.length : Int) = 0 := by rw [n0]; rfl
      simp (maxSteps := 1000000) (disch := omega) only [h0, h3, h4, hlen, hlt, iaddr_t hvs, ← hx, load_cp1, len_s, eq_true e0, abR, WO_consG, wantedA_eq, wantB, evOp, ↓reduceIte, Nat.reduceEqDiff, List.nil_append, List.cons_append, List.append_nil, List.map_cons, List.map_nil, Option.map_some, Option.map_none, condW_bool, Bool.not_eq_true', decide_eq_true_eq, decide_eq_false_iff_not, decide_true, decide_false, Int.toNat_natCast, Int.ofNat_lt, Int.ofNat_le, Int.natCast_inj, Bool.false_eq_true, Bool.true_eq_false, extPV, List.getElem?_cons_zero, List.getElem?_cons_succ, nilckPV, Int.reduceToNat, Int.reduceLE, true_and, and_true, reduceCtorEq, or_false, false_or, or_true, Option.some.injEq, exists_eq_left', Bool.not_true, Bool.not_false, ne_eq, Int.reduceEq, not_true_eq_false, not_false_eq_true, Int.reduceLT, UInt8.reduceLT, UInt8.reduceLE, UInt8.reduceToNat]
      exact retB rfl hk (bad (by simp [labB, n0])).symm
    have hpos := List.length_pos_iff.2 n0
    have e0 : ¬ (x.length : Int) = 0 := by omega
    by_cases n63 : 63 < x.length
    · have e63 : (63 : Int) < (x.length : Int) := by omega
      simp (maxSteps := 1000000) (disch := omega) only [h0, h3, h4, hlen, hlt, iaddr_t hvs, ← hx, load_cp1, len_s, e0, e63, abR, WO_consG, wantedA_eq, wantB, evOp, ↓reduceIte, Nat.reduceEqDiff, List.nil_append, List.cons_append, List.append_nil, List.map_cons, List.map_nil, Option.map_some, Option.map_none, condW_bool, Bool.not_eq_true', decide_eq_true_eq, decide_eq_false_iff_not, decide_true, decide_false, Int.toNat_natCast, Int.ofNat_lt, Int.ofNat_le, Int.natCast_inj, Bool.false_eq_true, Bool.true_eq_false, extPV, List.getElem?_cons_zero, List.getElem?_cons_succ, nilckPV, Int.reduceToNat, Int.reduceLE, true_and, and_true, reduceCtorEq, or_false, false_or, or_true, Option.some.injEq, exists_eq_left', Bool.not_true, Bool.not_false, ne_eq, Int.reduceEq, not_true_eq_false, not_false_eq_true, Int.reduceLT, UInt8.reduceLT, UInt8.reduceLE, UInt8.reduceToNat]
      exact retB rfl hk (bad (by simp [labB, show ¬ x.length ≤ 63 by omega])).symm
    have e63 : ¬ (63 : Int) < (x.length : Int) := by omega
    obtain ⟨a, ha⟩ : ∃ a, a = x.getD 0 0 := ⟨_, rfl⟩
    have i0 : idxSPV (.str x) (.int .i64 0) = some (.b8 a) := by rw [idx_s (by omega) (by simpa using hpos), ha]; rfl
    by_cases f0 : a = 45
    · simp (maxSteps := 1000000) (disch := omega) only [h0, h3, h4, hlen, hlt, iaddr_t hvs, ← hx, load_cp1, len_s, e0, e63, i0, eq_true f0, abR, WO_consG, wantedA_eq, wantB, evOp, ↓reduceIte, Nat.reduceEqDiff, List.nil_append, List.cons_append, List.append_nil, List.map_cons, List.map_nil, Option.map_some, Option.map_none, condW_bool, Bool.not_eq_true', decide_eq_true_eq, decide_eq_false_iff_not, decide_true, decide_false, Int.toNat_natCast, Int.ofNat_lt, Int.ofNat_le, Int.natCast_inj, Bool.false_eq_true, Bool.true_eq_false, extPV, List.getElem?_cons_zero, List.getElem?_cons_succ, nilckPV, Int.reduceToNat, Int.reduceLE, true_and, and_true, reduceCtorEq, or_false, false_or, or_true, Option.some.injEq, exists_eq_left', Bool.not_true, Bool.not_false, ne_eq, Int.reduceEq, not_true_eq_false, not_false_eq_true, Int.reduceLT, UInt8.reduceLT, UInt8.reduceLE, UInt8.reduceToNat]
      exact retB rfl hk (bad (by simp only [labB, ← ha, f0, decide_true, decide_false, Bool.and_true, Bool.true_and, Bool.and_false, Bool.false_and, Bool.or_true, Bool.true_or, Bool.or_false, Bool.false_or, Bool.not_true, Bool.not_false, not_true_eq_false, not_false_eq_true])).symm
    obtain ⟨z, hz⟩ : ∃ z, z = x.getD (x.length - 1) 0 := ⟨_, rfl⟩
    have i1 : idxSPV (.str x) (.int .i64 ((x.length - 1 : Nat) : Int)) = some (.b8 z) := by rw [idx_s (by omega) (by rw [Int.toNat_natCast]; omega), hz]; rfl
    have hsub : binPV .sub .no (.int .i64 (x.length : Int)) (.int .i64 1) = some (.int .i64 ((x.length - 1 : Nat) : Int)) := by
      rw [sub_n (by omega) (by simp; omega) (by omega)]; rfl
    by_cases f1 : z = 45
    · simp (maxSteps := 1000000) (disch := omega) only [h0, h3, h4, hlen, hlt, iaddr_t hvs, ← hx, load_cp1, len_s, e0, e63, i0, f0, hsub, i1, eq_true f1, abR, WO_consG, wantedA_eq, wantB, evOp, ↓reduceIte, Nat.reduceEqDiff, List.nil_append, List.cons_append, List.append_nil, List.map_cons, List.map_nil, Option.map_some, Option.map_none, condW_bool, Bool.not_eq_true', decide_eq_true_eq, decide_eq_false_iff_not, decide_true, decide_false, Int.toNat_natCast, Int.ofNat_lt, Int.ofNat_le, Int.natCast_inj, Bool.false_eq_true, Bool.true_eq_false, extPV, List.getElem?_cons_zero, List.getElem?_cons_succ, nilckPV, Int.reduceToNat, Int.reduceLE, true_and, and_true, reduceCtorEq, or_false, false_or, or_true, Option.some.injEq, exists_eq_left', Bool.not_true, Bool.not_false, ne_eq, Int.reduceEq, not_true_eq_false, not_false_eq_true, Int.reduceLT, UInt8.reduceLT, UInt8.reduceLE, UInt8.reduceToNat]
      exact retB rfl hk (bad (by simp only [labB, ← hz, f1, decide_true, decide_false, Bool.and_true, Bool.true_and, Bool.and_false, Bool.false_and, Bool.or_true, Bool.true_or, Bool.or_false, Bool.false_or, Bool.not_true, Bool.not_false, not_true_eq_false, not_false_eq_true])).symm
    have he : x.isEmpty = false := by cases x with | nil => exact absurd rfl n0 | cons a r => rfl
    have hlab : labB x = x.all labC := by
      have : x.length ≤ 63 := by omega
      simp only [labB, he, this, ← ha, ← hz, f0, f1, decide_true, decide_false, Bool.and_true, Bool.true_and, Bool.and_false, Bool.false_and, Bool.or_true, Bool.true_or, Bool.or_false, Bool.false_or, Bool.not_true, Bool.not_false, not_true_eq_false, not_false_eq_true]
    simp (maxSteps := 1000000) (disch := omega) only [h0, h3, h4, hlen, hlt, iaddr_t hvs, ← hx, load_cp1, len_s, e0, e63, i0, f0, hsub, i1, f1, abR, WO_consG, wantedA_eq, wantB, evOp, ↓reduceIte, Nat.reduceEqDiff, List.nil_append, List.cons_append, List.append_nil, List.map_cons, List.map_nil, Option.map_some, Option.map_none, condW_bool, Bool.not_eq_true', decide_eq_true_eq, decide_eq_false_iff_not, decide_true, decide_false, Int.toNat_natCast, Int.ofNat_lt, Int.ofNat_le, Int.natCast_inj, Bool.false_eq_true, Bool.true_eq_false, extPV, List.getElem?_cons_zero, List.getElem?_cons_succ, nilckPV, Int.reduceToNat, Int.reduceLE, true_and, and_true, reduceCtorEq, or_false, false_or, or_true, Option.some.injEq, exists_eq_left', Bool.not_true, Bool.not_false, ne_eq, Int.reduceEq, not_true_eq_false, not_false_eq_true, Int.reduceLT, UInt8.reduceLT, UInt8.reduceLE, UInt8.reduceToNat]
    refine W_mono (Q := fun y E S => (y = .ret ∧ x.all labC = false ∧ E 2 = .bool false ∧ Kept st S) ∨ (y = .exit 2 ∧ x.all labC = true ∧ Kept st S ∧ E 0 = .str l ∧ E 3 = V ∧ E 4 = .int .i64 (i : Int))) ?_ ?_
    · obtain ⟨J, hJ⟩ : ∃ J : Ex → Env → St → Prop, J = fun y E S => (y = .ret ∧ x.all labC = false ∧ E 2 = .bool false ∧ Kept st S) ∨ (y = .exit 2 ∧ x.all labC = true ∧ Kept st S ∧ E 0 = .str l ∧ E 3 = V ∧ E 4 = .int .i64 (i : Int)) := ⟨_, rfl⟩
      rw [← hJ]
      obtain ⟨I2, hI2⟩ : ∃ I2 : Nat → Env → St → Prop, I2 = fun k E S => ∃ (q : Nat), k = x.length - q ∧ q ≤ x.length ∧ Kept st S ∧ (∀ j, j < q → labC (x.getD j 0) = true) ∧ E 0 = .str l ∧ E 3 = V ∧ E 4 = .int .i64 (i : Int) ∧ E 5 = .str x ∧ E 6 = .int .i64 (q : Int) := ⟨_, rfl⟩
      refine W_loop I2 ?_ (n := x.length) (by
        rw [hI2]
        exact ⟨0, rfl, by omega, hk, fun j h => by omega, h0, h3, h4, rfl, rfl⟩)
      intro k E S hh
      rw [hI2] at hh
      obtain ⟨q, rfl, hq, hk2, hal, g0, g3, g4, g5, g6⟩ := hh
      by_cases hql : q < x.length
      · obtain ⟨c, hc⟩ : ∃ c, c = x.getD q 0 := ⟨_, rfl⟩
        have hL := fun S : St => Letter_spec (st := S) (c := c)
        have nx : labC c = true → ∀ E : Env, E 0 = .str l → E 3 = V → E 4 = .int .i64 (i : Int) → E 5 = .str x → E 6 = .int .i64 ((q + 1 : Nat) : Int) → ∃ m, m < x.length - q ∧ I2 m E S := fun h E q1 q2 q3 q4 q5 =>
          ⟨x.length - (q + 1), by omega, by
            rw [hI2]
            refine ⟨q + 1, rfl, by omega, hk2, fun j hj => ?_, q1, q2, q3, q4, q5⟩
            by_cases hji : j = q
            · subst hji; rw [← hc]; exact h
            · exact hal j (by omega)⟩
        cases hac : alnC c with
        | true =>
          rw [hac] at hL
          simp (maxSteps := 1000000) (disch := omega) only [g0, g3, g4, g5, g6, len_s, hql, idx_s, ← hc, hL, add_n, loopQ_normal, abR, WO_consG, wantedA_eq, wantB, evOp, ↓reduceIte, Nat.reduceEqDiff, List.nil_append, List.cons_append, List.append_nil, List.map_cons, List.map_nil, Option.map_some, Option.map_none, condW_bool, Bool.not_eq_true', decide_eq_true_eq, decide_eq_false_iff_not, decide_true, decide_false, Int.toNat_natCast, Int.ofNat_lt, Int.ofNat_le, Int.natCast_inj, Bool.false_eq_true, Bool.true_eq_false, extPV, List.getElem?_cons_zero, List.getElem?_cons_succ, nilckPV, Int.reduceToNat, Int.reduceLE, true_and, and_true, reduceCtorEq, or_false, false_or, or_true, Option.some.injEq, exists_eq_left', Bool.not_true, Bool.not_false, ne_eq, Int.reduceEq, not_true_eq_false, not_false_eq_true, Int.reduceLT, UInt8.reduceLT, UInt8.reduceLE, UInt8.reduceToNat]
          exact nx (by simp only [labC, hac, decide_true, decide_false, Bool.and_true, Bool.true_and, Bool.and_false, Bool.false_and, Bool.or_true, Bool.true_or, Bool.or_false, Bool.false_or, Bool.not_true, Bool.not_false, not_true_eq_false, not_false_eq_true]) _ g0 g3 g4 g5 rfl
        | false =>
          rw [hac] at hL
          by_cases hcd : c = 45
          · simp (maxSteps := 1000000) (disch := omega) only [g0, g3, g4, g5, g6, len_s, hql, idx_s, ← hc, hL, eq_true hcd, add_n, loopQ_normal, abR, WO_consG, wantedA_eq, wantB, evOp, ↓reduceIte, Nat.reduceEqDiff, List.nil_append, List.cons_append, List.append_nil, List.map_cons, List.map_nil, Option.map_some, Option.map_none, condW_bool, Bool.not_eq_true', decide_eq_true_eq, decide_eq_false_iff_not, decide_true, decide_false, Int.toNat_natCast, Int.ofNat_lt, Int.ofNat_le, Int.natCast_inj, Bool.false_eq_true, Bool.true_eq_false, extPV, List.getElem?_cons_zero, List.getElem?_cons_succ, nilckPV, Int.reduceToNat, Int.reduceLE, true_and, and_true, reduceCtorEq, or_false, false_or, or_true, Option.some.injEq, exists_eq_left', Bool.not_true, Bool.not_false, ne_eq, Int.reduceEq, not_true_eq_false, not_false_eq_true, Int.reduceLT, UInt8.reduceLT, UInt8.reduceLE, UInt8.reduceToNat]
            exact nx (by simp only [labC, hac, hcd, decide_true, decide_false, Bool.and_true, Bool.true_and, Bool.and_false, Bool.false_and, Bool.or_true, Bool.true_or, Bool.or_false, Bool.false_or, Bool.not_true, Bool.not_false, not_true_eq_false, not_false_eq_true]) _ g0 g3 g4 g5 rfl
          · simp (maxSteps := 1000000) (disch := omega) only [g0, g3, g4, g5, g6, len_s, hql, idx_s, ← hc, hL, hcd, abR, WO_consG, wantedA_eq, wantB, evOp, ↓reduceIte, Nat.reduceEqDiff, List.nil_append, List.cons_append, List.append_nil, List.map_cons, List.map_nil, Option.map_some, Option.map_none, condW_bool, Bool.not_eq_true', decide_eq_true_eq, decide_eq_false_iff_not, decide_true, decide_false, Int.toNat_natCast, Int.ofNat_lt, Int.ofNat_le, Int.natCast_inj, Bool.false_eq_true, Bool.true_eq_false, extPV, List.getElem?_cons_zero, List.getElem?_cons_succ, nilckPV, Int.reduceToNat, Int.reduceLE, true_and, and_true, reduceCtorEq, or_false, false_or, or_true, Option.some.injEq, exists_eq_left', Bool.not_true, Bool.not_false, ne_eq, Int.reduceEq, not_true_eq_false, not_false_eq_true, Int.reduceLT, UInt8.reduceLT, UInt8.reduceLE, UInt8.reduceToNat]
            rw [hJ]
            exact .inl ⟨rfl, all_bad (p := labC) hql (by rw [← hc]; simp only [labC, hac, hcd, decide_true, decide_false, Bool.and_true, Bool.true_and, Bool.and_false, Bool.false_and, Bool.or_true, Bool.true_or, Bool.or_false, Bool.false_or, Bool.not_true, Bool.not_false, not_true_eq_false, not_false_eq_true]), rfl, hk2⟩
      · obtain rfl : q = x.length := by omega
        simp (maxSteps := 1000000) (disch := omega) only [g0, g3, g4, g5, g6, len_s, hql, abR, WO_consG, wantedA_eq, wantB, evOp, ↓reduceIte, Nat.reduceEqDiff, List.nil_append, List.cons_append, List.append_nil, List.map_cons, List.map_nil, Option.map_some, Option.map_none, condW_bool, Bool.not_eq_true', decide_eq_true_eq, decide_eq_false_iff_not, decide_true, decide_false, Int.toNat_natCast, Int.ofNat_lt, Int.ofNat_le, Int.natCast_inj, Bool.false_eq_true, Bool.true_eq_false, extPV, List.getElem?_cons_zero, List.getElem?_cons_succ, nilckPV, Int.reduceToNat, Int.reduceLE, true_and, and_true, reduceCtorEq, or_false, false_or, or_true, Option.some.injEq, exists_eq_left', Bool.not_true, Bool.not_false, ne_eq, Int.reduceEq, not_true_eq_false, not_false_eq_true, Int.reduceLT, UInt8.reduceLT, UInt8.reduceLE, UInt8.reduceToNat]
        rw [hJ]
        exact .inr ⟨rfl, all_getD (p := labC) hal, hk2, g0, g3, g4⟩
    · rintro y E S (⟨rfl, hb, g2, hk2⟩ | ⟨rfl, hb, hk2, g0, g3, g4⟩)
      · simp (maxSteps := 1000000) (disch := omega) only [abR, WO_consG, wantedA_eq, wantB, evOp, ↓reduceIte, Nat.reduceEqDiff, List.nil_append, List.cons_append, List.append_nil, List.map_cons, List.map_nil, Option.map_some, Option.map_none, condW_bool, Bool.not_eq_true', decide_eq_true_eq, decide_eq_false_iff_not, decide_true, decide_false, Int.toNat_natCast, Int.ofNat_lt, Int.ofNat_le, Int.natCast_inj, Bool.false_eq_true, Bool.true_eq_false, extPV, List.getElem?_cons_zero, List.getElem?_cons_succ, nilckPV, Int.reduceToNat, Int.reduceLE, true_and, and_true, reduceCtorEq, or_false, false_or, or_true, Option.some.injEq, exists_eq_left', Bool.not_true, Bool.not_false, ne_eq, Int.reduceEq, not_true_eq_false, not_false_eq_true, Int.reduceLT, UInt8.reduceLT, UInt8.reduceLE, UInt8.reduceToNat]
        exact retB g2 hk2 (bad (by rw [hlab]; exact hb)).symm
      · simp (maxSteps := 1000000) (disch := omega) only [g0, g3, g4, add_n, loopQ_normal, abR, WO_consG, wantedA_eq, wantB, evOp, ↓reduceIte, Nat.reduceEqDiff, List.nil_append, List.cons_append, List.append_nil, List.map_cons, List.map_nil, Option.map_some, Option.map_none, condW_bool, Bool.not_eq_true', decide_eq_true_eq, decide_eq_false_iff_not, decide_true, decide_false, Int.toNat_natCast, Int.ofNat_lt, Int.ofNat_le, Int.natCast_inj, Bool.false_eq_true, Bool.true_eq_false, extPV, List.getElem?_cons_zero, List.getElem?_cons_succ, nilckPV, Int.reduceToNat, Int.reduceLE, true_and, and_true, reduceCtorEq, or_false, false_or, or_true, Option.some.injEq, exists_eq_left', Bool.not_true, Bool.not_false, ne_eq, Int.reduceEq, not_true_eq_false, not_false_eq_true, Int.reduceLT, UInt8.reduceLT, UInt8.reduceLE, UInt8.reduceToNat]
        exact next (by rw [hlab]; exact hb) _ _ hk2 g0 g3 rfl
  · obtain rfl : i = xs.length := by omega
    simp (maxSteps := 1000000) (disch := omega) only [h0, h3, h4, hlen, hlt, len_s, abR, WO_consG, wantedA_eq, wantB, evOp, ↓reduceIte, Nat.reduceEqDiff, List.nil_append, List.cons_append, List.append_nil, List.map_cons, List.map_nil, Option.map_some, Option.map_none, condW_bool, Bool.not_eq_true', decide_eq_true_eq, decide_eq_false_iff_not, decide_true, decide_false, Int.toNat_natCast, Int.ofNat_lt, Int.ofNat_le, Int.natCast_inj, Bool.false_eq_true, Bool.true_eq_false, extPV, List.getElem?_cons_zero, List.getElem?_cons_succ, nilckPV, Int.reduceToNat, Int.reduceLE, true_and, and_true, reduceCtorEq, or_false, false_or, or_true, Option.some.injEq, exists_eq_left', Bool.not_true, Bool.not_false, ne_eq, Int.reduceEq, not_true_eq_false, not_false_eq_true, Int.reduceLT, UInt8.reduceLT, UInt8.reduceLE, UInt8.reduceToNat]
    have e253 : ((l.length : Int) ≤ 253) = (l.length ≤ 253) := by apply propext; omega
    exact retB rfl hk (by rw [all_getD' hall, Bool.and_true]; simp only [e253])
end Go.Ab

/-
  The calendar: plain.
-/
namespace Go.Ab
set_option linter.unusedVariables false
set_option linter.unusedSimpArgs false
set_option maxRecDepth 20000

/-- Is a year a leap year? -/
def lpY (y : Nat) : Bool := (y % 4 == 0 && y % 100 != 0) || y % 400 == 0
/-- How many days a year has. -/
def ydY (y : Nat) : Nat := if lpY y then 366 else 365
/-- How many days lie ahead of a year, from 1970 on. -/
def befY (y : Nat) : Nat := 365 * (y - 1970) + (y - 1) / 4 + (y - 1) / 400 - ((y - 1) / 100 + 477)
/-- How many days a month has. -/
def mdY (y m : Nat) : Nat := if m = 2 then (if lpY y then 29 else 28) else if m = 4 ∨ m = 6 ∨ m = 9 ∨ m = 11 then 30 else 31
/-- How many days of the year lie ahead of a month. -/
def cumY (y : Nat) : Nat → Nat
  | 0 => 0
  | m + 1 => cumY y m + if m = 0 then 0 else mdY y m

theorem lp_cases (y : Nat) : (lpY y = true ∧ (y % 4 = 0 ∧ y % 100 ≠ 0 ∨ y % 400 = 0)) ∨ (lpY y = false ∧ ¬ (y % 4 = 0 ∧ y % 100 ≠ 0 ∨ y % 400 = 0)) := by
  by_cases h1 : y % 4 = 0 <;> by_cases h2 : y % 100 = 0 <;> by_cases h3 : y % 400 = 0 <;> simp [lpY, h1, h2, h3]

theorem bef_1 (k : Nat) : befY (1970 + k) = 365 * k + (1969 + k) / 4 + (1969 + k) / 400 - ((1969 + k) / 100 + 477) := by
  unfold befY
  rw [show 1970 + k - 1970 = k by omega, show 1970 + k - 1 = 1969 + k by omega]
theorem bef_2 (k : Nat) : befY (1970 + k + 1) = 365 * (k + 1) + (1970 + k) / 4 + (1970 + k) / 400 - ((1970 + k) / 100 + 477) := by
  unfold befY
  rw [show 1970 + k + 1 - 1970 = k + 1 by omega, show 1970 + k + 1 - 1 = 1970 + k by omega]
theorem bef_succ {y : Nat} (h : 1970 ≤ y) : befY (y + 1) = befY y + ydY y := by
  obtain ⟨k, rfl⟩ : ∃ k, y = 1970 + k := ⟨y - 1970, by omega⟩
  by_cases hk : k = 0
  · subst hk; decide
  rw [bef_1, bef_2]
  rcases lp_cases (1970 + k) with ⟨h1, h2⟩ | ⟨h1, h2⟩
  · rw [show ydY (1970 + k) = 366 by unfold ydY; rw [h1]; rfl]; omega
  · rw [show ydY (1970 + k) = 365 by unfold ydY; rw [h1]; rfl]; omega

theorem yd_bound (y : Nat) : 365 ≤ ydY y ∧ ydY y ≤ 366 := by
  rcases lp_cases y with ⟨h1, h2⟩ | ⟨h1, h2⟩ <;> simp [ydY, h1]

theorem bef_mono {a : Nat} (ha : 1970 ≤ a) : ∀ {b : Nat}, a ≤ b → befY a ≤ befY b := by
  intro b h
  induction b with
  | zero => omega
  | succ b ih =>
    by_cases hb : a = b + 1
    · subst hb; exact Nat.le_refl _
    · have := ih (by omega)
      have h2 := bef_succ (y := b) (by omega)
      omega

theorem md_bound (y m : Nat) : 28 ≤ mdY y m ∧ mdY y m ≤ 31 := by
  unfold mdY; split
  · split <;> omega
  · split <;> omega

theorem cum_succ (y : Nat) {m : Nat} (h : m ≠ 0) : cumY y (m + 1) = cumY y m + mdY y m := by simp [cumY, h]
theorem cum_13 (y : Nat) : cumY y 13 = ydY y := by
  rcases lp_cases y with ⟨h1, h2⟩ | ⟨h1, h2⟩ <;> simp [cumY, mdY, ydY, h1]
theorem cum_1 (y : Nat) : cumY y 1 = 0 := rfl
theorem cum_mono (y : Nat) {a : Nat} : ∀ {b : Nat}, a ≤ b → cumY y a ≤ cumY y b := by
  intro b h
  induction b with
  | zero => have : a = 0 := by omega
            subst this; exact Nat.le_refl _
  | succ b ih =>
    by_cases hb : a = b + 1
    · subst hb; exact Nat.le_refl _
    · have := ih (by omega)
      simp only [cumY]; omega

/-- The day n is the day d of the month m of the year y. -/
structure Ci (n y m d : Nat) : Prop where
  y1 : 1970 ≤ y
  y2 : y ≤ 9999
  m1 : 1 ≤ m
  m2 : m ≤ 12
  d1 : 1 ≤ d
  d2 : d ≤ mdY y m
  eq : n + 1 = befY y + cumY y m + d

theorem Ci.yr {n y m d : Nat} (h : Ci n y m d) : befY y ≤ n ∧ n < befY (y + 1) := by
  have h1 := bef_succ h.y1
  have h2 := cum_succ y (m := m) (by have := h.m1; omega)
  have h3 := cum_mono y (a := m + 1) (b := 13) (by have := h.m2; omega)
  have h4 := cum_13 y
  have := h.d1; have := h.d2; have := h.eq
  omega

theorem Ci.uniq {n y m d y' m' d' : Nat} (h : Ci n y m d) (k : Ci n y' m' d') : y = y' ∧ m = m' ∧ d = d' := by
  have a := h.yr
  have b := k.yr
  have hy : y = y' := by
    rcases Nat.lt_trichotomy y y' with h1 | h1 | h1
    · have := bef_mono (a := y + 1) (b := y') (by have := h.y1; omega) (by omega); omega
    · exact h1
    · have := bef_mono (a := y' + 1) (b := y) (by have := k.y1; omega) (by omega); omega
  subst hy
  have hm : m = m' := by
    have e1 := h.eq; have e2 := k.eq; have := h.d1; have := h.d2; have := k.d1; have := k.d2; have := h.m1; have := k.m1
    rcases Nat.lt_trichotomy m m' with h1 | h1 | h1
    · have := cum_mono y (a := m + 1) (b := m') (by omega)
      have := cum_succ y (m := m) (by omega); omega
    · exact h1
    · have := cum_mono y (a := m' + 1) (b := m) (by omega)
      have := cum_succ y (m := m') (by omega); omega
  subst hm
  have e1 := h.eq; have e2 := k.eq
  exact ⟨rfl, rfl, by omega⟩

theorem bef_1970 : befY 1970 = 0 := by decide
theorem bef_10000 : befY 10000 = 2932897 := by decide

/-- There is such a day. -/
theorem ci_ex {n : Nat} (hn : n ≤ 2932896) : ∃ y m d, Ci n y m d := by
  have hy : ∃ y, 1970 ≤ y ∧ y ≤ 9999 ∧ befY y ≤ n ∧ n < befY (y + 1) := by
    have : ∀ k, k ≤ 8030 → befY (1970 + k) ≤ n ∨ ∃ y, 1970 ≤ y ∧ y ≤ 9999 ∧ befY y ≤ n ∧ n < befY (y + 1) := by
      intro k
      induction k with
      | zero => intro _; left; rw [show 1970 + 0 = 1970 from rfl, bef_1970]; omega
      | succ k ih =>
        intro hk
        rcases ih (by omega) with h | h
        · by_cases hc : befY (1970 + (k + 1)) ≤ n
          · exact .inl hc
          · exact .inr ⟨1970 + k, by omega, by omega, h, by rw [show 1970 + k + 1 = 1970 + (k + 1) from rfl]; omega⟩
        · exact .inr h
    rcases this 8030 (by omega) with h | h
    · rw [show 1970 + 8030 = 10000 from rfl, bef_10000] at h; omega
    · exact h
  obtain ⟨y, h1, h2, h3, h4⟩ := hy
  have hm : ∃ m, 1 ≤ m ∧ m ≤ 12 ∧ cumY y m ≤ n - befY y ∧ n - befY y < cumY y (m + 1) := by
    have : ∀ k, k ≤ 12 → cumY y (1 + k) ≤ n - befY y ∨ ∃ m, 1 ≤ m ∧ m ≤ 12 ∧ cumY y m ≤ n - befY y ∧ n - befY y < cumY y (m + 1) := by
      intro k
      induction k with
      | zero => intro _; left; rw [show 1 + 0 = 1 from rfl, cum_1]; omega
      | succ k ih =>
        intro hk
        rcases ih (by omega) with h | h
        · by_cases hc : cumY y (1 + (k + 1)) ≤ n - befY y
          · exact .inl hc
          · exact .inr ⟨1 + k, by omega, by omega, h, by rw [show 1 + k + 1 = 1 + (k + 1) from rfl]; omega⟩
        · exact .inr h
    rcases this 12 (by omega) with h | h
    · have := cum_13 y; have := bef_succ h1
      rw [show 1 + 12 = 13 from rfl] at h; omega
    · exact h
  obtain ⟨m, h5, h6, h7, h8⟩ := hm
  have := cum_succ y (m := m) (by omega)
  exact ⟨y, m, n - befY y - cumY y m + 1, h1, h2, h5, h6, by omega, by omega, by omega⟩

theorem ci_le {n y m d : Nat} (h : Ci n y m d) : n ≤ 2932896 := by
  have := h.yr
  have := bef_mono (a := y + 1) (b := 10000) (by have := h.y1; omega) (by have := h.y2; omega)
  have := bef_10000; omega

end Go.Ab

/-
  Dates: two digits, names, the calendar's walk (the program's).
-/
namespace Go.Ab
set_option linter.unusedVariables false
set_option linter.unusedSimpArgs false
set_option maxRecDepth 20000
variable {st s : St} {e : Env}

theorem quo_n {ek : EK} {a c : Nat} (hc : 0 < c) (h : a < 9223372036854775808) : binPV .quo ek (.int .i64 (a : Int)) (.int .i64 (c : Int)) = some (.int .i64 ((a / c : Nat) : Int)) := by
  rw [quo_i (by omega) (by omega) (by omega)]; rfl
theorem rem_n {ek : EK} {a c : Nat} (hc : 0 < c) : binPV .rem ek (.int .i64 (a : Int)) (.int .i64 (c : Int)) = some (.int .i64 ((a % c : Nat) : Int)) := by
  rw [rem_i (by omega)]; rfl
theorem mul_n {ek : EK} {a c : Nat} (h : c * a < 9223372036854775808) : binPV .mul ek (.int .i64 (c : Int)) (.int .i64 (a : Int)) = some (.int .i64 ((c * a : Nat) : Int)) := by
  have e : (c : Int) * (a : Int) = ((c * a : Nat) : Int) := by rw [Int.natCast_mul]
  simp only [binPV, binI, reduceIte, Option.some.injEq]
  rw [e, wrap64 (by omega) (by omega)]
theorem quo_10 {ek : EK} {a : Nat} (h : a < 9223372036854775808) : binPV .quo ek (.int .i64 (a : Int)) (.int .i64 10) = some (.int .i64 ((a / 10 : Nat) : Int)) := quo_n (c := 10) (by omega) h
theorem rem_10 {ek : EK} {a : Nat} : binPV .rem ek (.int .i64 (a : Int)) (.int .i64 10) = some (.int .i64 ((a % 10 : Nat) : Int)) := rem_n (c := 10) (by omega)
theorem cU8 {k : IntKind} {n : Nat} (h : n < 256) : cIntPV .u8 (.int k (n : Int)) = some (.b8 (UInt8.ofNat n)) := by
  simp only [cIntPV, Option.some.injEq]
  have : IntKind.u8.wrap (n : Int) = n := by
    unfold IntKind.wrap
    simp only [IntKind.signed, IntKind.bits]
    simp
    omega
  rw [this]; simp

/-- A number's last digit. -/
def dg (n : Nat) : UInt8 := UInt8.ofNat (48 + n % 10)
/-- .. its last two. -/
def twoT (n : Nat) : Bs := [dg (n / 10), dg n]

theorem two_spec {n : Nat} (h : n < 9223372036854775808) : call prog (.fn 276 []) [.int .i64 (n : Int)] st = some (.str (twoT n), st) := by
  refine call_of_W prog_276 ?_
  unfold F_date_two; dsimp only
  have hb : b2s false (St.tok1 ⟨st.boxes, st.toks, st.loops, st.boxes.length⟩) (.bys (.own st.toks.length) [UInt8.ofNat (48 + n / 10 % 10), UInt8.ofNat (48 + n % 10)]) = some [UInt8.ofNat (48 + n / 10 % 10), UInt8.ofNat (48 + n % 10)] := rfl
  simp (maxSteps := 1000000) (disch := omega) only [quo_10, rem_10, add_n', cU8, lit8_2, freshT_eq, hb, abR, WO_consG, wantedA_eq, wantB, evOp, ↓reduceIte, Nat.reduceEqDiff, List.nil_append, List.cons_append, List.append_nil, List.map_cons, List.map_nil, Option.map_some, Option.map_none, condW_bool, Bool.not_eq_true', decide_eq_true_eq, decide_eq_false_iff_not, decide_true, decide_false, Int.toNat_natCast, Int.ofNat_lt, Int.ofNat_le, Int.natCast_inj, Bool.false_eq_true, Bool.true_eq_false, extPV, List.getElem?_cons_zero, List.getElem?_cons_succ, nilckPV, Int.reduceToNat, Int.reduceLE, true_and, and_true, reduceCtorEq, or_false, false_or, or_true, Option.some.injEq, exists_eq_left', Bool.not_true, Bool.not_false, ne_eq, Int.reduceEq, not_true_eq_false, not_false_eq_true, Int.reduceLT, UInt8.reduceLT, UInt8.reduceLE, UInt8.reduceToNat]
  exact retS rfl Kept.start.tok1 rfl

def dayNames : List Bs := [[77, 111, 110], [84, 117, 101], [87, 101, 100], [84, 104, 117], [70, 114, 105], [83, 97, 116], [83, 117, 110]]
def dayT (n : Nat) : Bs := dayNames.getD n []
def monNames : List Bs := [[], [74, 97, 110], [70, 101, 98], [77, 97, 114], [65, 112, 114], [77, 97, 121], [74, 117, 110], [74, 117, 108], [65, 117, 103], [83, 101, 112], [79, 99, 116], [78, 111, 118], [68, 101, 99]]
def monT (n : Nat) : Bs := monNames.getD n []

/-- A value that leads nowhere. -/
def plainP : PV → Bool
  | .int _ _ | .str _ | .b8 _ | .bool _ => true
  | _ => false
theorem plainP_inB {n : Nat} : ∀ cs : List PV, cs.all plainP = true → PV.inB.inBAll n cs = true ∧ cs.all leafOk = true ∧ hasTok cs = false
  | [], _ => ⟨rfl, rfl, rfl⟩
  | c :: cs, h => by
    simp only [List.all_cons, Bool.and_eq_true] at h
    obtain ⟨a, b, d⟩ := plainP_inB (n := n) cs h.2
    simp only [hasTok] at d
    cases c <;> simp_all [plainP, PV.inB.inBAll, PV.inB, leafOk, hasTok, tokOf]
theorem setRow_all : ∀ (vs pre z : List PV), z.length = vs.length → setCells (pre ++ z) pre.length vs = pre ++ vs
  | [], pre, z, h => by
    have : z = [] := List.length_eq_zero_iff.1 h
    subst this; rfl
  | v :: vs, pre, z, h => by
    cases z with
    | nil => simp at h
    | cons y z =>
      rw [setCells, List.set_append_right _ _ (Nat.le_refl _), Nat.sub_self, List.set_cons_zero]
      have := setRow_all vs (pre ++ [v]) z (by simpa using h)
      simpa using this
/-- A row of plain values is put into a new box. -/
theorem st_all {B : List (List PV)} {T : List Bool} {L : List LoopS} {lo n : Nat} {cs z : List PV} (hn : n = cs.length) (hl : z.length = cs.length) (hf : cs.all plainP = true) :
    storePV ⟨B ++ [z], T, L, lo⟩ n (.ptr B.length 0) (.agg cs) = some ⟨B ++ [cs], T, L, lo⟩ := by
  subst hn
  obtain ⟨a, b, d⟩ := plainP_inB (n := B.length + 1) cs hf
  have hs := setRow_all cs [] z hl
  simp only [List.nil_append, List.length_nil] at hs
  simp [storePV, PV.cells, PV.inB, a, b, d, hs, hl]
theorem ld_at {B : List (List PV)} {T : List Bool} {L : List LoopS} {lo : Nat} {cs : List PV} {i : Nat} {v : PV} (h : cs[i]? = some v) : loadPV ⟨B ++ [cs], T, L, lo⟩ false 1 (.ptr B.length (0 + i * 1)) = some v := by
  have hi := (List.getElem?_eq_some_iff.1 h)
  simp only [loadPV]
  rw [List.getElem?_append_right (Nat.le_refl _), Nat.sub_self]
  simp only [List.getElem?_cons_zero, readCells, Bool.false_eq_true, if_false]
  obtain ⟨h1, h2⟩ := hi
  rw [show 0 + i * 1 = i by omega, List.drop_eq_getElem_cons h1]
  simp only [h2]
theorem iaA {len b : Nat} {n : Int} (h0 : 0 ≤ n) (h1 : n < (len : Int)) : iaddrAPV len 1 (.ptr b 0) (.int .i64 n) = some (.ptr b (0 + n.toNat * 1)) := by
  simp [iaddrAPV, intOf, h0, h1, faddrPV]

theorem dayName_spec {n : Nat} (h : n < 7) : call prog (.fn 277 []) [.int .i64 (n : Int)] st = some (.str (dayT n), st) := by
  refine call_of_W prog_277 ?_
  unfold F_date_dayName; dsimp only
  have hb : buildCells [.str [], .str [], .str [], .str [], .str [], .str [], .str []] [(0, 1, .str [77, 111, 110]), (1, 1, .str [84, 117, 101]), (2, 1, .str [87, 101, 100]), (3, 1, .str [84, 104, 117]), (4, 1, .str [70, 114, 105]), (5, 1, .str [83, 97, 116]), (6, 1, .str [83, 117, 110])] = some (dayNames.map .str) := by rfl
  have hst : storePV ⟨st.boxes ++ [[.str [], .str [], .str [], .str [], .str [], .str [], .str []]], st.toks, st.loops, st.boxes.length⟩ 7 (.ptr st.boxes.length 0) (.agg (dayNames.map .str)) = some ⟨st.boxes ++ [dayNames.map .str], st.toks, st.loops, st.boxes.length⟩ := st_all rfl rfl rfl
  have hld : loadPV ⟨st.boxes ++ [dayNames.map .str], st.toks, st.loops, st.boxes.length⟩ false 1 (.ptr st.boxes.length (0 + ((n : Int)).toNat * 1)) = some (.str (dayT n)) := ld_at (by
    simp only [Int.toNat_natCast, List.getElem?_map]
    have h7 : n < dayNames.length := h
    simp [dayT, List.getD, h7])
  have hia : iaddrAPV 7 1 (.ptr st.boxes.length 0) (.int .i64 (n : Int)) = some (.ptr st.boxes.length (0 + ((n : Int)).toNat * 1)) := iaA (by omega) (by omega)
  simp only [Int.toNat_natCast] at hld hia
  simp (maxSteps := 1000000) (disch := omega) only [hb, allocPV, hst, hia, hld, abR, WO_consG, wantedA_eq, wantB, evOp, ↓reduceIte, Nat.reduceEqDiff, List.nil_append, List.cons_append, List.append_nil, List.map_cons, List.map_nil, Option.map_some, Option.map_none, condW_bool, Bool.not_eq_true', decide_eq_true_eq, decide_eq_false_iff_not, decide_true, decide_false, Int.toNat_natCast, Int.ofNat_lt, Int.ofNat_le, Int.natCast_inj, Bool.false_eq_true, Bool.true_eq_false, extPV, List.getElem?_cons_zero, List.getElem?_cons_succ, nilckPV, Int.reduceToNat, Int.reduceLE, true_and, and_true, reduceCtorEq, or_false, false_or, or_true, Option.some.injEq, exists_eq_left', Bool.not_true, Bool.not_false, ne_eq, Int.reduceEq, not_true_eq_false, not_false_eq_true, Int.reduceLT, UInt8.reduceLT, UInt8.reduceLE, UInt8.reduceToNat]
  exact retS rfl Kept.start.alloc rfl
theorem monthName_spec {n : Nat} (h : n < 13) : call prog (.fn 278 []) [.int .i64 (n : Int)] st = some (.str (monT n), st) := by
  refine call_of_W prog_278 ?_
  unfold F_date_monthName; dsimp only
  have hb : buildCells [.str [], .str [], .str [], .str [], .str [], .str [], .str [], .str [], .str [], .str [], .str [], .str [], .str []] [(0, 1, .str []), (1, 1, .str [74, 97, 110]), (2, 1, .str [70, 101, 98]), (3, 1, .str [77, 97, 114]), (4, 1, .str [65, 112, 114]), (5, 1, .str [77, 97, 121]), (6, 1, .str [74, 117, 110]), (7, 1, .str [74, 117, 108]), (8, 1, .str [65, 117, 103]), (9, 1, .str [83, 101, 112]), (10, 1, .str [79, 99, 116]), (11, 1, .str [78, 111, 118]), (12, 1, .str [68, 101, 99])] = some (monNames.map .str) := by rfl
  have hst : storePV ⟨st.boxes ++ [[.str [], .str [], .str [], .str [], .str [], .str [], .str [], .str [], .str [], .str [], .str [], .str [], .str []]], st.toks, st.loops, st.boxes.length⟩ 13 (.ptr st.boxes.length 0) (.agg (monNames.map .str)) = some ⟨st.boxes ++ [monNames.map .str], st.toks, st.loops, st.boxes.length⟩ := st_all rfl rfl rfl
  have hld : loadPV ⟨st.boxes ++ [monNames.map .str], st.toks, st.loops, st.boxes.length⟩ false 1 (.ptr st.boxes.length (0 + ((n : Int)).toNat * 1)) = some (.str (monT n)) := ld_at (by
    simp only [Int.toNat_natCast, List.getElem?_map]
    have h7 : n < monNames.length := h
    simp [monT, List.getD, h7])
  have hia : iaddrAPV 13 1 (.ptr st.boxes.length 0) (.int .i64 (n : Int)) = some (.ptr st.boxes.length (0 + ((n : Int)).toNat * 1)) := iaA (by omega) (by omega)
  simp only [Int.toNat_natCast] at hld hia
  simp (maxSteps := 1000000) (disch := omega) only [hb, allocPV, hst, hia, hld, abR, WO_consG, wantedA_eq, wantB, evOp, ↓reduceIte, Nat.reduceEqDiff, List.nil_append, List.cons_append, List.append_nil, List.map_cons, List.map_nil, Option.map_some, Option.map_none, condW_bool, Bool.not_eq_true', decide_eq_true_eq, decide_eq_false_iff_not, decide_true, decide_false, Int.toNat_natCast, Int.ofNat_lt, Int.ofNat_le, Int.natCast_inj, Bool.false_eq_true, Bool.true_eq_false, extPV, List.getElem?_cons_zero, List.getElem?_cons_succ, nilckPV, Int.reduceToNat, Int.reduceLE, true_and, and_true, reduceCtorEq, or_false, false_or, or_true, Option.some.injEq, exists_eq_left', Bool.not_true, Bool.not_false, ne_eq, Int.reduceEq, not_true_eq_false, not_false_eq_true, Int.reduceLT, UInt8.reduceLT, UInt8.reduceLE, UInt8.reduceToNat]
  exact retS rfl Kept.start.alloc rfl

def shiftOK (n : Int) : Bool := decide (-86340 ≤ n) && decide (n ≤ 86340) && decide (n.tmod 60 = 0)
theorem isShift_spec {n : Int} : call prog (.fn 274 []) [.int .i64 n] st = some (.bool (shiftOK n), st) := by
  refine call_of_W prog_274 ?_
  unfold F_date_isShift; dsimp only
  have r60 : binPV .rem .no (.int .i64 n) (.int .i64 60) = some (.int .i64 (n.tmod 60)) := rem_i (by decide)
  have fin : ∀ {E : Env} (b : Bool), E 2 = .bool b → b = shiftOK n → ∃ rv, resOf E { boxes := st.boxes, toks := st.toks, loops := st.loops, low := st.boxes.length } [.tmp 2] = some rv ∧ leave st { boxes := st.boxes, toks := st.toks, loops := st.loops, low := st.boxes.length } rv = (.bool (shiftOK n), st) :=
    fun b h hb => retB h Kept.start hb
  by_cases h1 : -86340 ≤ n <;> by_cases h2 : n ≤ 86340 <;> by_cases h3 : n.tmod 60 = 0 <;> simp (maxSteps := 1000000) (disch := omega) only [r60, h1, h2, h3, abR, WO_consG, wantedA_eq, wantB, evOp, ↓reduceIte, Nat.reduceEqDiff, List.nil_append, List.cons_append, List.append_nil, List.map_cons, List.map_nil, Option.map_some, Option.map_none, condW_bool, Bool.not_eq_true', decide_eq_true_eq, decide_eq_false_iff_not, decide_true, decide_false, Int.toNat_natCast, Int.ofNat_lt, Int.ofNat_le, Int.natCast_inj, Bool.false_eq_true, Bool.true_eq_false, extPV, List.getElem?_cons_zero, List.getElem?_cons_succ, nilckPV, Int.reduceToNat, Int.reduceLE, true_and, and_true, reduceCtorEq, or_false, false_or, or_true, Option.some.injEq, exists_eq_left', Bool.not_true, Bool.not_false, ne_eq, Int.reduceEq, not_true_eq_false, not_false_eq_true, Int.reduceLT, UInt8.reduceLT, UInt8.reduceLE, UInt8.reduceToNat]
  all_goals first | exact fin true rfl (by simp only [shiftOK, *, decide_true, decide_false, Bool.and_true, Bool.true_and, Bool.and_false, Bool.false_and, Bool.or_true, Bool.true_or, Bool.or_false, Bool.false_or, Bool.not_true, Bool.not_false, not_true_eq_false, not_false_eq_true]) | exact fin false rfl (by simp only [shiftOK, *, decide_true, decide_false, Bool.and_true, Bool.true_and, Bool.and_false, Bool.false_and, Bool.or_true, Bool.true_or, Bool.or_false, Bool.false_or, Bool.not_true, Bool.not_false, not_true_eq_false, not_false_eq_true])

set_option maxHeartbeats 2000000 in
theorem leap_spec {y : Nat} : call prog (.fn 315 []) [.int .i64 (y : Int)] st = some (.bool (lpY y), st) := by
  refine call_of_W prog_315 ?_
  unfold F_when_leap; dsimp only
  have r4 : binPV .rem .no (.int .i64 (y : Int)) (.int .i64 4) = some (.int .i64 ((y % 4 : Nat) : Int)) := rem_n (c := 4) (by omega)
  have r100 : binPV .rem .no (.int .i64 (y : Int)) (.int .i64 100) = some (.int .i64 ((y % 100 : Nat) : Int)) := rem_n (c := 100) (by omega)
  have r400 : binPV .rem .no (.int .i64 (y : Int)) (.int .i64 400) = some (.int .i64 ((y % 400 : Nat) : Int)) := rem_n (c := 400) (by omega)
  have hl : lpY y = ((y % 4 == 0 && y % 100 != 0) || y % 400 == 0) := rfl
  generalize y % 4 = a at r4 hl
  generalize y % 100 = b at r100 hl
  generalize y % 400 = c at r400 hl
  rw [hl]
  clear hl
  have c4 : ((a : Int) = 0) = (a = 0) := by apply propext; omega
  have c100 : ((b : Int) = 0) = (b = 0) := by apply propext; omega
  have c400 : ((c : Int) = 0) = (c = 0) := by apply propext; omega
  have em : ∀ n : Nat, (n = 0) = True ∨ (n = 0) = False := fun n => by by_cases h : n = 0 <;> simp [h]
  rcases em a with h1 | h1 <;> rcases em b with h2 | h2 <;> rcases em c with h3 | h3 <;> simp (maxSteps := 1000000) (disch := omega) only [r4, r100, r400, c4, c100, c400, h1, h2, h3, abR, WO_consG, wantedA_eq, wantB, evOp, ↓reduceIte, Nat.reduceEqDiff, List.nil_append, List.cons_append, List.append_nil, List.map_cons, List.map_nil, Option.map_some, Option.map_none, condW_bool, Bool.not_eq_true', decide_eq_true_eq, decide_eq_false_iff_not, decide_true, decide_false, Int.toNat_natCast, Int.ofNat_lt, Int.ofNat_le, Int.natCast_inj, Bool.false_eq_true, Bool.true_eq_false, extPV, List.getElem?_cons_zero, List.getElem?_cons_succ, nilckPV, Int.reduceToNat, Int.reduceLE, true_and, and_true, reduceCtorEq, or_false, false_or, or_true, Option.some.injEq, exists_eq_left', Bool.not_true, Bool.not_false, ne_eq, Int.reduceEq, not_true_eq_false, not_false_eq_true, Int.reduceLT, UInt8.reduceLT, UInt8.reduceLE, UInt8.reduceToNat]
  all_goals first | exact retB (b := true) rfl Kept.start (by show _ = ((decide (a = 0) && !decide (b = 0)) || decide (c = 0)); simp [h1, h2, h3]) | exact retB (b := false) rfl Kept.start (by show _ = ((decide (a = 0) && !decide (b = 0)) || decide (c = 0)); simp [h1, h2, h3])

theorem before_spec {y : Nat} (h1 : 1970 ≤ y) (h2 : y ≤ 10000) : call prog (.fn 306 []) [.int .i64 (y : Int)] st = some (.int .i64 (befY y : Int), st) := by
  refine call_of_W prog_306 ?_
  unfold F_when_before; dsimp only
  have q4 : ∀ a : Nat, a < 20000 → binPV .quo .no (.int .i64 (a : Int)) (.int .i64 4) = some (.int .i64 ((a / 4 : Nat) : Int)) := fun a ha => quo_n (c := 4) (by omega) (by omega)
  have q100 : ∀ a : Nat, a < 20000 → binPV .quo .no (.int .i64 (a : Int)) (.int .i64 100) = some (.int .i64 ((a / 100 : Nat) : Int)) := fun a ha => quo_n (c := 100) (by omega) (by omega)
  have q400 : ∀ a : Nat, a < 20000 → binPV .quo .no (.int .i64 (a : Int)) (.int .i64 400) = some (.int .i64 ((a / 400 : Nat) : Int)) := fun a ha => quo_n (c := 400) (by omega) (by omega)
  have m365 : ∀ a : Nat, a < 20000 → binPV .mul .no (.int .i64 365) (.int .i64 (a : Int)) = some (.int .i64 ((365 * a : Nat) : Int)) := fun a ha => mul_n (c := 365) (by omega)
  obtain ⟨k, rfl⟩ : ∃ k, y = 1970 + k := ⟨y - 1970, by omega⟩
  have e1 : (1970 + k - 1 : Nat) = 1969 + k := by omega
  have e2 : (1969 + k - 1969 : Nat) = k := by omega
  have hge : 477 ≤ 365 * k + (1969 + k) / 4 - (1969 + k) / 100 + (1969 + k) / 400 := by
    by_cases hk : k = 0
    · subst hk; decide
    · omega
  simp (maxSteps := 1000000) (disch := omega) only [sub_n, e1, e2, q4, q100, q400, m365, add_n, abR, WO_consG, wantedA_eq, wantB, evOp, ↓reduceIte, Nat.reduceEqDiff, List.nil_append, List.cons_append, List.append_nil, List.map_cons, List.map_nil, Option.map_some, Option.map_none, condW_bool, Bool.not_eq_true', decide_eq_true_eq, decide_eq_false_iff_not, decide_true, decide_false, Int.toNat_natCast, Int.ofNat_lt, Int.ofNat_le, Int.natCast_inj, Bool.false_eq_true, Bool.true_eq_false, extPV, List.getElem?_cons_zero, List.getElem?_cons_succ, nilckPV, Int.reduceToNat, Int.reduceLE, true_and, and_true, reduceCtorEq, or_false, false_or, or_true, Option.some.injEq, exists_eq_left', Bool.not_true, Bool.not_false, ne_eq, Int.reduceEq, not_true_eq_false, not_false_eq_true, Int.reduceLT, UInt8.reduceLT, UInt8.reduceLE, UInt8.reduceToNat]
  refine retI rfl Kept.start ?_
  rw [bef_1]
  by_cases hk : k = 0
  · subst hk; decide
  · omega

def md1 (m : Nat) : Nat := [0, 31, 28, 31, 30, 31, 30, 31, 31, 30, 31, 30, 31].getD m 0
theorem md_1 {y m : Nat} (h1 : 1 ≤ m) (h2 : m ≤ 12) : mdY y m = if m = 2 ∧ lpY y = true then 29 else md1 m := by
  have : m = 1 ∨ m = 2 ∨ m = 3 ∨ m = 4 ∨ m = 5 ∨ m = 6 ∨ m = 7 ∨ m = 8 ∨ m = 9 ∨ m = 10 ∨ m = 11 ∨ m = 12 := by omega
  rcases this with rfl | rfl | rfl | rfl | rfl | rfl | rfl | rfl | rfl | rfl | rfl | rfl <;> simp [mdY, md1]
def mdL : List PV := [.int .i64 0, .int .i64 31, .int .i64 28, .int .i64 31, .int .i64 30, .int .i64 31, .int .i64 30, .int .i64 31, .int .i64 31, .int .i64 30, .int .i64 31, .int .i64 30, .int .i64 31]
theorem mdL_at {m : Nat} (h : m < 13) : mdL[m]? = some (.int .i64 (md1 m : Int)) := by
  have : m = 0 ∨ m = 1 ∨ m = 2 ∨ m = 3 ∨ m = 4 ∨ m = 5 ∨ m = 6 ∨ m = 7 ∨ m = 8 ∨ m = 9 ∨ m = 10 ∨ m = 11 ∨ m = 12 := by omega
  rcases this with rfl | rfl | rfl | rfl | rfl | rfl | rfl | rfl | rfl | rfl | rfl | rfl | rfl <;> rfl
theorem month_spec {y m : Nat} (h1 : 1 ≤ m) (h2 : m ≤ 12) : call prog (.fn 307 []) [.int .i64 (y : Int), .int .i64 (m : Int)] st = some (.int .i64 (mdY y m : Int), st) := by
  refine call_of_W prog_307 ?_
  unfold F_when_month; dsimp only
  have hb : buildCells [.int .i64 0, .int .i64 0, .int .i64 0, .int .i64 0, .int .i64 0, .int .i64 0, .int .i64 0, .int .i64 0, .int .i64 0, .int .i64 0, .int .i64 0, .int .i64 0, .int .i64 0] [(0, 1, .int .i64 0), (1, 1, .int .i64 31), (2, 1, .int .i64 28), (3, 1, .int .i64 31), (4, 1, .int .i64 30), (5, 1, .int .i64 31), (6, 1, .int .i64 30), (7, 1, .int .i64 31), (8, 1, .int .i64 31), (9, 1, .int .i64 30), (10, 1, .int .i64 31), (11, 1, .int .i64 30), (12, 1, .int .i64 31)] = some mdL := by rfl
  have hst : storePV ⟨st.boxes ++ [[.int .i64 0, .int .i64 0, .int .i64 0, .int .i64 0, .int .i64 0, .int .i64 0, .int .i64 0, .int .i64 0, .int .i64 0, .int .i64 0, .int .i64 0, .int .i64 0, .int .i64 0]], st.toks, st.loops, st.boxes.length⟩ 13 (.ptr st.boxes.length 0) (.agg mdL) = some ⟨st.boxes ++ [mdL], st.toks, st.loops, st.boxes.length⟩ := st_all rfl rfl rfl
  have hld : loadPV ⟨st.boxes ++ [mdL], st.toks, st.loops, st.boxes.length⟩ false 1 (.ptr st.boxes.length (0 + ((m : Int)).toNat * 1)) = some (.int .i64 (md1 m : Int)) := ld_at (by
    simp only [Int.toNat_natCast]; exact mdL_at (by omega))
  have hia : iaddrAPV 13 1 (.ptr st.boxes.length 0) (.int .i64 (m : Int)) = some (.ptr st.boxes.length (0 + ((m : Int)).toNat * 1)) := iaA (by omega) (by omega)
  simp only [Int.toNat_natCast] at hld hia
  have c2 : ((m : Int) = 2) = (m = 2) := by apply propext; omega
  have hlp := fun S : St => leap_spec (st := S) (y := y)
  rw [md_1 h1 h2]
  by_cases hm : m = 2
  · cases hl : lpY y with
    | true =>
      rw [hl] at hlp
      simp (maxSteps := 1000000) (disch := omega) only [hb, allocPV, hst, hia, hld, c2, eq_true hm, hlp, abR, WO_consG, wantedA_eq, wantB, evOp, ↓reduceIte, Nat.reduceEqDiff, List.nil_append, List.cons_append, List.append_nil, List.map_cons, List.map_nil, Option.map_some, Option.map_none, condW_bool, Bool.not_eq_true', decide_eq_true_eq, decide_eq_false_iff_not, decide_true, decide_false, Int.toNat_natCast, Int.ofNat_lt, Int.ofNat_le, Int.natCast_inj, Bool.false_eq_true, Bool.true_eq_false, extPV, List.getElem?_cons_zero, List.getElem?_cons_succ, nilckPV, Int.reduceToNat, Int.reduceLE, true_and, and_true, reduceCtorEq, or_false, false_or, or_true, Option.some.injEq, exists_eq_left', Bool.not_true, Bool.not_false, ne_eq, Int.reduceEq, not_true_eq_false, not_false_eq_true, Int.reduceLT, UInt8.reduceLT, UInt8.reduceLE, UInt8.reduceToNat]
      exact retI rfl Kept.start.alloc (by simp [hm])
    | false =>
      rw [hl] at hlp
      simp (maxSteps := 1000000) (disch := omega) only [hb, allocPV, hst, hia, hld, c2, eq_true hm, hlp, abR, WO_consG, wantedA_eq, wantB, evOp, ↓reduceIte, Nat.reduceEqDiff, List.nil_append, List.cons_append, List.append_nil, List.map_cons, List.map_nil, Option.map_some, Option.map_none, condW_bool, Bool.not_eq_true', decide_eq_true_eq, decide_eq_false_iff_not, decide_true, decide_false, Int.toNat_natCast, Int.ofNat_lt, Int.ofNat_le, Int.natCast_inj, Bool.false_eq_true, Bool.true_eq_false, extPV, List.getElem?_cons_zero, List.getElem?_cons_succ, nilckPV, Int.reduceToNat, Int.reduceLE, true_and, and_true, reduceCtorEq, or_false, false_or, or_true, Option.some.injEq, exists_eq_left', Bool.not_true, Bool.not_false, ne_eq, Int.reduceEq, not_true_eq_false, not_false_eq_true, Int.reduceLT, UInt8.reduceLT, UInt8.reduceLE, UInt8.reduceToNat]
      exact retI rfl Kept.start.alloc (by simp [hm])
  · simp (maxSteps := 1000000) (disch := omega) only [hb, allocPV, hst, hia, hld, c2, hm, abR, WO_consG, wantedA_eq, wantB, evOp, ↓reduceIte, Nat.reduceEqDiff, List.nil_append, List.cons_append, List.append_nil, List.map_cons, List.map_nil, Option.map_some, Option.map_none, condW_bool, Bool.not_eq_true', decide_eq_true_eq, decide_eq_false_iff_not, decide_true, decide_false, Int.toNat_natCast, Int.ofNat_lt, Int.ofNat_le, Int.natCast_inj, Bool.false_eq_true, Bool.true_eq_false, extPV, List.getElem?_cons_zero, List.getElem?_cons_succ, nilckPV, Int.reduceToNat, Int.reduceLE, true_and, and_true, reduceCtorEq, or_false, false_or, or_true, Option.some.injEq, exists_eq_left', Bool.not_true, Bool.not_false, ne_eq, Int.reduceEq, not_true_eq_false, not_false_eq_true, Int.reduceLT, UInt8.reduceLT, UInt8.reduceLE, UInt8.reduceToNat]
    exact retI rfl Kept.start.alloc (by simp [hm])
end Go.Ab
