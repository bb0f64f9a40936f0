/-
  Arguments of type []byte, opened.
-/
import Derived.Test.YtanlheneakdngaaDoorA2
import Derived.ProofKit
import Derived.HandedShaped
import Derived.Deep.Slices
import Derived.Test.YtanlheneakdngaaDoorA1
import Derived.KernelRfl
set_option linter.unusedVariables false
set_option linter.unusedSimpArgs false
namespace Go.Ab
open Go.ChangeShapes Go.WideShapes Go.ChangeAt Go.RowKit
variable {P : Program} {g : GMap}

theorem byte_of_wf {x : Int} (h : (Lit.int .u8 x).wf = true) : 0 ≤ x ∧ x < 256 := by
  have h1 : IntKind.u8.min = 0 := rfl
  have h2 : IntKind.u8.max = 255 := rfl
  simp only [Lit.wf, Bool.and_eq_true, decide_eq_true_eq] at h
  omega

end Go.Ab
/-
  Arguments of plain types, opened: what they read as, as abstract values.
-/
namespace Go.Ab
open Go.ChangeShapes Go.WideShapes Go.ChangeAt Go.RowKit Go.Deep
variable {P : Program} {g : GMap}

inductive HasTy (P : Program) : TypeId → PV → Prop
  | bool {t : TypeId} (b : Bool) (ht : P.underlying t = some .bool) : HasTy P t (.bool b)
  | int {t : TypeId} {k : IntKind} (n : Int) (ht : P.underlying t = some (.int k)) (hk : k ≠ .u8) (h : k.min ≤ n ∧ n ≤ k.max) : HasTy P t (.int k n)
  | u8 {t : TypeId} (b : UInt8) (ht : P.underlying t = some (.int .u8)) : HasTy P t (.b8 b)
  | str {t : TypeId} (s : List UInt8) (ht : P.underlying t = some .string) (h : s.length ≤ reachBytes) : HasTy P t (.str s)
  | nils {t e : TypeId} (ht : P.underlying t = some (.slice e)) : HasTy P t .nils
  | bys {t e : TypeId} (l : List UInt8) (ht : P.underlying t = some (.slice e)) (he : P.underlying e = some (.int .u8)) (h : l.length ≤ maxLen) : HasTy P t (.bys .no l)
  | sl {t e : TypeId} (xs : List PV) (ht : P.underlying t = some (.slice e)) (he : P.underlying e ≠ some (.int .u8)) (h : xs.length ≤ maxLen) (hx : ∀ x ∈ xs, HasTy P e x) : HasTy P t (.sl (P.cellsOf e) .no xs)
  | agg {t : TypeId} {fs : Array Field} (xs : List PV) (ht : P.underlying t = some (.struct fs)) (hl : xs.length = fs.size) (hx : ∀ (i : Nat) (f : Field) (x : PV), fs[i]? = some f → xs[i]? = some x → HasTy P f.type x) : HasTy P t (.agg (flat xs))

def contig (P : Program) : List Field → Nat → Option Nat
  | [], n => some n
  | f :: fs, n => if f.offset = n then contig P fs (n + P.cellsOf f.type) else none

def okIn (P : Program) (ts : List TypeId) (t : TypeId) : Bool :=
  match P.underlying t with
  | some .bool => P.cellsOf t == 1
  | some (.int _) => P.cellsOf t == 1
  | some .string => P.cellsOf t == 1
  | some (.slice e) => P.cellsOf t == 1 && ts.contains e && decide (0 < P.cellsOf e) && (match P.underlying e with | some (.int .u8) => false | _ => true)
  | some (.struct fs) => contig P fs.toList 0 == some (P.cellsOf t) && fs.toList.all fun f => ts.contains f.type
  | _ => false
def okTop (P : Program) (ts us : List TypeId) (t : TypeId) : Bool :=
  match P.underlying t with
  | some .bool => P.cellsOf t == 1
  | some (.int _) => P.cellsOf t == 1
  | some .string => P.cellsOf t == 1
  | some (.slice e) => P.cellsOf t == 1 && (match P.underlying e with | some (.int .u8) => P.cellsOf e == 1 | _ => ts.contains e && decide (0 < P.cellsOf e))
  | some (.struct fs) => contig P fs.toList 0 == some (P.cellsOf t) && fs.toList.all fun f => us.contains f.type
  | _ => false

structure Opened (P : Program) (g : GMap) (w : World) (t : TypeId) (cs : List Value) (p : PV) : Prop where
  ty : HasTy P t p
  ln : p.cells.length = cs.length
  lt : p.cells.length = P.cellsOf t
  dt : p.data = true
  nt : notTup p = true
  lf : p.cells.all leafOk = true
  rr : ∀ (i : Nat) (v : Value) (q : PV), cs[i]? = some v → p.cells[i]? = some q → R g (κ0 w) v q

theorem one_get {v : Value} {q : PV} {R' : Value → PV → Prop} (h : R' v q) : ∀ (i : Nat) (v' : Value) (q' : PV), [v][i]? = some v' → [q][i]? = some q' → R' v' q' := by
  intro i v' q' a b
  cases i with
  | zero => simp at a b; subst a b; exact h
  | succ i => simp at a

theorem flatMap_get {α : Type} {f : Nat → List α} {c : Nat} : ∀ (n : Nat), (∀ i, i < n → (f i).length = c) → ((List.range n).flatMap f).length = n * c ∧ ∀ i, i < n * c → ((List.range n).flatMap f)[i]? = (f (i / c))[i % c]? := by
  intro n
  induction n with
  | zero => intro _; simp
  | succ n ih =>
    intro h
    obtain ⟨h1, h2⟩ := ih (fun i hi => h i (by omega))
    rw [List.range_succ, List.flatMap_append]
    simp only [List.flatMap_cons, List.flatMap_nil, List.append_nil, List.length_append, h1, h n (by omega)]
    refine ⟨(Nat.succ_mul n c).symm, fun i hi => ?_⟩
    by_cases hlt : i < n * c
    · rw [List.getElem?_append_left (by rw [h1]; exact hlt), h2 i hlt]
    · rw [List.getElem?_append_right (by rw [h1]; omega), h1]
      have hc : 0 < c := by
        rcases Nat.eq_zero_or_pos c with h0 | h0
        · subst h0; simp at hi
        · exact h0
      have hlt2 : i < n * c + c := by rw [← Nat.succ_mul]; exact hi
      have hd : i / c = n := by
        apply Nat.div_eq_of_lt_le
        · omega
        · rw [Nat.succ_mul]; omega
      have hm : i % c = i - n * c := by
        have := Nat.div_add_mod i c
        rw [hd] at this
        rw [Nat.mul_comm] at this; omega
      rw [hd, hm]

theorem spot_of_cell {w : World} {a : Addr} {v : Value} (h : w.cell? a = some v) : a.spot = none := by
  unfold World.cell? at h
  split at h
  · split at h
    · cases h
    · rename_i hs; simpa using hs
  · cases h

theorem open_fields {w : World} : ∀ (fs : List Field) (off tot : Nat) (cs : List Value), contig P fs off = some tot → cs.length = tot → (∀ (i : Nat) (f : Field), fs[i]? = some f → ∃ p, Opened P g w f.type ((cs.drop f.offset).take (P.cellsOf f.type)) p) →
    ∃ ps : List PV, ps.length = fs.length ∧ (∀ (i : Nat) (f : Field) (x : PV), fs[i]? = some f → ps[i]? = some x → HasTy P f.type x) ∧ (flat ps).length + off = tot ∧ dataAll (flat ps) = true ∧ (flat ps).all leafOk = true ∧
      ∀ (i : Nat) (v : Value) (q : PV), cs[off + i]? = some v → (flat ps)[i]? = some q → R g (κ0 w) v q := by
  intro fs
  induction fs with
  | nil =>
    intro off tot cs hc hl _
    simp only [contig, Option.some.injEq] at hc
    exact ⟨[], rfl, fun i f x h => by simp at h, by simp [flat, hc], rfl, rfl, fun i v q _ h => by simp [flat] at h⟩
  | cons f fs ih =>
    intro off tot cs hc hl hf
    simp only [contig] at hc
    split at hc
    · rename_i ho
      obtain ⟨p, hp⟩ := hf 0 f rfl
      obtain ⟨ps, h1, h2, h3, h4, h5, h6⟩ := ih (off + P.cellsOf f.type) tot cs hc hl (fun i f' h => hf (i + 1) f' h)
      refine ⟨p :: ps, by simp [h1], fun i f' x a b => ?_, ?_, ?_, ?_, fun i v q a b => ?_⟩
      · cases i with
        | zero => simp at a b; subst a b; exact hp.ty
        | succ i => simp at a b; exact h2 i f' x a b
      · have := hp.lt
        simp only [flat, List.flatMap_cons, List.length_append] at h3 ⊢; omega
      · simp only [flat, List.flatMap_cons] at h4 ⊢
        rw [dataAll_append, h4, data_cells hp.dt]; rfl
      · simp only [flat, List.flatMap_cons] at h5 ⊢
        rw [List.all_append, hp.lf, h5]; rfl
      · simp only [flat, List.flatMap_cons] at b
        by_cases hi : i < p.cells.length
        · rw [List.getElem?_append_left hi] at b
          refine hp.rr i v q ?_ b
          rw [List.getElem?_take, if_pos (by rw [← hp.lt]; exact hi), List.getElem?_drop, ho]; exact a
        · rw [List.getElem?_append_right (by omega)] at b
          refine h6 (i - p.cells.length) v q ?_ b
          rw [← hp.lt, show off + p.cells.length + (i - p.cells.length) = off + i by omega]; exact a
    · cases hc

theorem weightsEach_get {H : Type} : ∀ (ts : List TypeId) (ds : List (DataW H)), (DataW.weightsEach P ts ds).all (· ≤ reachBytes) = true → ∀ (i : Nat) (t : TypeId) (d : DataW H), ts[i]? = some t → ds[i]? = some d → (d.weights P t).all (· ≤ reachBytes) = true := by
  intro ts
  induction ts with
  | nil => intro ds _ i t d h; simp at h
  | cons t ts ih =>
    intro ds h i u d a b
    cases ds with
    | nil => simp at b
    | cons e ds =>
      simp only [DataW.weightsEach, List.all_append, Bool.and_eq_true] at h
      cases i with
      | zero => simp at a b; subst a b; exact h.1
      | succ i => simp at a b; exact ih ds h.2 i u d a b
theorem weightsAll_get {H : Type} {e : TypeId} : ∀ (ds : List (DataW H)), (DataW.weightsAll P e ds).all (· ≤ reachBytes) = true → ∀ (i : Nat) (d : DataW H), ds[i]? = some d → (d.weights P e).all (· ≤ reachBytes) = true := by
  intro ds
  induction ds with
  | nil => intro _ i d h; simp at h
  | cons e ds ih =>
    intro h i d b
    simp only [DataW.weightsAll, List.all_append, Bool.and_eq_true] at h
    cases i with
    | zero => simp at b; subst b; exact h.1
    | succ i => simp at b; exact ih h.2 i d b

theorem open_in {H : Type} {enc : TypeId × Value → H} {w : World} {ts us : List TypeId} (hin : ts.all (okIn P ts) = true) (htop : us.all (okTop P ts us) = true) : ∀ (fuel : Nat) (t : TypeId) (cs : List Value) (x : DataW H × List MemPlace), DataW.trod enc P w 0 (fun _ => true) true fuel t cs = some x → (x.1.weights P t).all (· ≤ reachBytes) = true →
    (t ∈ ts ∨ t ∈ us ∧ ∀ a len cap, Value.slice (some a) len cap ∈ cs → a.spot = none) → ∃ p, Opened P g w t cs p := by
  intro fuel
  induction fuel with
  | zero => intro t cs x h; simp [DataW.trod] at h
  | succ fuel ih =>
    intro t cs x h hwt hm
    have hok : okIn P ts t = true ∨ okTop P ts us t = true := by
      rcases hm with hm | hm
      · exact .inl ((List.all_eq_true.1 hin) t hm)
      · exact .inr ((List.all_eq_true.1 htop) t hm.1)
    have hone : (∀ e, P.underlying t ≠ some (.struct e)) → P.cellsOf t = 1 := by
      intro hne
      cases hu : P.underlying t with
      | none => rcases hok with hok | hok <;> simp [okIn, okTop, hu] at hok
      | some d =>
        rcases hok with hok | hok
        · simp only [okIn, hu] at hok
          cases d <;> first | exact (hne _ hu).elim | simp_all
        · simp only [okTop, hu] at hok
          cases d <;> first | exact (hne _ hu).elim | simp_all
    cases hu : P.underlying t with
    | none => rcases hok with hok | hok <;> simp [okIn, okTop, hu] at hok
    | some d =>
      cases d with
      | bool =>
        obtain ⟨b, rfl, _⟩ := DataW.trod_bool hu h
        exact ⟨.bool b, .bool b hu, rfl, (hone (fun e he => by rw [hu] at he; cases he)).symm, rfl, rfl, rfl, one_get (.bool b)⟩
      | int k =>
        obtain ⟨n, rfl, _, hw⟩ := DataW.trod_int hu h
        have hrange : k.min ≤ n ∧ n ≤ k.max := by simpa [Lit.wf] using hw
        by_cases hk : k = .u8
        · subst hk
          have h1 : IntKind.u8.min = 0 := rfl
          have h2 : IntKind.u8.max = 255 := rfl
          rw [h1, h2] at hrange
          refine ⟨.b8 (n.toNat.toUInt8), .u8 _ hu, rfl, (hone (fun e he => by rw [hu] at he; cases he)).symm, rfl, rfl, rfl, one_get (.b8 _ _ ?_)⟩
          simp [Nat.toUInt8]; omega
        · exact ⟨.int k n, .int n hu hk hrange, rfl, (hone (fun e he => by rw [hu] at he; cases he)).symm, rfl, rfl, rfl, one_get (.int k n hk)⟩
      | string =>
        obtain ⟨s, rfl, hxe, hs⟩ := DataW.trod_string hu h
        rw [hxe] at hwt
        simp only [DataW.weights, List.all_cons, List.all_nil, Bool.and_true, decide_eq_true_eq] at hwt
        exact ⟨.str s.data.toList, .str _ hu hwt, rfl, (hone (fun e he => by rw [hu] at he; cases he)).symm, rfl, rfl, rfl, one_get (.str s _ rfl)⟩
      | struct fs =>
        obtain ⟨xs, n, hn, hxe, hcl, hxl, hx⟩ := DataW.trod_struct hu h
        obtain rfl : n = fuel := by omega
        rw [hxe] at hwt
        simp only [DataW.weights, hu] at hwt
        have hc : contig P fs.toList 0 = some (P.cellsOf t) := by
          rcases hok with hok | hok
          · simp only [okIn, hu, Bool.and_eq_true, beq_iff_eq] at hok; exact hok.1
          · simp only [okTop, hu, Bool.and_eq_true, beq_iff_eq] at hok; exact hok.1
        have hmem : ∀ (i : Nat) (f : Field), fs.toList[i]? = some f → (f.type ∈ ts ∨ f.type ∈ us ∧ ∀ a len cap, Value.slice (some a) len cap ∈ cs → a.spot = none) := by
          intro i f hf
          have hfm := List.mem_of_getElem? hf
          rcases hm with hm | hm
          · have hok := (List.all_eq_true.1 hin) t hm
            simp only [okIn, hu, Bool.and_eq_true, List.all_eq_true] at hok
            exact .inl (by simpa using hok.2 f hfm)
          · have hok := (List.all_eq_true.1 htop) t hm.1
            simp only [okTop, hu, Bool.and_eq_true, List.all_eq_true] at hok
            exact .inr ⟨by simpa using hok.2 f hfm, hm.2⟩
        obtain ⟨ps, h1, h2, h3, h4, h5, h6⟩ := open_fields (g := g) (w := w) fs.toList 0 _ cs hc hcl (fun i f hf => by
          have hf' : fs[i]? = some f := by simpa using hf
          have hi : i < xs.length := by rw [hxl]; exact (Array.getElem?_eq_some_iff.1 hf').1
          have := hx i f hf'
          rw [List.getElem?_eq_getElem hi] at this
          refine ih _ _ _ this (weightsEach_get _ _ hwt i _ _ (by simp [hf]) (by simp [hi])) ?_
          rcases hmem i f hf with hm | hm
          · exact .inl hm
          · exact .inr ⟨hm.1, fun a len cap ha => hm.2 a len cap (List.mem_of_mem_drop (List.mem_of_mem_take ha))⟩)
        refine ⟨.agg (flat ps), .agg ps hu (by simpa using h1) (fun i f x a b => h2 i f x (by simpa using a) b), ?_, ?_, h4, rfl, h5, fun i v q a b => h6 i v q (by simpa using a) b⟩
        · show (flat ps).length = _
          omega
        · show (flat ps).length = _
          omega
      | slice e =>
        have hct := hone (fun e he => by rw [hu] at he; cases he)
        rcases DataW.trod_slice hu h with ⟨rfl, _⟩ | ⟨a, len, cap, elems, rest, n, hn, rfl, hxe, _, hl, hmx, hlen, hel, hspare, _⟩
        · exact ⟨.nils, .nils hu, rfl, hct.symm, rfl, rfl, rfl, one_get .nils⟩
        · obtain rfl : n = fuel := by omega
          -- an element's cells
          have hpart : ∀ i, i < len → ∃ cs', w.cells? 0 (a.add (i * P.cellsOf e)) (P.cellsOf e) = some cs' ∧ DataW.trod enc P w 0 (fun _ => true) true n e cs' = elems[i]? := fun i hi => by
            have := hel i hi
            rw [List.getElem?_eq_getElem (by omega)] at this
            obtain ⟨cs', h1, h2⟩ := Option.bind_eq_some_iff.1 this
            exact ⟨cs', h1, by rw [h2, List.getElem?_eq_getElem (by omega)]⟩
          by_cases he : P.underlying e = some (.int .u8)
          · -- bytes
            have hus : t ∈ us ∧ ∀ a' len' cap', Value.slice (some a') len' cap' ∈ [Value.slice (some a) len cap] → a'.spot = none := by
              rcases hm with hm | hm
              · have hok := (List.all_eq_true.1 hin) t hm
                simp [okIn, hu, he] at hok
              · exact hm
            have hce : P.cellsOf e = 1 := by
              have hok := (List.all_eq_true.1 htop) t hus.1
              simp only [okTop, hu, he, Bool.and_eq_true, beq_iff_eq] at hok
              exact hok.2
            have hsp := hus.2 a len cap (by simp)
            obtain ⟨blk, off, sp⟩ := a
            simp only at hsp
            subst hsp
            obtain ⟨f, hf⟩ := choose_lt (α := Int) (p := fun i z => w.cell? ⟨blk, off + i, none⟩ = some (.int .u8 z) ∧ 0 ≤ z ∧ z < 256) (n := len) (fun i hi => by
              obtain ⟨cs', h1, h2⟩ := hpart i hi
              rw [List.getElem?_eq_getElem (by omega)] at h2
              obtain ⟨z, rfl, _, hz⟩ := DataW.trod_int he h2
              rw [hce, Nat.mul_one] at h1
              have := cell_of_cells?_one h1
              rw [add_eq] at this
              exact ⟨z, this, byte_of_wf hz⟩)
            refine ⟨.bys .no ((List.range len).map fun i => (f i).toNat.toUInt8), .bys _ hu he (by simp; omega), rfl, hct.symm, rfl, rfl, rfl, one_get (.bys blk off len cap .no _ (by simp) hl (fun i b hb => ?_) trivial (fun i h => by cases h))⟩
            simp only [List.getElem?_map, Option.map_eq_some_iff] at hb
            obtain ⟨j, hj, rfl⟩ := hb
            have hi : i < len := by
              have := (List.getElem?_eq_some_iff.1 hj).1
              simpa using this
            rw [List.getElem?_range hi] at hj
            cases hj
            obtain ⟨q1, q2, q3⟩ := hf i hi
            show w.cell? ⟨blk, off + i, none⟩ = _
            rw [q1]
            have : (((f i).toNat.toUInt8).toNat : Int) = f i := by
              simp [Nat.toUInt8]; omega
            rw [this]
          · -- other elements
            have hein : e ∈ ts ∧ 0 < P.cellsOf e := by
              rcases hm with hm | hm
              · have hok := (List.all_eq_true.1 hin) t hm
                simp only [okIn, hu, Bool.and_eq_true, decide_eq_true_eq] at hok
                exact ⟨by simpa using hok.1.1.2, hok.1.2⟩
              · have hok := (List.all_eq_true.1 htop) t hm.1
                simp only [okTop, hu, Bool.and_eq_true] at hok
                have h2 := hok.2
                first
                | (split at h2
                   · rename_i h3; exact absurd h3 he
                   · simp only [Bool.and_eq_true, decide_eq_true_eq] at h2
                     exact ⟨by simpa using h2.1, h2.2⟩)
                | (simp only [decide_eq_true_eq] at h2
                   exact ⟨by simpa using h2.1, h2.2⟩)
            by_cases hcap : cap = 0
            · have hl0 : len = 0 := by omega
              subst hcap hl0
              exact ⟨.sl (P.cellsOf e) .no [], .sl [] hu he (Nat.zero_le _) (fun x hx => by simp at hx), rfl, hct.symm, rfl, rfl, rfl, one_get (.sl0 a _ _ (fun i h => by cases h))⟩
            · -- the address is a cell's
              have hsp : a.spot = none := by
                have h0 : ∃ cs', w.cells? 0 (a.add (0 * P.cellsOf e)) (P.cellsOf e) = some cs' := by
                  by_cases hl0 : 0 < len
                  · obtain ⟨cs', h1, _⟩ := hpart 0 hl0
                    exact ⟨cs', h1⟩
                  · obtain ⟨r1, r2⟩ := hspare rfl
                    have := r2 0 (by omega)
                    rw [List.getElem?_eq_getElem (by omega)] at this
                    obtain ⟨cs', h1, h2⟩ := Option.bind_eq_some_iff.1 this
                    rw [show len + 0 = 0 by omega] at h1
                    exact ⟨cs', h1⟩
                obtain ⟨cs', h1⟩ := h0
                obtain ⟨_, h2, h3⟩ := World.cells?_some h1
                have h4 := h3 0 hein.2
                rw [List.getElem?_eq_getElem (by omega)] at h4
                have := spot_of_cell h4
                simpa [Addr.add] using this
              obtain ⟨blk, off, sp⟩ := a
              simp only at hsp
              subst hsp
              obtain ⟨F, hF⟩ := choose_lt (α := List Value × PV) (p := fun i z => w.cells? 0 ((⟨blk, off, none⟩ : Addr).add (i * P.cellsOf e)) (P.cellsOf e) = some z.1 ∧ Opened P g w e z.1 z.2) (n := len) (fun i hi => by
                obtain ⟨cs', h1, h2⟩ := hpart i hi
                rw [List.getElem?_eq_getElem (by omega)] at h2
                rw [hxe] at hwt
                simp only [DataW.weights, hu, List.all_cons, List.all_append, Bool.and_eq_true] at hwt
                obtain ⟨p, hp⟩ := ih _ _ _ h2 (weightsAll_get _ hwt.2.1 i _ (by rw [List.getElem?_map, List.getElem?_eq_getElem (by omega)]; rfl)) (.inl hein.1)
                exact ⟨(cs', p), h1, hp⟩)
              have hflat : flat ((List.range len).map fun i => (F i).2) = (List.range len).flatMap fun i => (F i).2.cells := by simp [flat, List.flatMap_map]
              obtain ⟨v1, v2⟩ := flatMap_get (f := fun i => (F i).1) (c := P.cellsOf e) len (fun i hi => (World.cells?_some (hF i hi).1).2.1)
              obtain ⟨x1, x2⟩ := flatMap_get (f := fun i => (F i).2.cells) (c := P.cellsOf e) len (fun i hi => (hF i hi).2.lt)
              have hdm : ∀ i, i < len * P.cellsOf e → i / P.cellsOf e < len := fun i hi => by
                rw [Nat.div_lt_iff_lt_mul hein.2]; exact hi
              have hmd : ∀ i, i % P.cellsOf e < P.cellsOf e := fun i => Nat.mod_lt _ hein.2
              have hxs : ∀ x ∈ (List.range len).map (fun i => (F i).2), ∃ i, i < len ∧ x = (F i).2 := fun x hx => by
                simp only [List.mem_map, List.mem_range] at hx
                obtain ⟨i, h1, rfl⟩ := hx
                exact ⟨i, h1, rfl⟩
              have hda : ∀ xs : List PV, (∀ x ∈ xs, x.data = true) → dataAll xs = true := by
                intro xs
                induction xs with
                | nil => intro _; rfl
                | cons x xs ih => intro h; simp only [dataAll, h x (by simp), ih (fun y hy => h y (by simp [hy])), Bool.and_self]
              have hd : dataAll ((List.range len).map fun i => (F i).2) = true := hda _ fun x hx => by
                obtain ⟨i, hi, rfl⟩ := hxs x hx
                exact (hF i hi).2.dt
              refine ⟨.sl (P.cellsOf e) .no ((List.range len).map fun i => (F i).2), .sl _ hu he (by simp; omega) (fun x hx => ?_), rfl, hct.symm, by simp [PV.data, Tok.isNo, hd], rfl, rfl,
                one_get (.sl blk off len cap (P.cellsOf e) .no _ ((List.range len).flatMap fun i => (F i).1) (by simp) hl (fun x hx => ?_) (by rw [hflat, v1, x1]) (fun i v hi => ?_) (fun i v q a b => ?_) hd ?_ trivial)⟩
              · obtain ⟨i, hi, rfl⟩ := hxs x hx
                exact (hF i hi).2.ty
              · obtain ⟨i, hi, rfl⟩ := hxs x hx
                exact (hF i hi).2.lt
              · have hlt := (List.getElem?_eq_some_iff.1 hi).1
                rw [v1] at hlt
                rw [v2 i hlt] at hi
                have h3 := (World.cells?_some (hF _ (hdm i hlt)).1).2.2 (i % P.cellsOf e) (hmd i)
                rw [add_eq, add_eq, hi] at h3
                have h4 := Nat.div_add_mod i (P.cellsOf e)
                rw [Nat.mul_comm] at h4
                rw [Nat.add_assoc, h4] at h3
                exact h3
              · have hlt := (List.getElem?_eq_some_iff.1 a).1
                rw [v1] at hlt
                rw [v2 i hlt] at a
                rw [hflat, x2 i hlt] at b
                exact (hF _ (hdm i hlt)).2.rr _ _ _ a b
              · rw [hflat, List.all_eq_true]
                intro y hy
                obtain ⟨i, hi, hy⟩ := List.mem_flatMap.1 hy
                exact (List.all_eq_true.1 (hF i (by simpa using hi)).2.lf) y hy
      | _ => rcases hok with hok | hok <;> simp [okIn, okTop, hu] at hok

theorem cell_spot {w : World} {r : Reach} {base : Nat} {u : TypeId} {a : Addr} {len cap : Nat} (h : Cell.okWide P w r base u (.slice (some a) len cap)) : a.spot = none := by
  unfold Cell.okWide at h
  cases hu : P.underlying u with
  | none => simp [hu, Cell.ok] at h
  | some d =>
    cases d <;> simp [hu, Cell.ok] at h
    exact h.2.2.2.1

theorem open_arg {H : Type} {enc : TypeId × Value → H} {W : World} {base : Nat} {ts us : List TypeId} (hin : ts.all (okIn P ts) = true) (htop : us.all (okTop P ts us) = true) {t : TypeId} (ht : us.contains t = true) {v : Value} {d : DataW H} {p : List MemPlace}
    (hval : Value.okWide P W .any base t v) (h0 : DataW.Trod enc P W 0 (fun _ => true) true t v d p) (hwt : (d.weights P t).all (· ≤ reachBytes) = true) : ∃ q : PV, HasTy P t q ∧ q.data = true ∧ R g (κ0 W) v q := by
  have htm : t ∈ us := by simpa using ht
  obtain ⟨fuel, hf⟩ := h0
  have hok := (List.all_eq_true.1 htop) t htm
  have hsp : ∀ a len cap, Value.slice (some a) len cap ∈ v.cells.toList → a.spot = none := by
    intro a len cap ha
    unfold Value.okWide at hval
    cases hu : P.underlying t with
    | none => simp [okTop, hu] at hok
    | some d =>
      rw [hu] at hval
      cases d with
      | struct fs =>
        obtain ⟨cs, rfl, _, ts', _, _, hr⟩ := hval
        simp only [Value.cells] at ha
        obtain ⟨i, hi⟩ := List.getElem?_of_mem ha
        obtain ⟨u, _, hc⟩ := hr i _ (by simpa using hi)
        exact cell_spot hc
      | bool =>
        obtain ⟨b, rfl⟩ := okWide_bool hu (by unfold Value.okWide; rw [hu]; exact hval)
        simp [Value.cells] at ha
      | int k =>
        obtain ⟨b, rfl⟩ := okWide_int hu (by unfold Value.okWide; rw [hu]; exact hval)
        simp [Value.cells] at ha
      | string =>
        obtain ⟨b, rfl⟩ := okWide_string hu (by unfold Value.okWide; rw [hu]; exact hval)
        simp [Value.cells] at ha
      | slice e =>
        obtain ⟨a', l', c', rfl⟩ := okWide_slice hu (by unfold Value.okWide; rw [hu]; exact hval)
        simp [Value.cells] at ha
        obtain ⟨rfl, rfl, rfl⟩ := ha
        exact cell_spot hval
      | _ => simp [okTop, hu] at hok
  obtain ⟨q, hq⟩ := open_in (g := g) hin htop fuel t _ _ hf hwt (.inr ⟨htm, hsp⟩)
  refine ⟨q, hq.ty, hq.dt, ?_⟩
  have single : v.cells = #[v] → q.cells = [q] → R g (κ0 W) v q := fun h1 h2 => hq.rr 0 v q (by rw [h1]; rfl) (by rw [h2]; rfl)
  cases hu : P.underlying t with
  | none => simp [okTop, hu] at hok
  | some d =>
    cases d with
    | struct fs =>
      obtain ⟨cs, rfl, _⟩ := okWide_struct hu hval
      have hqt := hq.ty
      cases hqt with
      | agg xs ht hl hx =>
        have := hq.lf
        simp only [PV.cells] at this
        refine .agg cs (flat xs) ?_ (leafB_all this) (fun i u q a b => hq.rr i u q (by simpa [Value.cells] using a) b)
        have := hq.ln
        simp [Value.cells, PV.cells] at this; omega
      | _ => simp_all
    | bool =>
      obtain ⟨b, rfl⟩ := okWide_bool hu hval
      refine single rfl ?_
      have hqt := hq.ty
      cases hqt <;> first | rfl | simp_all
    | int k =>
      obtain ⟨b, rfl⟩ := okWide_int hu hval
      refine single rfl ?_
      have hqt := hq.ty
      cases hqt <;> first | rfl | simp_all
    | string =>
      obtain ⟨b, rfl⟩ := okWide_string hu hval
      refine single rfl ?_
      have hqt := hq.ty
      cases hqt <;> first | rfl | simp_all
    | slice e =>
      obtain ⟨a', l', c', rfl⟩ := okWide_slice hu hval
      refine single rfl ?_
      have hqt := hq.ty
      cases hqt <;> first | rfl | simp_all
    | _ => simp [okTop, hu] at hok

theorem HasTy.bytes {t e : TypeId} {q : PV} (h : HasTy P t q) (ht : P.underlying t = some (.slice e)) (he : P.underlying e = some (.int .u8)) : ∃ l, q.by = some l ∧ q.tokLt 0 = true ∧ l.length ≤ maxLen := by
  cases h with
  | nils => exact ⟨[], rfl, rfl, Nat.zero_le _⟩
  | bys l _ _ hl => exact ⟨l, rfl, rfl, hl⟩
  | sl xs h1 h2 _ _ =>
    rw [ht] at h1
    simp only [Option.some.injEq, TypeDesc.slice.injEq] at h1
    subst h1; exact absurd he h2
  | _ => simp_all
theorem HasTy.strR {t : TypeId} {q : PV} (h : HasTy P t q) (ht : P.underlying t = some .string) : ∃ s, q = .str s ∧ s.length ≤ reachBytes := by
  cases h with
  | str s h1 h2 => exact ⟨s, rfl, h2⟩
  | _ => simp_all
end Go.Ab
/-
  From the evaluator's answer to a law's row: what all rows share.
-/
namespace Go.Ab
open Go.ChangeShapes Go.WideShapes Go.ChangeAt Go.RowKit
variable {P : Program} {g : GMap} {H : Type} {enc : TypeId × Value → H}

theorem args_open {W : World} {base : Nat} {ts us : List TypeId} (hin : ts.all (okIn P ts) = true) (htop : us.all (okTop P ts us) = true) : ∀ (ps : List TypeId) (vs : List Value) (ds : List (DataW H)) (q : List MemPlace) (us2 : List TypeId) (gs : List (DataW H)), ps.all us.contains = true →
    DataW.TrodAll enc P W 0 (fun _ => true) true ps vs ds q → (DataW.weightsEach P (ps ++ us2) (ds ++ gs)).all (· ≤ reachBytes) = true → (∀ (j : Nat) t v, ps[j]? = some t → vs[j]? = some v → Value.okWide P W .any base t v) →
    ∃ xs : List PV, xs.length = ps.length ∧ vs.length = ps.length ∧ ds.length = ps.length ∧ (∀ (i : Nat) (t : TypeId) (x : PV), ps[i]? = some t → xs[i]? = some x → HasTy P t x ∧ x.data = true) ∧ ∀ (i : Nat) (v : Value) (x : PV), vs[i]? = some v → xs[i]? = some x → R g (κ0 W) v x := by
  intro ps
  induction ps with
  | nil =>
    intro vs ds q us2 gs _ h _ _
    obtain ⟨rfl, rfl, rfl⟩ := trodAll_nil h
    exact ⟨[], rfl, rfl, rfl, fun i t x a => by simp at a, fun i v x a => by simp at a⟩
  | cons t ps ih =>
    intro vs ds q us2 gs hall h hwt hval
    obtain ⟨v, vs', d, ds', p, q', rfl, rfl, rfl, h0, hr⟩ := trodAll_cons h
    simp only [List.cons_append, DataW.weightsEach, List.all_append, Bool.and_eq_true] at hwt
    simp only [List.all_cons, Bool.and_eq_true] at hall
    obtain ⟨x, x1, x2, x3⟩ := open_arg (g := g) hin htop hall.1 (hval 0 t v rfl rfl) h0 hwt.1
    obtain ⟨xs, y1, y2, y3, y4, y5⟩ := ih vs' ds' q' us2 gs hall.2 hr hwt.2 (fun j t' v' a b => hval (j + 1) t' v' (by simpa using a) (by simpa using b))
    refine ⟨x :: xs, by simp [y1], by simp [y2], by simp [y3], fun i t' x' a b => ?_, fun i v' x' a b => ?_⟩
    · cases i with
      | zero => simp at a b; subst a b; exact ⟨x1, x2⟩
      | succ i => simp at a b; exact y4 i t' x' a b
    · cases i with
      | zero => simp at a b; subst a b; exact x3
      | succ i => simp at a b; exact y5 i v' x' a b

theorem trodAll_below {W W' : World} (hl : laidOutB P = true) (hb : Below W.heap.size W W') : ∀ (ps : List TypeId) (vs : List Value) (ds : List (DataW H)) (q : List MemPlace), ps.all (fun t => P.readableRec t && decide (t < P.types.size)) = true →
    DataW.TrodAll enc P W 0 (fun _ => true) true ps vs ds q → (∀ x ∈ q, x.block < W.heap.size) → DataW.TrodAll enc P W' 0 (fun b => decide (b < W.heap.size)) true ps vs ds q := by
  intro ps
  induction ps with
  | nil =>
    intro vs ds q _ h _
    obtain ⟨rfl, rfl, rfl⟩ := trodAll_nil h
    exact trodAll_mk0
  | cons t ps ih =>
    intro vs ds q hall h hlt
    obtain ⟨v, vs', d, ds', p, q', rfl, rfl, rfl, h0, hr⟩ := trodAll_cons h
    simp only [List.all_cons, Bool.and_eq_true, decide_eq_true_eq] at hall
    exact ⟨_, _, (Below.trod hl hall.1.1 hall.1.2 h0 hb (fun x hx => hlt x (by simp [hx]))), (ih vs' ds' q' (by simpa using hall.2) hr (fun x hx => hlt x (by simp [hx]))), rfl⟩

theorem post_of {s : ChangeSpec} {f : Func} {tb : TypeId} {apart : Bool} (hl : laidOutB P = true) (hread : f.params.toList.all (fun t => P.readableRec t && decide (t < P.types.size)) = true) (hres : f.resultTypes = #[tb]) (htb : P.underlying tb = some .bool)
    (hv : s.vars = []) (hfn : ∀ ds : List (DataW H), ds.length = f.params.toList.length → s.fn H ds = { results := [.lit (.bool true)], args := ds }) {W W' : World} {args : Array Value} {ds gs : List (DataW H)} {before : List MemPlace}
    (hW : DataW.Whole enc P f.params.toList s.vars apart W args.toList ds gs before) (hds : ds.length = f.params.toList.length) (hb : Below W.heap.size W W') : s.post enc P f apart true false false W args (.bool true) W' := by
  have hW0 := hW
  obtain ⟨p, q, hA, hV, rfl, hz, hn⟩ := hW
  rw [hv] at hV
  obtain ⟨rfl, rfl⟩ := trodVars_none hV
  simp only [List.append_nil] at hW0
  refine ⟨ds, [], p, [], p, [], hW0, ?_, ?_, ?_, hb.frame _, fun h => by cases h⟩
  · rw [List.append_nil, hfn ds hds, hres]
    exact trodAll_mk1 (shut_bool htb true)
  · rw [List.append_nil, hfn ds hds]
    exact trodAll_below hl hb _ _ _ _ hread hA (fun x hx => hW0.lt x hx)
  · rw [List.append_nil, hfn ds hds, hv]
    rfl
end Go.Ab
/-
  The abstract code of functions, printed by program (abgen.py, abput2.py).
-/
namespace Go.Ab

def F_posthornlaw10_Great : ACFn := { nt := 84,results := [.tmp 2],body := (.seq (.region [⟨some 2,.mov (.const (.bool false)),none⟩]) (.seq (.seq (.region [⟨some 5,.mov (.tmp 0),none⟩,⟨some 6,.len false (.tmp 5),none⟩,⟨some 7,.bin .gtr .no (.tmp 6) (.const (.int .i64 60)),none⟩]) (.cond (.tmp 7) (.seq (.region [⟨some 2,.mov (.const (.bool true)),none⟩]) (.ret)) (.skip))) (.seq (.seq (.region [⟨some 3,.mov (.const (.int .i64 0)),none⟩]) (.block 0 (.loop (.seq (.seq (.region [⟨some 8,.mov (.tmp 3),none⟩,
 ⟨some 9,.mov (.tmp 0),none⟩,⟨some 10,.len false (.tmp 9),none⟩,⟨some 11,.bin .lss .no (.tmp 8) (.tmp 10),none⟩]) (.cond (.tmp 11) (.skip) (.exit 0))) (.seq (.block 1 (.seq (.seq (.region [⟨some 14,.mov (.tmp 0),none⟩,
 ⟨some 15,.mov (.tmp 3),none⟩,⟨some 16,.iaddr 3 (.tmp 14) (.tmp 15),none⟩,⟨some 17,.faddr 1 (.tmp 16),none⟩,⟨some 18,.load false 1 (.tmp 17),none⟩,⟨some 19,.len false (.tmp 18),none⟩,⟨some 20,.bin .gtr .no (.tmp 19) (.const (.int .i64 30)),none⟩,
 ⟨some 21,.mov (.tmp 20),none⟩,⟨some 22,.mov (.tmp 0),some (21,false)⟩,⟨some 23,.mov (.tmp 3),some (21,false)⟩,⟨some 24,.iaddr 3 (.tmp 22) (.tmp 23),some (21,false)⟩,⟨some 25,.faddr 0 (.tmp 24),some (21,false)⟩,
 ⟨some 26,.load false 1 (.tmp 25),some (21,false)⟩,⟨some 27,.len true (.tmp 26),some (21,false)⟩,⟨some 28,.bin .gtr .no (.tmp 27) (.const (.int .i64 300)),some (21,false)⟩,⟨some 29,.pick (.tmp 21) (.const (.bool true)) (.tmp 28),none⟩,
 ⟨some 30,.mov (.tmp 29),none⟩,⟨some 31,.mov (.tmp 0),some (30,false)⟩,⟨some 32,.mov (.tmp 3),some (30,false)⟩,⟨some 33,.iaddr 3 (.tmp 31) (.tmp 32),some (30,false)⟩,⟨some 34,.faddr 2 (.tmp 33),some (30,false)⟩,
 ⟨some 35,.load false 1 (.tmp 34),some (30,false)⟩,⟨some 36,.len true (.tmp 35),some (30,false)⟩,⟨some 37,.bin .gtr .no (.tmp 36) (.const (.int .i64 5000)),some (30,false)⟩,⟨some 38,.pick (.tmp 30) (.const (.bool true)) (.tmp 37),none⟩,
 ⟨some 39,.mov (.tmp 38),none⟩,⟨some 40,.mov (.tmp 3),some (39,false)⟩,⟨some 41,.bin .gtr .no (.tmp 40) (.const (.int .i64 5)),some (39,false)⟩,⟨some 42,.mov (.tmp 41),some (39,false)⟩,⟨some 43,.mov (.tmp 0),some (42,true)⟩,
 ⟨some 44,.mov (.tmp 3),some (42,true)⟩,⟨some 45,.iaddr 3 (.tmp 43) (.tmp 44),some (42,true)⟩,⟨some 46,.faddr 2 (.tmp 45),some (42,true)⟩,⟨some 47,.load false 1 (.tmp 46),some (42,true)⟩,⟨some 48,.len true (.tmp 47),some (42,true)⟩,
 ⟨some 49,.bin .gtr .no (.tmp 48) (.const (.int .i64 300)),some (42,true)⟩,⟨some 50,.pick (.tmp 42) (.tmp 49) (.const (.bool false)),some (39,false)⟩,⟨some 51,.pick (.tmp 39) (.const (.bool true)) (.tmp 50),none⟩]) (.cond (.tmp 51) (.seq (.region [⟨some 2,.mov (.const (.bool true)),none⟩]) (.ret)) (.skip))) (.seq (.region [⟨some 4,.mov (.const (.int .i64 0)),none⟩]) (.block 2 (.loop (.seq (.seq (.region [⟨some 52,.mov (.tmp 4),none⟩,
 ⟨some 53,.mov (.tmp 0),none⟩,⟨some 54,.mov (.tmp 3),none⟩,⟨some 55,.iaddr 3 (.tmp 53) (.tmp 54),none⟩,⟨some 56,.faddr 1 (.tmp 55),none⟩,⟨some 57,.load false 1 (.tmp 56),none⟩,⟨some 58,.len false (.tmp 57),none⟩,
 ⟨some 59,.bin .lss .no (.tmp 52) (.tmp 58),none⟩]) (.cond (.tmp 59) (.skip) (.exit 2))) (.seq (.block 3 (.seq (.region [⟨some 62,.mov (.tmp 0),none⟩,⟨some 63,.mov (.tmp 3),none⟩,⟨some 64,.iaddr 3 (.tmp 62) (.tmp 63),none⟩,
 ⟨some 65,.faddr 1 (.tmp 64),none⟩,⟨some 66,.load false 1 (.tmp 65),none⟩,⟨some 67,.mov (.tmp 4),none⟩,⟨some 68,.iaddr 2 (.tmp 66) (.tmp 67),none⟩,⟨some 69,.faddr 0 (.tmp 68),none⟩,⟨some 70,.load false 1 (.tmp 69),none⟩,
 ⟨some 71,.len true (.tmp 70),none⟩,⟨some 72,.mov (.tmp 0),none⟩,⟨some 73,.mov (.tmp 3),none⟩,⟨some 74,.iaddr 3 (.tmp 72) (.tmp 73),none⟩,⟨some 75,.faddr 1 (.tmp 74),none⟩,⟨some 76,.load false 1 (.tmp 75),none⟩,
 ⟨some 77,.mov (.tmp 4),none⟩,⟨some 78,.iaddr 2 (.tmp 76) (.tmp 77),none⟩,⟨some 79,.faddr 1 (.tmp 78),none⟩,⟨some 80,.load false 1 (.tmp 79),none⟩,⟨some 81,.len true (.tmp 80),none⟩,⟨some 82,.bin .add .no (.tmp 71) (.tmp 81),none⟩,
 ⟨some 83,.bin .gtr .no (.tmp 82) (.const (.int .i64 500)),none⟩]) (.cond (.tmp 83) (.seq (.region [⟨some 2,.mov (.const (.bool true)),none⟩]) (.ret)) (.skip)))) (.region [⟨some 60,.mov (.tmp 4),none⟩,⟨some 61,.bin .add .no (.tmp 60) (.const (.int .i64 1)),none⟩,
 ⟨some 4,.mov (.tmp 61),none⟩])))))))) (.region [⟨some 12,.mov (.tmp 3),none⟩,⟨some 13,.bin .add .no (.tmp 12) (.const (.int .i64 1)),none⟩,⟨some 3,.mov (.tmp 13),none⟩])))))) (.seq (.region [⟨some 2,.mov (.const (.bool false)),none⟩]) (.ret))))) }

def F_sheet_Write : ACFn := { nt := 46,results := [.tmp 2,.tmp 3],body := (.seq (.region [⟨some 2,.mov (.const (.nils)),none⟩,⟨some 3,.mov (.const (.int .i64 0)),none⟩]) (.seq (.seq (.region [⟨some 9,.mov (.tmp 0),none⟩,⟨some 10,.len false (.tmp 9),none⟩,
 ⟨some 11,.bin .gtr .no (.tmp 10) (.const (.int .i64 4096)),none⟩]) (.cond (.tmp 11) (.seq (.region [⟨some 2,.mov (.const (.nils)),none⟩,⟨some 3,.mov (.const (.int .i64 2)),none⟩]) (.ret)) (.skip))) (.seq (.region [⟨some 4,.mov (.const (.nils)),none⟩]) (.seq (.seq (.region [⟨some 12,.mov (.tmp 0),none⟩,
 ⟨some 13,.len false (.tmp 12),none⟩,⟨some 14,.mov (.const (.int .i64 0)),none⟩]) (.block 0 (.loop (.seq (.region [⟨some 15,.bin .lss .no (.tmp 14) (.tmp 13),none⟩]) (.seq (.cond (.tmp 15) (.skip) (.exit 0)) (.seq (.block 1 (.seq (.region [⟨some 16,.iaddr 3 (.tmp 12) (.tmp 14),none⟩,
 ⟨some 17,.load true 3 (.tmp 16),none⟩,⟨some 6,.alloc [.str [],.nils,.str []],none⟩,⟨none,.store 3 (.tmp 6) (.tmp 17),none⟩]) (.seq (.seq (.region [⟨some 18,.load true 3 (.tmp 6),none⟩,⟨some 19,.call (.fn 50) [(.tmp 18)],none⟩,
 ⟨some 20,.un .not (.tmp 19),none⟩]) (.cond (.tmp 20) (.seq (.region [⟨some 2,.mov (.const (.nils)),none⟩,⟨some 3,.mov (.const (.int .i64 90)),none⟩]) (.ret)) (.skip))) (.seq (.region [⟨some 21,.load true 3 (.tmp 6),none⟩,
 ⟨some 22,.call (.fn 60) [(.tmp 21)],none⟩,⟨some 23,.cS2B false (.tmp 22),none⟩,⟨some 7,.mov (.tmp 23),none⟩]) (.seq (.block 2 (.loop (.seq (.seq (.region [⟨some 24,.mov (.tmp 7),none⟩,⟨some 25,.len false (.tmp 24),none⟩,
 ⟨some 26,.bin .gtr .no (.tmp 25) (.const (.int .i64 75)),none⟩]) (.cond (.tmp 26) (.skip) (.exit 2))) (.block 3 (.seq (.region [⟨some 27,.mov (.tmp 7),none⟩,⟨some 28,.call (.fn 61) [(.tmp 27),(.const (.int .i64 75))],none⟩,
 ⟨some 8,.mov (.tmp 28),none⟩]) (.seq (.region [⟨some 29,.mov (.tmp 4),none⟩,⟨some 30,.mov (.tmp 7),none⟩,⟨some 31,.mov (.tmp 8),none⟩,⟨some 32,.slc 1 (.tmp 30) none (some (.tmp 31)) none,none⟩,⟨some 33,.app true 1 (.tmp 29) (.tmp 32),none⟩,
 ⟨some 34,.app true 1 (.tmp 33) (.const (.str [13,10])),none⟩,⟨some 4,.mov (.tmp 34),none⟩]) (.region [⟨some 35,.lit8 1 [(0,(.const (.b8 32)))],none⟩,⟨some 36,.mov (.tmp 7),none⟩,⟨some 37,.mov (.tmp 8),none⟩,
 ⟨some 38,.slc 1 (.tmp 36) (some (.tmp 37)) none none,none⟩,⟨some 39,.app true 1 (.tmp 35) (.tmp 38),none⟩,⟨some 7,.mov (.tmp 39),none⟩]))))))) (.region [⟨some 40,.mov (.tmp 4),none⟩,⟨some 41,.mov (.tmp 7),none⟩,
 ⟨some 42,.app true 1 (.tmp 40) (.tmp 41),none⟩,⟨some 43,.app true 1 (.tmp 42) (.const (.str [13,10])),none⟩,⟨some 4,.mov (.tmp 43),none⟩])))))) (.region [⟨some 44,.bin .add .no (.tmp 14) (.const (.int .i64 1)),none⟩,
 ⟨some 14,.mov (.tmp 44),none⟩]))))))) (.seq (.region [⟨some 45,.mov (.tmp 4),none⟩,⟨some 2,.mov (.tmp 45),none⟩,⟨some 3,.mov (.const (.int .i64 0)),none⟩]) (.ret)))))) }

def F_posthornref10_Write : ACFn := { nt := 53,results := [.tmp 2,.tmp 3],body := (.seq (.region [⟨some 2,.mov (.const (.nils)),none⟩,⟨some 3,.mov (.const (.int .i64 0)),none⟩]) (.seq (.seq (.region [⟨some 8,.mov (.tmp 0),none⟩,⟨some 9,.len false (.tmp 8),none⟩,
 ⟨some 10,.bin .gtr .no (.tmp 9) (.const (.int .i64 4096)),none⟩]) (.cond (.tmp 10) (.seq (.region [⟨some 2,.mov (.const (.nils)),none⟩,⟨some 3,.mov (.const (.int .i64 2)),none⟩]) (.ret)) (.skip))) (.seq (.region [⟨some 4,.mov (.const (.nils)),none⟩]) (.seq (.seq (.region [⟨some 5,.mov (.const (.int .i64 0)),none⟩]) (.block 0 (.loop (.seq (.seq (.region [⟨some 11,.mov (.tmp 5),none⟩,
 ⟨some 12,.mov (.tmp 0),none⟩,⟨some 13,.len false (.tmp 12),none⟩,⟨some 14,.bin .lss .no (.tmp 11) (.tmp 13),none⟩]) (.cond (.tmp 14) (.skip) (.exit 0))) (.seq (.block 1 (.seq (.seq (.region [⟨some 17,.mov (.tmp 0),none⟩,
 ⟨some 18,.mov (.tmp 5),none⟩,⟨some 19,.iaddr 3 (.tmp 17) (.tmp 18),none⟩,⟨some 20,.load true 3 (.tmp 19),none⟩,⟨some 21,.call (.fn 51) [(.tmp 20)],none⟩,⟨some 22,.un .not (.tmp 21),none⟩]) (.cond (.tmp 22) (.seq (.region [⟨some 2,.mov (.const (.nils)),none⟩,
 ⟨some 3,.mov (.const (.int .i64 90)),none⟩]) (.ret)) (.skip))) (.seq (.region [⟨some 23,.mov (.tmp 0),none⟩,⟨some 24,.mov (.tmp 5),none⟩,⟨some 25,.iaddr 3 (.tmp 23) (.tmp 24),none⟩,⟨some 26,.load true 3 (.tmp 25),none⟩,
 ⟨some 27,.call (.fn 62) [(.tmp 26)],none⟩,⟨some 6,.mov (.tmp 27),none⟩]) (.seq (.block 2 (.loop (.seq (.seq (.region [⟨some 28,.mov (.tmp 6),none⟩,⟨some 29,.len true (.tmp 28),none⟩,⟨some 30,.bin .gtr .no (.tmp 29) (.const (.int .i64 75)),none⟩]) (.cond (.tmp 30) (.skip) (.exit 2))) (.block 3 (.seq (.region [⟨some 31,.mov (.tmp 6),none⟩,
 ⟨some 32,.cS2B false (.tmp 31),none⟩,⟨some 33,.call (.fn 63) [(.tmp 32),(.const (.int .i64 75))],none⟩,⟨some 7,.mov (.tmp 33),none⟩]) (.seq (.region [⟨some 34,.mov (.tmp 4),none⟩,⟨some 35,.mov (.tmp 6),none⟩,
 ⟨some 36,.mov (.tmp 7),none⟩,⟨some 37,.slc 0 (.tmp 35) none (some (.tmp 36)) none,none⟩,⟨some 38,.app true 1 (.tmp 34) (.tmp 37),none⟩,⟨some 4,.mov (.tmp 38),none⟩]) (.seq (.region [⟨some 39,.mov (.tmp 4),none⟩,
 ⟨some 40,.lit8 2 [(0,(.const (.b8 13))),(1,(.const (.b8 10)))],none⟩,⟨some 41,.app true 1 (.tmp 39) (.tmp 40),none⟩,⟨some 4,.mov (.tmp 41),none⟩]) (.region [⟨some 42,.mov (.tmp 6),none⟩,⟨some 43,.mov (.tmp 7),none⟩,
 ⟨some 44,.slc 0 (.tmp 42) (some (.tmp 43)) none none,none⟩,⟨some 45,.bin .add .no (.const (.str [32])) (.tmp 44),none⟩,⟨some 6,.mov (.tmp 45),none⟩])))))))) (.seq (.region [⟨some 46,.mov (.tmp 4),none⟩,
 ⟨some 47,.mov (.tmp 6),none⟩,⟨some 48,.app true 1 (.tmp 46) (.tmp 47),none⟩,⟨some 4,.mov (.tmp 48),none⟩]) (.region [⟨some 49,.mov (.tmp 4),none⟩,⟨some 50,.lit8 2 [(0,(.const (.b8 13))),(1,(.const (.b8 10)))],none⟩,
 ⟨some 51,.app true 1 (.tmp 49) (.tmp 50),none⟩,⟨some 4,.mov (.tmp 51),none⟩])))))) (.region [⟨some 15,.mov (.tmp 5),none⟩,⟨some 16,.bin .add .no (.tmp 15) (.const (.int .i64 1)),none⟩,⟨some 5,.mov (.tmp 16),none⟩])))))) (.seq (.region [⟨some 52,.mov (.tmp 4),none⟩,
 ⟨some 2,.mov (.tmp 52),none⟩,⟨some 3,.mov (.const (.int .i64 0)),none⟩]) (.ret)))))) }

def F_sheet_Right : ACFn := { nt := 60,results := [.tmp 2],body := (.seq (.region [⟨some 1,.box (.tmp 0),none⟩,⟨some 2,.mov (.const (.bool false)),none⟩]) (.seq (.seq (.region [⟨some 7,.faddr 1 (.tmp 1),none⟩,⟨some 8,.load false 1 (.tmp 7),none⟩,
 ⟨some 9,.len false (.tmp 8),none⟩,⟨some 10,.mov (.const (.int .i64 0)),none⟩]) (.block 0 (.loop (.seq (.region [⟨some 11,.bin .lss .no (.tmp 10) (.tmp 9),none⟩]) (.seq (.cond (.tmp 11) (.skip) (.exit 0)) (.seq (.block 1 (.seq (.region [⟨some 12,.mov (.tmp 10),none⟩,
 ⟨some 13,.iaddr 2 (.tmp 8) (.tmp 10),none⟩,⟨some 14,.load true 2 (.tmp 13),none⟩,⟨some 4,.alloc [.str [],.str []],none⟩,⟨some 3,.mov (.tmp 12),none⟩,⟨none,.store 2 (.tmp 4) (.tmp 14),none⟩]) (.seq (.seq (.region [⟨some 15,.faddr 0 (.tmp 4),none⟩,
 ⟨some 16,.load false 1 (.tmp 15),none⟩,⟨some 17,.call (.fn 64) [(.tmp 16)],none⟩,⟨some 18,.un .not (.tmp 17),none⟩,⟨some 19,.mov (.tmp 18),none⟩,⟨some 20,.faddr 1 (.tmp 4),some (19,false)⟩,⟨some 21,.load false 1 (.tmp 20),some (19,false)⟩,
 ⟨some 22,.call (.fn 65) [(.tmp 21),(.const (.int .i64 256))],some (19,false)⟩,⟨some 23,.un .not (.tmp 22),some (19,false)⟩,⟨some 24,.pick (.tmp 19) (.const (.bool true)) (.tmp 23),none⟩,⟨some 25,.mov (.tmp 24),none⟩,
 ⟨some 26,.faddr 1 (.tmp 4),some (25,false)⟩,⟨some 27,.load false 1 (.tmp 26),some (25,false)⟩,⟨some 28,.call (.fn 66) [(.tmp 27),(.const (.str [34]))],some (25,false)⟩,⟨some 29,.pick (.tmp 25) (.const (.bool true)) (.tmp 28),none⟩]) (.cond (.tmp 29) (.seq (.region [⟨some 2,.mov (.const (.bool false)),none⟩]) (.ret)) (.skip))) (.seq (.region [⟨some 30,.faddr 1 (.tmp 1),none⟩,
 ⟨some 31,.load false 1 (.tmp 30),none⟩,⟨some 32,.mov (.tmp 3),none⟩,⟨some 33,.slc 2 (.tmp 31) none (some (.tmp 32)) none,none⟩,⟨some 34,.len false (.tmp 33),none⟩,⟨some 35,.mov (.const (.int .i64 0)),none⟩]) (.block 2 (.loop (.seq (.region [⟨some 36,.bin .lss .no (.tmp 35) (.tmp 34),none⟩]) (.seq (.cond (.tmp 36) (.skip) (.exit 2)) (.seq (.block 3 (.seq (.region [⟨some 37,.iaddr 2 (.tmp 33) (.tmp 35),none⟩,
 ⟨some 38,.load true 2 (.tmp 37),none⟩,⟨some 6,.alloc [.str [],.str []],none⟩,⟨none,.store 2 (.tmp 6) (.tmp 38),none⟩]) (.seq (.region [⟨some 39,.faddr 0 (.tmp 6),none⟩,⟨some 40,.load false 1 (.tmp 39),none⟩,
 ⟨some 41,.faddr 0 (.tmp 4),none⟩,⟨some 42,.load false 1 (.tmp 41),none⟩,⟨some 43,.bin .eql .no (.tmp 40) (.tmp 42),none⟩]) (.cond (.tmp 43) (.seq (.region [⟨some 2,.mov (.const (.bool false)),none⟩]) (.ret)) (.skip))))) (.region [⟨some 44,.bin .add .no (.tmp 35) (.const (.int .i64 1)),none⟩,
 ⟨some 35,.mov (.tmp 44),none⟩])))))))))) (.region [⟨some 45,.bin .add .no (.tmp 10) (.const (.int .i64 1)),none⟩,⟨some 10,.mov (.tmp 45),none⟩]))))))) (.seq (.region [⟨some 46,.faddr 0 (.tmp 1),none⟩,⟨some 47,.load false 1 (.tmp 46),none⟩,
 ⟨some 48,.call (.fn 64) [(.tmp 47)],none⟩,⟨some 49,.mov (.tmp 48),none⟩,⟨some 50,.faddr 2 (.tmp 1),some (49,true)⟩,⟨some 51,.load false 1 (.tmp 50),some (49,true)⟩,⟨some 52,.call (.fn 65) [(.tmp 51),(.const (.int .i64 4096))],some (49,true)⟩,
 ⟨some 53,.pick (.tmp 49) (.tmp 52) (.const (.bool false)),none⟩,⟨some 54,.mov (.tmp 53),none⟩,⟨some 55,.faddr 1 (.tmp 1),some (54,true)⟩,⟨some 56,.load false 1 (.tmp 55),some (54,true)⟩,⟨some 57,.len false (.tmp 56),some (54,true)⟩,
 ⟨some 58,.bin .leq .no (.tmp 57) (.const (.int .i64 16)),some (54,true)⟩,⟨some 59,.pick (.tmp 54) (.tmp 58) (.const (.bool false)),none⟩,⟨some 2,.mov (.tmp 59),none⟩]) (.ret)))) }

def F_posthornref10_Right : ACFn := { nt := 75,results := [.tmp 2],body := (.seq (.region [⟨some 1,.box (.tmp 0),none⟩,⟨some 2,.mov (.const (.bool false)),none⟩]) (.seq (.seq (.region [⟨some 6,.faddr 0 (.tmp 1),none⟩,⟨some 7,.load false 1 (.tmp 6),none⟩,
 ⟨some 8,.call (.fn 67) [(.tmp 7)],none⟩,⟨some 9,.un .not (.tmp 8),none⟩,⟨some 10,.mov (.tmp 9),none⟩,⟨some 11,.faddr 2 (.tmp 1),some (10,false)⟩,⟨some 12,.load false 1 (.tmp 11),some (10,false)⟩,⟨some 13,.call (.fn 68) [(.tmp 12)],some (10,false)⟩,
 ⟨some 14,.un .not (.tmp 13),some (10,false)⟩,⟨some 15,.pick (.tmp 10) (.const (.bool true)) (.tmp 14),none⟩,⟨some 16,.mov (.tmp 15),none⟩,⟨some 17,.faddr 2 (.tmp 1),some (16,false)⟩,⟨some 18,.load false 1 (.tmp 17),some (16,false)⟩,
 ⟨some 19,.len true (.tmp 18),some (16,false)⟩,⟨some 20,.bin .gtr .no (.tmp 19) (.const (.int .i64 4096)),some (16,false)⟩,⟨some 21,.pick (.tmp 16) (.const (.bool true)) (.tmp 20),none⟩,⟨some 22,.mov (.tmp 21),none⟩,
 ⟨some 23,.faddr 1 (.tmp 1),some (22,false)⟩,⟨some 24,.load false 1 (.tmp 23),some (22,false)⟩,⟨some 25,.len false (.tmp 24),some (22,false)⟩,⟨some 26,.bin .gtr .no (.tmp 25) (.const (.int .i64 16)),some (22,false)⟩,
 ⟨some 27,.pick (.tmp 22) (.const (.bool true)) (.tmp 26),none⟩]) (.cond (.tmp 27) (.seq (.region [⟨some 2,.mov (.const (.bool false)),none⟩]) (.ret)) (.skip))) (.seq (.seq (.region [⟨some 3,.mov (.const (.int .i64 0)),none⟩]) (.block 0 (.loop (.seq (.seq (.region [⟨some 28,.mov (.tmp 3),none⟩,
 ⟨some 29,.faddr 1 (.tmp 1),none⟩,⟨some 30,.load false 1 (.tmp 29),none⟩,⟨some 31,.len false (.tmp 30),none⟩,⟨some 32,.bin .lss .no (.tmp 28) (.tmp 31),none⟩]) (.cond (.tmp 32) (.skip) (.exit 0))) (.seq (.block 1 (.seq (.region [⟨some 35,.faddr 1 (.tmp 1),none⟩,
 ⟨some 36,.load false 1 (.tmp 35),none⟩,⟨some 37,.mov (.tmp 3),none⟩,⟨some 38,.iaddr 2 (.tmp 36) (.tmp 37),none⟩,⟨some 39,.load true 2 (.tmp 38),none⟩,⟨some 4,.alloc [.str [],.str []],none⟩,⟨none,.store 2 (.tmp 4) (.tmp 39),none⟩]) (.seq (.seq (.region [⟨some 40,.faddr 0 (.tmp 4),none⟩,
 ⟨some 41,.load false 1 (.tmp 40),none⟩,⟨some 42,.call (.fn 67) [(.tmp 41)],none⟩,⟨some 43,.un .not (.tmp 42),none⟩,⟨some 44,.mov (.tmp 43),none⟩,⟨some 45,.faddr 1 (.tmp 4),some (44,false)⟩,⟨some 46,.load false 1 (.tmp 45),some (44,false)⟩,
 ⟨some 47,.call (.fn 68) [(.tmp 46)],some (44,false)⟩,⟨some 48,.un .not (.tmp 47),some (44,false)⟩,⟨some 49,.pick (.tmp 44) (.const (.bool true)) (.tmp 48),none⟩,⟨some 50,.mov (.tmp 49),none⟩,⟨some 51,.faddr 1 (.tmp 4),some (50,false)⟩,
 ⟨some 52,.load false 1 (.tmp 51),some (50,false)⟩,⟨some 53,.len true (.tmp 52),some (50,false)⟩,⟨some 54,.bin .gtr .no (.tmp 53) (.const (.int .i64 256)),some (50,false)⟩,⟨some 55,.pick (.tmp 50) (.const (.bool true)) (.tmp 54),none⟩,
 ⟨some 56,.mov (.tmp 55),none⟩,⟨some 57,.faddr 1 (.tmp 4),some (56,false)⟩,⟨some 58,.load false 1 (.tmp 57),some (56,false)⟩,⟨some 59,.call (.fn 56) [(.tmp 58),(.const (.str [34]))],some (56,false)⟩,⟨some 60,.pick (.tmp 56) (.const (.bool true)) (.tmp 59),none⟩]) (.cond (.tmp 60) (.seq (.region [⟨some 2,.mov (.const (.bool false)),none⟩]) (.ret)) (.skip))) (.seq (.region [⟨some 5,.mov (.const (.int .i64 0)),none⟩]) (.block 2 (.loop (.seq (.seq (.region [⟨some 61,.mov (.tmp 5),none⟩,
 ⟨some 62,.mov (.tmp 3),none⟩,⟨some 63,.bin .lss .no (.tmp 61) (.tmp 62),none⟩]) (.cond (.tmp 63) (.skip) (.exit 2))) (.seq (.block 3 (.seq (.region [⟨some 66,.faddr 1 (.tmp 1),none⟩,⟨some 67,.load false 1 (.tmp 66),none⟩,
 ⟨some 68,.mov (.tmp 5),none⟩,⟨some 69,.iaddr 2 (.tmp 67) (.tmp 68),none⟩,⟨some 70,.faddr 0 (.tmp 69),none⟩,⟨some 71,.load false 1 (.tmp 70),none⟩,⟨some 72,.faddr 0 (.tmp 4),none⟩,⟨some 73,.load false 1 (.tmp 72),none⟩,
 ⟨some 74,.bin .eql .no (.tmp 71) (.tmp 73),none⟩]) (.cond (.tmp 74) (.seq (.region [⟨some 2,.mov (.const (.bool false)),none⟩]) (.ret)) (.skip)))) (.region [⟨some 64,.mov (.tmp 5),none⟩,⟨some 65,.bin .add .no (.tmp 64) (.const (.int .i64 1)),none⟩,
 ⟨some 5,.mov (.tmp 65),none⟩]))))))))) (.region [⟨some 33,.mov (.tmp 3),none⟩,⟨some 34,.bin .add .no (.tmp 33) (.const (.int .i64 1)),none⟩,⟨some 3,.mov (.tmp 34),none⟩])))))) (.seq (.region [⟨some 2,.mov (.const (.bool true)),none⟩]) (.ret))))) }

def F_utf_Valid : ACFn := { nt := 13,results := [.tmp 2],body := (.seq (.region [⟨some 2,.mov (.const (.bool false)),none⟩]) (.seq (.region [⟨some 6,.mov (.tmp 0),none⟩,⟨some 7,.call (.fn 69) [(.tmp 6)],none⟩,⟨some 5,.mov (.tmp 7),none⟩,
 ⟨some 8,.ext 0 (.tmp 5),none⟩,⟨some 9,.ext 1 (.tmp 5),none⟩,⟨some 4,.alloc [.int .i64 0,.int .i64 0],none⟩,⟨some 3,.mov (.tmp 8),none⟩,⟨none,.store 2 (.tmp 4) (.tmp 9),none⟩]) (.seq (.region [⟨some 10,.faddr 1 (.tmp 4),none⟩,
 ⟨some 11,.load false 1 (.tmp 10),none⟩,⟨some 12,.bin .eql .no (.tmp 11) (.const (.int .i64 0)),none⟩,⟨some 2,.mov (.tmp 12),none⟩]) (.ret)))) }

def F_sheet_One : ACFn := { nt := 83,results := [.cell 2 true 3,.tmp 3],body := (.seq (.region [⟨some 2,.alloc [.str [],.nils,.str []],none⟩,⟨some 3,.mov (.const (.int .i64 0)),none⟩]) (.scope (.seq (.region [⟨some 4,.alloc [.str [],.nils,.str []],none⟩]) (.seq (.region [⟨some 10,.mov (.tmp 0),none⟩,
 ⟨some 11,.call (.fn 70) [(.tmp 10),(.const (.str [59,58]))],none⟩,⟨some 9,.mov (.tmp 11),none⟩,⟨some 12,.ext 0 (.tmp 9),none⟩,⟨some 13,.ext 1 (.tmp 9),none⟩,⟨some 14,.ext 2 (.tmp 9),none⟩,⟨some 5,.mov (.tmp 12),none⟩,
 ⟨some 6,.mov (.tmp 13),none⟩,⟨some 7,.mov (.tmp 14),none⟩]) (.seq (.region [⟨some 15,.mov (.tmp 5),none⟩,⟨some 16,.call (.fn 71) [(.tmp 15)],none⟩,⟨some 17,.faddr 0 (.tmp 4),none⟩,⟨none,.store 1 (.tmp 17) (.tmp 16),none⟩]) (.seq (.block 0 (.loop (.seq (.seq (.region [⟨some 18,.mov (.tmp 6),none⟩,
 ⟨some 19,.bin .eql .no (.tmp 18) (.const (.b8 59)),none⟩]) (.cond (.tmp 19) (.skip) (.exit 0))) (.block 1 (.seq (.region [⟨some 8,.alloc [.str [],.str []],none⟩]) (.seq (.region [⟨some 21,.mov (.tmp 7),none⟩,
 ⟨some 22,.call (.fn 70) [(.tmp 21),(.const (.str [61,59,58]))],none⟩,⟨some 20,.mov (.tmp 22),none⟩,⟨some 23,.ext 0 (.tmp 20),none⟩,⟨some 24,.ext 1 (.tmp 20),none⟩,⟨some 25,.ext 2 (.tmp 20),none⟩,⟨some 26,.faddr 0 (.tmp 8),none⟩,
 ⟨none,.store 1 (.tmp 26) (.tmp 23),none⟩,⟨some 6,.mov (.tmp 24),none⟩,⟨some 7,.mov (.tmp 25),none⟩]) (.seq (.region [⟨some 27,.faddr 0 (.tmp 8),none⟩,⟨some 28,.load false 1 (.tmp 27),none⟩,⟨some 29,.call (.fn 71) [(.tmp 28)],none⟩,
 ⟨some 30,.faddr 0 (.tmp 8),none⟩,⟨none,.store 1 (.tmp 30) (.tmp 29),none⟩]) (.seq (.seq (.region [⟨some 31,.mov (.tmp 6),none⟩,⟨some 32,.bin .neq .no (.tmp 31) (.const (.b8 61)),none⟩]) (.cond (.tmp 32) (.goto 0) (.skip))) (.seq (.seq (.region [⟨some 33,.mov (.tmp 7),none⟩,
 ⟨some 34,.call (.fn 72) [(.tmp 33),(.const (.str [34]))],none⟩]) (.cond (.tmp 34) (.seq (.region [⟨some 36,.mov (.tmp 7),none⟩,⟨some 37,.slc 0 (.tmp 36) (some (.const (.int .i64 1))) none none,none⟩,⟨some 38,.call (.fn 70) [(.tmp 37),(.const (.str [34]))],none⟩,
 ⟨some 35,.mov (.tmp 38),none⟩,⟨some 39,.ext 0 (.tmp 35),none⟩,⟨some 40,.ext 1 (.tmp 35),none⟩,⟨some 41,.ext 2 (.tmp 35),none⟩,⟨some 42,.faddr 1 (.tmp 8),none⟩,⟨none,.store 1 (.tmp 42) (.tmp 39),none⟩,⟨some 6,.mov (.tmp 40),none⟩,
 ⟨some 7,.mov (.tmp 41),none⟩]) (.seq (.seq (.region [⟨some 43,.mov (.tmp 6),none⟩,⟨some 44,.bin .eql .no (.tmp 43) (.const (.b8 0)),none⟩,⟨some 45,.mov (.tmp 44),none⟩,⟨some 46,.mov (.tmp 7),some (45,false)⟩,
 ⟨some 47,.bin .eql .no (.tmp 46) (.const (.str [])),some (45,false)⟩,⟨some 48,.pick (.tmp 45) (.const (.bool true)) (.tmp 47),none⟩]) (.cond (.tmp 48) (.goto 0) (.skip))) (.seq (.region [⟨some 49,.mov (.tmp 7),none⟩,
 ⟨some 50,.idxS (.tmp 49) (.const (.int .i64 0)),none⟩,⟨some 51,.mov (.tmp 7),none⟩,⟨some 52,.slc 0 (.tmp 51) (some (.const (.int .i64 1))) none none,none⟩,⟨some 6,.mov (.tmp 50),none⟩,⟨some 7,.mov (.tmp 52),none⟩]) (.seq (.region [⟨some 53,.mov (.tmp 6),none⟩,
 ⟨some 54,.bin .neq .no (.tmp 53) (.const (.b8 59)),none⟩,⟨some 55,.mov (.tmp 54),none⟩,⟨some 56,.mov (.tmp 6),some (55,true)⟩,⟨some 57,.bin .neq .no (.tmp 56) (.const (.b8 58)),some (55,true)⟩,⟨some 58,.pick (.tmp 55) (.tmp 57) (.const (.bool false)),none⟩]) (.cond (.tmp 58) (.goto 0) (.skip)))))) (.region [⟨some 60,.mov (.tmp 7),none⟩,
 ⟨some 61,.call (.fn 70) [(.tmp 60),(.const (.str [59,58,44,34]))],none⟩,⟨some 59,.mov (.tmp 61),none⟩,⟨some 62,.ext 0 (.tmp 59),none⟩,⟨some 63,.ext 1 (.tmp 59),none⟩,⟨some 64,.ext 2 (.tmp 59),none⟩,⟨some 65,.faddr 1 (.tmp 8),none⟩,
 ⟨none,.store 1 (.tmp 65) (.tmp 62),none⟩,⟨some 6,.mov (.tmp 63),none⟩,⟨some 7,.mov (.tmp 64),none⟩]))) (.region [⟨some 66,.faddr 1 (.tmp 4),none⟩,⟨some 67,.load false 1 (.tmp 66),none⟩,⟨some 68,.load true 2 (.tmp 8),none⟩,
 ⟨some 69,.lit 2 (.agg [.str [],.str []]) 1 [(0,(.tmp 68))],none⟩,⟨some 70,.app false 2 (.tmp 67) (.tmp 69),none⟩,⟨some 71,.faddr 1 (.tmp 4),none⟩,⟨none,.store 1 (.tmp 71) (.tmp 70),none⟩])))))))))) (.seq (.region [⟨some 72,.mov (.tmp 7),none⟩,
 ⟨some 73,.faddr 2 (.tmp 4),none⟩,⟨none,.store 1 (.tmp 73) (.tmp 72),none⟩]) (.seq (.seq (.region [⟨some 74,.mov (.tmp 6),none⟩,⟨some 75,.bin .neq .no (.tmp 74) (.const (.b8 58)),none⟩,⟨some 76,.mov (.tmp 75),none⟩,
 ⟨some 77,.load true 3 (.tmp 4),some (76,false)⟩,⟨some 78,.call (.fn 50) [(.tmp 77)],some (76,false)⟩,⟨some 79,.un .not (.tmp 78),some (76,false)⟩,⟨some 80,.pick (.tmp 76) (.const (.bool true)) (.tmp 79),none⟩]) (.cond (.tmp 80) (.goto 0) (.skip))) (.seq (.seq (.region [⟨some 81,.load true 3 (.tmp 4),none⟩,
 ⟨none,.store 3 (.tmp 2) (.tmp 81),none⟩,⟨some 3,.mov (.const (.int .i64 0)),none⟩]) (.ret)) (.seq (.label 0) (.seq (.region [⟨some 82,.build [.str [],.nils,.str []] [],none⟩,⟨none,.store 3 (.tmp 2) (.tmp 82),none⟩,
 ⟨some 3,.mov (.const (.int .i64 90)),none⟩]) (.ret)))))))))))) }

def F_posthornref04_Has : ACFn := { nt := 24,results := [.tmp 4],body := (.seq (.region [⟨some 4,.mov (.const (.bool false)),none⟩]) (.seq (.seq (.region [⟨some 5,.mov (.const (.int .i64 0)),none⟩]) (.block 0 (.loop (.seq (.seq (.region [⟨some 6,.mov (.tmp 5),none⟩,
 ⟨some 7,.mov (.tmp 1),none⟩,⟨some 8,.len true (.tmp 7),none⟩,⟨some 9,.bin .add .no (.tmp 6) (.tmp 8),none⟩,⟨some 10,.mov (.tmp 0),none⟩,⟨some 11,.len true (.tmp 10),none⟩,⟨some 12,.bin .leq .no (.tmp 9) (.tmp 11),none⟩]) (.cond (.tmp 12) (.skip) (.exit 0))) (.seq (.block 1 (.seq (.region [⟨some 15,.mov (.tmp 0),none⟩,
 ⟨some 16,.mov (.tmp 5),none⟩,⟨some 17,.mov (.tmp 5),none⟩,⟨some 18,.mov (.tmp 1),none⟩,⟨some 19,.len true (.tmp 18),none⟩,⟨some 20,.bin .add .no (.tmp 17) (.tmp 19),none⟩,⟨some 21,.slc 0 (.tmp 15) (some (.tmp 16)) (some (.tmp 20)) none,none⟩,
 ⟨some 22,.mov (.tmp 1),none⟩,⟨some 23,.bin .eql .no (.tmp 21) (.tmp 22),none⟩]) (.cond (.tmp 23) (.seq (.region [⟨some 4,.mov (.const (.bool true)),none⟩]) (.ret)) (.skip)))) (.region [⟨some 13,.mov (.tmp 5),none⟩,
 ⟨some 14,.bin .add .no (.tmp 13) (.const (.int .i64 1)),none⟩,⟨some 5,.mov (.tmp 14),none⟩])))))) (.seq (.region [⟨some 4,.mov (.const (.bool false)),none⟩]) (.ret)))) }

def F_sheet_line : ACFn := { nt := 45,results := [.tmp 2],body := (.seq (.region [⟨some 1,.box (.tmp 0),none⟩,⟨some 2,.mov (.const (.str [])),none⟩]) (.seq (.region [⟨some 7,.faddr 0 (.tmp 1),none⟩,⟨some 8,.load false 1 (.tmp 7),none⟩,
 ⟨some 3,.mov (.tmp 8),none⟩]) (.seq (.seq (.region [⟨some 9,.faddr 1 (.tmp 1),none⟩,⟨some 10,.load false 1 (.tmp 9),none⟩,⟨some 11,.len false (.tmp 10),none⟩,⟨some 12,.mov (.const (.int .i64 0)),none⟩]) (.block 0 (.loop (.seq (.region [⟨some 13,.bin .lss .no (.tmp 12) (.tmp 11),none⟩]) (.seq (.cond (.tmp 13) (.skip) (.exit 0)) (.seq (.block 1 (.seq (.region [⟨some 14,.iaddr 2 (.tmp 10) (.tmp 12),none⟩,
 ⟨some 15,.load true 2 (.tmp 14),none⟩,⟨some 5,.alloc [.str [],.str []],none⟩,⟨none,.store 2 (.tmp 5) (.tmp 15),none⟩]) (.seq (.region [⟨some 16,.faddr 1 (.tmp 5),none⟩,⟨some 17,.load false 1 (.tmp 16),none⟩,
 ⟨some 6,.mov (.tmp 17),none⟩]) (.seq (.seq (.region [⟨some 18,.mov (.tmp 6),none⟩,⟨some 19,.call (.fn 66) [(.tmp 18),(.const (.str [59]))],none⟩,⟨some 20,.mov (.tmp 19),none⟩,⟨some 21,.mov (.tmp 6),some (20,false)⟩,
 ⟨some 22,.call (.fn 66) [(.tmp 21),(.const (.str [58]))],some (20,false)⟩,⟨some 23,.pick (.tmp 20) (.const (.bool true)) (.tmp 22),none⟩,⟨some 24,.mov (.tmp 23),none⟩,⟨some 25,.mov (.tmp 6),some (24,false)⟩,
 ⟨some 26,.call (.fn 66) [(.tmp 25),(.const (.str [44]))],some (24,false)⟩,⟨some 27,.pick (.tmp 24) (.const (.bool true)) (.tmp 26),none⟩]) (.cond (.tmp 27) (.region [⟨some 28,.mov (.tmp 6),none⟩,⟨some 29,.bin .add .no (.const (.str [34])) (.tmp 28),none⟩,
 ⟨some 30,.bin .add .no (.tmp 29) (.const (.str [34])),none⟩,⟨some 6,.mov (.tmp 30),none⟩]) (.skip))) (.region [⟨some 31,.mov (.tmp 3),none⟩,⟨some 32,.faddr 0 (.tmp 5),none⟩,⟨some 33,.load false 1 (.tmp 32),none⟩,
 ⟨some 34,.bin .add .no (.const (.str [59])) (.tmp 33),none⟩,⟨some 35,.bin .add .no (.tmp 34) (.const (.str [61])),none⟩,⟨some 36,.mov (.tmp 6),none⟩,⟨some 37,.bin .add .no (.tmp 35) (.tmp 36),none⟩,⟨some 38,.bin .add .no (.tmp 31) (.tmp 37),none⟩,
 ⟨some 3,.mov (.tmp 38),none⟩]))))) (.region [⟨some 39,.bin .add .no (.tmp 12) (.const (.int .i64 1)),none⟩,⟨some 12,.mov (.tmp 39),none⟩]))))))) (.seq (.region [⟨some 40,.mov (.tmp 3),none⟩,⟨some 41,.bin .add .no (.tmp 40) (.const (.str [58])),none⟩,
 ⟨some 42,.faddr 2 (.tmp 1),none⟩,⟨some 43,.load false 1 (.tmp 42),none⟩,⟨some 44,.bin .add .no (.tmp 41) (.tmp 43),none⟩,⟨some 2,.mov (.tmp 44),none⟩]) (.ret))))) }

def F_utf_Cut : ACFn := { nt := 33,results := [.tmp 4],body := (.seq (.region [⟨some 4,.mov (.const (.int .i64 0)),none⟩]) (.seq (.region [⟨some 5,.mov (.tmp 1),none⟩,⟨some 6,.mov (.tmp 0),none⟩,⟨some 7,.len false (.tmp 6),none⟩,
 ⟨some 8,.mnmx false [(.tmp 5),(.tmp 7)],none⟩,⟨some 9,.mnmx true [(.tmp 8),(.const (.int .i64 0))],none⟩,⟨some 1,.mov (.tmp 9),none⟩]) (.seq (.seq (.region [⟨some 10,.mov (.tmp 0),none⟩,⟨some 11,.call (.fn 53) [(.tmp 10)],none⟩,
 ⟨some 12,.un .not (.tmp 11),none⟩]) (.cond (.tmp 12) (.seq (.region [⟨some 13,.mov (.tmp 1),none⟩,⟨some 4,.mov (.tmp 13),none⟩]) (.ret)) (.skip))) (.seq (.block 0 (.loop (.seq (.seq (.region [⟨some 14,.mov (.tmp 1),none⟩,
 ⟨some 15,.bin .gtr .no (.tmp 14) (.const (.int .i64 0)),none⟩,⟨some 16,.mov (.tmp 15),none⟩,⟨some 17,.mov (.tmp 1),some (16,true)⟩,⟨some 18,.mov (.tmp 0),some (16,true)⟩,⟨some 19,.len false (.tmp 18),some (16,true)⟩,
 ⟨some 20,.bin .lss .no (.tmp 17) (.tmp 19),some (16,true)⟩,⟨some 21,.pick (.tmp 16) (.tmp 20) (.const (.bool false)),none⟩,⟨some 22,.mov (.tmp 21),none⟩,⟨some 23,.mov (.tmp 0),some (22,true)⟩,⟨some 24,.mov (.tmp 1),some (22,true)⟩,
 ⟨some 25,.iaddr 1 (.tmp 23) (.tmp 24),some (22,true)⟩,⟨some 26,.load false 1 (.tmp 25),some (22,true)⟩,⟨some 27,.bin .shr .no (.tmp 26) (.const (.int .u64 6)),some (22,true)⟩,⟨some 28,.bin .eql .no (.tmp 27) (.const (.b8 2)),some (22,true)⟩,
 ⟨some 29,.pick (.tmp 22) (.tmp 28) (.const (.bool false)),none⟩]) (.cond (.tmp 29) (.skip) (.exit 0))) (.block 1 (.region [⟨some 30,.mov (.tmp 1),none⟩,⟨some 31,.bin .sub .no (.tmp 30) (.const (.int .i64 1)),none⟩,
 ⟨some 1,.mov (.tmp 31),none⟩]))))) (.seq (.region [⟨some 32,.mov (.tmp 1),none⟩,⟨some 4,.mov (.tmp 32),none⟩]) (.ret)))))) }

def F_posthornref10_Plain : ACFn := { nt := 51,results := [.tmp 2],body := (.seq (.region [⟨some 1,.box (.tmp 0),none⟩,⟨some 2,.mov (.const (.str [])),none⟩]) (.seq (.region [⟨some 6,.faddr 0 (.tmp 1),none⟩,⟨some 7,.load false 1 (.tmp 6),none⟩,
 ⟨some 3,.mov (.tmp 7),none⟩]) (.seq (.seq (.region [⟨some 4,.mov (.const (.int .i64 0)),none⟩]) (.block 0 (.loop (.seq (.seq (.region [⟨some 8,.mov (.tmp 4),none⟩,⟨some 9,.faddr 1 (.tmp 1),none⟩,⟨some 10,.load false 1 (.tmp 9),none⟩,
 ⟨some 11,.len false (.tmp 10),none⟩,⟨some 12,.bin .lss .no (.tmp 8) (.tmp 11),none⟩]) (.cond (.tmp 12) (.skip) (.exit 0))) (.seq (.block 1 (.seq (.region [⟨some 15,.faddr 1 (.tmp 1),none⟩,⟨some 16,.load false 1 (.tmp 15),none⟩,
 ⟨some 17,.mov (.tmp 4),none⟩,⟨some 18,.iaddr 2 (.tmp 16) (.tmp 17),none⟩,⟨some 19,.faddr 1 (.tmp 18),none⟩,⟨some 20,.load false 1 (.tmp 19),none⟩,⟨some 5,.mov (.tmp 20),none⟩]) (.seq (.seq (.region [⟨some 21,.mov (.tmp 5),none⟩,
 ⟨some 22,.call (.fn 56) [(.tmp 21),(.const (.str [59]))],none⟩,⟨some 23,.mov (.tmp 22),none⟩,⟨some 24,.mov (.tmp 5),some (23,false)⟩,⟨some 25,.call (.fn 56) [(.tmp 24),(.const (.str [58]))],some (23,false)⟩,
 ⟨some 26,.pick (.tmp 23) (.const (.bool true)) (.tmp 25),none⟩,⟨some 27,.mov (.tmp 26),none⟩,⟨some 28,.mov (.tmp 5),some (27,false)⟩,⟨some 29,.call (.fn 56) [(.tmp 28),(.const (.str [44]))],some (27,false)⟩,
 ⟨some 30,.pick (.tmp 27) (.const (.bool true)) (.tmp 29),none⟩]) (.cond (.tmp 30) (.region [⟨some 31,.mov (.tmp 5),none⟩,⟨some 32,.bin .add .no (.const (.str [34])) (.tmp 31),none⟩,⟨some 33,.bin .add .no (.tmp 32) (.const (.str [34])),none⟩,
 ⟨some 5,.mov (.tmp 33),none⟩]) (.skip))) (.region [⟨some 34,.mov (.tmp 3),none⟩,⟨some 35,.bin .add .no (.tmp 34) (.const (.str [59])),none⟩,⟨some 36,.faddr 1 (.tmp 1),none⟩,⟨some 37,.load false 1 (.tmp 36),none⟩,
 ⟨some 38,.mov (.tmp 4),none⟩,⟨some 39,.iaddr 2 (.tmp 37) (.tmp 38),none⟩,⟨some 40,.faddr 0 (.tmp 39),none⟩,⟨some 41,.load false 1 (.tmp 40),none⟩,⟨some 42,.bin .add .no (.tmp 35) (.tmp 41),none⟩,⟨some 43,.bin .add .no (.tmp 42) (.const (.str [61])),none⟩,
 ⟨some 44,.mov (.tmp 5),none⟩,⟨some 45,.bin .add .no (.tmp 43) (.tmp 44),none⟩,⟨some 3,.mov (.tmp 45),none⟩])))) (.region [⟨some 13,.mov (.tmp 4),none⟩,⟨some 14,.bin .add .no (.tmp 13) (.const (.int .i64 1)),none⟩,
 ⟨some 4,.mov (.tmp 14),none⟩])))))) (.seq (.region [⟨some 46,.mov (.tmp 3),none⟩,⟨some 47,.bin .add .no (.tmp 46) (.const (.str [58])),none⟩,⟨some 48,.faddr 2 (.tmp 1),none⟩,⟨some 49,.load false 1 (.tmp 48),none⟩,
 ⟨some 50,.bin .add .no (.tmp 47) (.tmp 49),none⟩,⟨some 2,.mov (.tmp 50),none⟩]) (.ret))))) }

def F_posthornref02_Cut : ACFn := { nt := 43,results := [.tmp 4],body := (.seq (.region [⟨some 4,.mov (.const (.int .i64 0)),none⟩]) (.seq (.seq (.region [⟨some 9,.mov (.tmp 1),none⟩,⟨some 10,.bin .lss .no (.tmp 9) (.const (.int .i64 0)),none⟩]) (.cond (.tmp 10) (.seq (.region [⟨some 4,.mov (.const (.int .i64 0)),none⟩]) (.ret)) (.skip))) (.seq (.seq (.region [⟨some 11,.mov (.tmp 0),none⟩,
 ⟨some 12,.call (.fn 74) [(.tmp 11)],none⟩,⟨some 13,.un .not (.tmp 12),none⟩]) (.cond (.tmp 13) (.seq (.seq (.region [⟨some 14,.mov (.tmp 1),none⟩,⟨some 15,.mov (.tmp 0),none⟩,⟨some 16,.len false (.tmp 15),none⟩,
 ⟨some 17,.bin .lss .no (.tmp 14) (.tmp 16),none⟩]) (.cond (.tmp 17) (.seq (.region [⟨some 18,.mov (.tmp 1),none⟩,⟨some 4,.mov (.tmp 18),none⟩]) (.ret)) (.skip))) (.seq (.region [⟨some 19,.mov (.tmp 0),none⟩,
 ⟨some 20,.len false (.tmp 19),none⟩,⟨some 4,.mov (.tmp 20),none⟩]) (.ret))) (.skip))) (.seq (.region [⟨some 5,.mov (.const (.int .i64 0)),none⟩]) (.seq (.block 0 (.loop (.seq (.seq (.region [⟨some 21,.mov (.tmp 5),none⟩,
 ⟨some 22,.mov (.tmp 0),none⟩,⟨some 23,.len false (.tmp 22),none⟩,⟨some 24,.bin .lss .no (.tmp 21) (.tmp 23),none⟩]) (.cond (.tmp 24) (.skip) (.exit 0))) (.block 1 (.seq (.region [⟨some 26,.mov (.tmp 0),none⟩,
 ⟨some 27,.mov (.tmp 5),none⟩,⟨some 28,.slc 1 (.tmp 26) (some (.tmp 27)) none none,none⟩,⟨some 29,.call (.fn 75) [(.tmp 28)],none⟩,⟨some 25,.mov (.tmp 29),none⟩,⟨some 30,.ext 0 (.tmp 25),none⟩,⟨some 31,.ext 1 (.tmp 25),none⟩,
 ⟨some 32,.ext 2 (.tmp 25),none⟩,⟨some 6,.mov (.tmp 30),none⟩,⟨some 7,.mov (.tmp 31),none⟩,⟨some 8,.mov (.tmp 32),none⟩]) (.seq (.seq (.region [⟨some 33,.mov (.tmp 7),none⟩,⟨some 34,.mov (.tmp 1),none⟩,
 ⟨some 35,.mov (.tmp 5),none⟩,⟨some 36,.bin .sub .no (.tmp 34) (.tmp 35),none⟩,⟨some 37,.bin .gtr .no (.tmp 33) (.tmp 36),none⟩]) (.cond (.tmp 37) (.seq (.region [⟨some 38,.mov (.tmp 5),none⟩,⟨some 4,.mov (.tmp 38),none⟩]) (.ret)) (.skip))) (.region [⟨some 39,.mov (.tmp 5),none⟩,
 ⟨some 40,.mov (.tmp 7),none⟩,⟨some 41,.bin .add .no (.tmp 39) (.tmp 40),none⟩,⟨some 5,.mov (.tmp 41),none⟩]))))))) (.seq (.region [⟨some 42,.mov (.tmp 5),none⟩,⟨some 4,.mov (.tmp 42),none⟩]) (.ret))))))) }

def F_sheet_isName : ACFn := { nt := 40,results := [.tmp 2],body := (.seq (.region [⟨some 2,.mov (.const (.bool false)),none⟩]) (.seq (.seq (.region [⟨some 5,.mov (.tmp 0),none⟩,⟨some 6,.len true (.tmp 5),none⟩,⟨some 7,.mov (.const (.int .i64 0)),none⟩]) (.block 0 (.loop (.seq (.region [⟨some 8,.bin .lss .no (.tmp 7) (.tmp 6),none⟩]) (.seq (.cond (.tmp 8) (.skip) (.exit 0)) (.seq (.block 1 (.seq (.region [⟨some 9,.mov (.tmp 7),none⟩,
 ⟨some 3,.mov (.tmp 9),none⟩]) (.seq (.region [⟨some 10,.mov (.tmp 0),none⟩,⟨some 11,.mov (.tmp 3),none⟩,⟨some 12,.idxS (.tmp 10) (.tmp 11),none⟩,⟨some 4,.mov (.tmp 12),none⟩]) (.seq (.region [⟨some 13,.mov (.tmp 4),none⟩,
 ⟨some 14,.bin .geq .no (.tmp 13) (.const (.b8 65)),none⟩,⟨some 15,.mov (.tmp 14),none⟩,⟨some 16,.mov (.tmp 4),some (15,true)⟩,⟨some 17,.bin .leq .no (.tmp 16) (.const (.b8 90)),some (15,true)⟩,⟨some 18,.pick (.tmp 15) (.tmp 17) (.const (.bool false)),none⟩,
 ⟨some 19,.mov (.tmp 18),none⟩,⟨some 20,.mov (.tmp 4),some (19,false)⟩,⟨some 21,.bin .geq .no (.tmp 20) (.const (.b8 48)),some (19,false)⟩,⟨some 22,.mov (.tmp 21),some (19,false)⟩,⟨some 23,.mov (.tmp 4),some (22,true)⟩,
 ⟨some 24,.bin .leq .no (.tmp 23) (.const (.b8 57)),some (22,true)⟩,⟨some 25,.pick (.tmp 22) (.tmp 24) (.const (.bool false)),some (19,false)⟩,⟨some 26,.pick (.tmp 19) (.const (.bool true)) (.tmp 25),none⟩,
 ⟨some 27,.mov (.tmp 26),none⟩,⟨some 28,.mov (.tmp 4),some (27,false)⟩,⟨some 29,.bin .eql .no (.tmp 28) (.const (.b8 45)),some (27,false)⟩,⟨some 30,.pick (.tmp 27) (.const (.bool true)) (.tmp 29),none⟩,
 ⟨some 31,.un .not (.tmp 30),none⟩]) (.cond (.tmp 31) (.seq (.region [⟨some 2,.mov (.const (.bool false)),none⟩]) (.ret)) (.skip)))))) (.region [⟨some 32,.bin .add .no (.tmp 7) (.const (.int .i64 1)),none⟩,
 ⟨some 7,.mov (.tmp 32),none⟩]))))))) (.seq (.region [⟨some 33,.mov (.tmp 0),none⟩,⟨some 34,.bin .neq .no (.tmp 33) (.const (.str [])),none⟩,⟨some 35,.mov (.tmp 34),none⟩,⟨some 36,.mov (.tmp 0),some (35,true)⟩,
 ⟨some 37,.len true (.tmp 36),some (35,true)⟩,⟨some 38,.bin .leq .no (.tmp 37) (.const (.int .i64 64)),some (35,true)⟩,⟨some 39,.pick (.tmp 35) (.tmp 38) (.const (.bool false)),none⟩,⟨some 2,.mov (.tmp 39),none⟩]) (.ret)))) }

def F_sheet_isText : ACFn := { nt := 37,results := [.tmp 4],body := (.seq (.region [⟨some 4,.mov (.const (.bool false)),none⟩]) (.seq (.seq (.region [⟨some 6,.mov (.tmp 0),none⟩,⟨some 7,.len true (.tmp 6),none⟩,⟨some 8,.mov (.const (.int .i64 0)),none⟩]) (.block 0 (.loop (.seq (.region [⟨some 9,.bin .lss .no (.tmp 8) (.tmp 7),none⟩]) (.seq (.cond (.tmp 9) (.skip) (.exit 0)) (.seq (.block 1 (.seq (.region [⟨some 10,.mov (.tmp 8),none⟩,
 ⟨some 5,.mov (.tmp 10),none⟩]) (.seq (.region [⟨some 11,.mov (.tmp 0),none⟩,⟨some 12,.mov (.tmp 5),none⟩,⟨some 13,.idxS (.tmp 11) (.tmp 12),none⟩,⟨some 14,.bin .lss .no (.tmp 13) (.const (.b8 32)),none⟩,
 ⟨some 15,.mov (.tmp 14),none⟩,⟨some 16,.mov (.tmp 0),some (15,true)⟩,⟨some 17,.mov (.tmp 5),some (15,true)⟩,⟨some 18,.idxS (.tmp 16) (.tmp 17),some (15,true)⟩,⟨some 19,.bin .neq .no (.tmp 18) (.const (.b8 9)),some (15,true)⟩,
 ⟨some 20,.pick (.tmp 15) (.tmp 19) (.const (.bool false)),none⟩,⟨some 21,.mov (.tmp 20),none⟩,⟨some 22,.mov (.tmp 0),some (21,false)⟩,⟨some 23,.mov (.tmp 5),some (21,false)⟩,⟨some 24,.idxS (.tmp 22) (.tmp 23),some (21,false)⟩,
 ⟨some 25,.bin .eql .no (.tmp 24) (.const (.b8 127)),some (21,false)⟩,⟨some 26,.pick (.tmp 21) (.const (.bool true)) (.tmp 25),none⟩]) (.cond (.tmp 26) (.seq (.region [⟨some 4,.mov (.const (.bool false)),none⟩]) (.ret)) (.skip))))) (.region [⟨some 27,.bin .add .no (.tmp 8) (.const (.int .i64 1)),none⟩,
 ⟨some 8,.mov (.tmp 27),none⟩]))))))) (.seq (.region [⟨some 28,.mov (.tmp 0),none⟩,⟨some 29,.len true (.tmp 28),none⟩,⟨some 30,.mov (.tmp 1),none⟩,⟨some 31,.bin .leq .no (.tmp 29) (.tmp 30),none⟩,⟨some 32,.mov (.tmp 31),none⟩,
 ⟨some 33,.mov (.tmp 0),some (32,true)⟩,⟨some 34,.cS2B false (.tmp 33),some (32,true)⟩,⟨some 35,.call (.fn 53) [(.tmp 34)],some (32,true)⟩,⟨some 36,.pick (.tmp 32) (.tmp 35) (.const (.bool false)),none⟩,
 ⟨some 4,.mov (.tmp 36),none⟩]) (.ret)))) }

def F_strings_Contains : ACFn := { nt := 9,results := [.tmp 4],body := (.seq (.region [⟨some 4,.mov (.const (.bool false)),none⟩]) (.seq (.region [⟨some 5,.mov (.tmp 0),none⟩,⟨some 6,.mov (.tmp 1),none⟩,⟨some 7,.call (.fn 76) [(.tmp 5),(.tmp 6)],none⟩,
 ⟨some 8,.bin .geq .no (.tmp 7) (.const (.int .i64 0)),none⟩,⟨some 4,.mov (.tmp 8),none⟩]) (.ret))) }

def F_posthornref10_Name : ACFn := { nt := 47,results := [.tmp 2],body := (.seq (.region [⟨some 2,.mov (.const (.bool false)),none⟩]) (.seq (.seq (.region [⟨some 3,.mov (.const (.int .i64 0)),none⟩]) (.block 0 (.loop (.seq (.seq (.region [⟨some 4,.mov (.tmp 3),none⟩,
 ⟨some 5,.mov (.tmp 0),none⟩,⟨some 6,.len true (.tmp 5),none⟩,⟨some 7,.bin .lss .no (.tmp 4) (.tmp 6),none⟩]) (.cond (.tmp 7) (.skip) (.exit 0))) (.seq (.block 1 (.seq (.region [⟨some 10,.mov (.tmp 0),none⟩,
 ⟨some 11,.mov (.tmp 3),none⟩,⟨some 12,.idxS (.tmp 10) (.tmp 11),none⟩,⟨some 13,.bin .geq .no (.tmp 12) (.const (.b8 65)),none⟩,⟨some 14,.mov (.tmp 13),none⟩,⟨some 15,.mov (.tmp 0),some (14,true)⟩,⟨some 16,.mov (.tmp 3),some (14,true)⟩,
 ⟨some 17,.idxS (.tmp 15) (.tmp 16),some (14,true)⟩,⟨some 18,.bin .leq .no (.tmp 17) (.const (.b8 90)),some (14,true)⟩,⟨some 19,.pick (.tmp 14) (.tmp 18) (.const (.bool false)),none⟩,⟨some 20,.mov (.tmp 19),none⟩,
 ⟨some 21,.mov (.tmp 0),some (20,false)⟩,⟨some 22,.mov (.tmp 3),some (20,false)⟩,⟨some 23,.idxS (.tmp 21) (.tmp 22),some (20,false)⟩,⟨some 24,.bin .geq .no (.tmp 23) (.const (.b8 48)),some (20,false)⟩,⟨some 25,.mov (.tmp 24),some (20,false)⟩,
 ⟨some 26,.mov (.tmp 0),some (25,true)⟩,⟨some 27,.mov (.tmp 3),some (25,true)⟩,⟨some 28,.idxS (.tmp 26) (.tmp 27),some (25,true)⟩,⟨some 29,.bin .leq .no (.tmp 28) (.const (.b8 57)),some (25,true)⟩,⟨some 30,.pick (.tmp 25) (.tmp 29) (.const (.bool false)),some (20,false)⟩,
 ⟨some 31,.pick (.tmp 20) (.const (.bool true)) (.tmp 30),none⟩,⟨some 32,.mov (.tmp 31),none⟩,⟨some 33,.mov (.tmp 0),some (32,false)⟩,⟨some 34,.mov (.tmp 3),some (32,false)⟩,⟨some 35,.idxS (.tmp 33) (.tmp 34),some (32,false)⟩,
 ⟨some 36,.bin .eql .no (.tmp 35) (.const (.b8 45)),some (32,false)⟩,⟨some 37,.pick (.tmp 32) (.const (.bool true)) (.tmp 36),none⟩,⟨some 38,.un .not (.tmp 37),none⟩]) (.cond (.tmp 38) (.seq (.region [⟨some 2,.mov (.const (.bool false)),none⟩]) (.ret)) (.skip)))) (.region [⟨some 8,.mov (.tmp 3),none⟩,
 ⟨some 9,.bin .add .no (.tmp 8) (.const (.int .i64 1)),none⟩,⟨some 3,.mov (.tmp 9),none⟩])))))) (.seq (.region [⟨some 39,.mov (.tmp 0),none⟩,⟨some 40,.len true (.tmp 39),none⟩,⟨some 41,.bin .geq .no (.tmp 40) (.const (.int .i64 1)),none⟩,
 ⟨some 42,.mov (.tmp 41),none⟩,⟨some 43,.mov (.tmp 0),some (42,true)⟩,⟨some 44,.len true (.tmp 43),some (42,true)⟩,⟨some 45,.bin .leq .no (.tmp 44) (.const (.int .i64 64)),some (42,true)⟩,⟨some 46,.pick (.tmp 42) (.tmp 45) (.const (.bool false)),none⟩,
 ⟨some 2,.mov (.tmp 46),none⟩]) (.ret)))) }

def F_posthornref10_Text : ACFn := { nt := 29,results := [.tmp 2],body := (.seq (.region [⟨some 2,.mov (.const (.bool false)),none⟩]) (.seq (.seq (.region [⟨some 3,.mov (.const (.int .i64 0)),none⟩]) (.block 0 (.loop (.seq (.seq (.region [⟨some 4,.mov (.tmp 3),none⟩,
 ⟨some 5,.mov (.tmp 0),none⟩,⟨some 6,.len true (.tmp 5),none⟩,⟨some 7,.bin .lss .no (.tmp 4) (.tmp 6),none⟩]) (.cond (.tmp 7) (.skip) (.exit 0))) (.seq (.block 1 (.seq (.region [⟨some 10,.mov (.tmp 0),none⟩,
 ⟨some 11,.mov (.tmp 3),none⟩,⟨some 12,.idxS (.tmp 10) (.tmp 11),none⟩,⟨some 13,.bin .eql .no (.tmp 12) (.const (.b8 127)),none⟩,⟨some 14,.mov (.tmp 13),none⟩,⟨some 15,.mov (.tmp 0),some (14,false)⟩,⟨some 16,.mov (.tmp 3),some (14,false)⟩,
 ⟨some 17,.idxS (.tmp 15) (.tmp 16),some (14,false)⟩,⟨some 18,.bin .lss .no (.tmp 17) (.const (.b8 32)),some (14,false)⟩,⟨some 19,.mov (.tmp 18),some (14,false)⟩,⟨some 20,.mov (.tmp 0),some (19,true)⟩,⟨some 21,.mov (.tmp 3),some (19,true)⟩,
 ⟨some 22,.idxS (.tmp 20) (.tmp 21),some (19,true)⟩,⟨some 23,.bin .neq .no (.tmp 22) (.const (.b8 9)),some (19,true)⟩,⟨some 24,.pick (.tmp 19) (.tmp 23) (.const (.bool false)),some (14,false)⟩,⟨some 25,.pick (.tmp 14) (.const (.bool true)) (.tmp 24),none⟩]) (.cond (.tmp 25) (.seq (.region [⟨some 2,.mov (.const (.bool false)),none⟩]) (.ret)) (.skip)))) (.region [⟨some 8,.mov (.tmp 3),none⟩,
 ⟨some 9,.bin .add .no (.tmp 8) (.const (.int .i64 1)),none⟩,⟨some 3,.mov (.tmp 9),none⟩])))))) (.seq (.region [⟨some 26,.mov (.tmp 0),none⟩,⟨some 27,.cS2B false (.tmp 26),none⟩,⟨some 28,.call (.fn 74) [(.tmp 27)],none⟩,
 ⟨some 2,.mov (.tmp 28),none⟩]) (.ret)))) }

def F_utf_Points : ACFn := { nt := 35,results := [.tmp 2,.cell 3 true 2],body := (.seq (.region [⟨some 2,.mov (.const (.nils)),none⟩,⟨some 3,.alloc [.int .i64 0,.int .i64 0],none⟩]) (.seq (.region [⟨some 4,.mov (.const (.nils)),none⟩]) (.seq (.seq (.region [⟨some 5,.mov (.const (.int .i64 0)),none⟩]) (.block 0 (.loop (.seq (.seq (.region [⟨some 9,.mov (.tmp 5),none⟩,
 ⟨some 10,.mov (.tmp 0),none⟩,⟨some 11,.len false (.tmp 10),none⟩,⟨some 12,.bin .lss .no (.tmp 9) (.tmp 11),none⟩]) (.cond (.tmp 12) (.skip) (.exit 0))) (.block 1 (.seq (.region [⟨some 14,.mov (.tmp 0),none⟩,
 ⟨some 15,.mov (.tmp 5),none⟩,⟨some 16,.slc 1 (.tmp 14) (some (.tmp 15)) none none,none⟩,⟨some 17,.call (.fn 77) [(.tmp 16)],none⟩,⟨some 13,.mov (.tmp 17),none⟩,⟨some 18,.ext 0 (.tmp 13),none⟩,⟨some 19,.ext 1 (.tmp 13),none⟩,
 ⟨some 20,.ext 2 (.tmp 13),none⟩,⟨some 6,.mov (.tmp 18),none⟩,⟨some 7,.mov (.tmp 19),none⟩,⟨some 8,.mov (.tmp 20),none⟩]) (.seq (.seq (.region [⟨some 21,.mov (.tmp 8),none⟩,⟨some 22,.bin .neq .no (.tmp 21) (.const (.int .i64 0)),none⟩]) (.cond (.tmp 22) (.seq (.region [⟨some 23,.mov (.tmp 5),none⟩,
 ⟨some 24,.mov (.tmp 8),none⟩,⟨some 25,.build [.int .i64 0,.int .i64 0] [(0,1,(.tmp 23)),(1,1,(.tmp 24))],none⟩,⟨some 2,.mov (.const (.nils)),none⟩,⟨none,.store 2 (.tmp 3) (.tmp 25),none⟩]) (.ret)) (.skip))) (.seq (.region [⟨some 26,.mov (.tmp 4),none⟩,
 ⟨some 27,.mov (.tmp 6),none⟩,⟨some 28,.lit 1 (.int .i32 0) 1 [(0,(.tmp 27))],none⟩,⟨some 29,.app false 1 (.tmp 26) (.tmp 28),none⟩,⟨some 4,.mov (.tmp 29),none⟩]) (.region [⟨some 30,.mov (.tmp 5),none⟩,
 ⟨some 31,.mov (.tmp 7),none⟩,⟨some 32,.bin .add .no (.tmp 30) (.tmp 31),none⟩,⟨some 5,.mov (.tmp 32),none⟩]))))))))) (.seq (.region [⟨some 33,.mov (.tmp 4),none⟩,⟨some 34,.build [.int .i64 0,.int .i64 0] [],none⟩,
 ⟨some 2,.mov (.tmp 33),none⟩,⟨none,.store 2 (.tmp 3) (.tmp 34),none⟩]) (.ret))))) }

def F_sheet_cut : ACFn := { nt := 31,results := [.tmp 4,.tmp 5,.tmp 6],body := (.seq (.region [⟨some 4,.mov (.const (.str [])),none⟩,⟨some 5,.mov (.const (.b8 0)),none⟩,⟨some 6,.mov (.const (.str [])),none⟩]) (.seq (.seq (.region [⟨some 8,.mov (.tmp 0),none⟩,
 ⟨some 9,.len true (.tmp 8),none⟩,⟨some 10,.mov (.const (.int .i64 0)),none⟩]) (.block 0 (.loop (.seq (.region [⟨some 11,.bin .lss .no (.tmp 10) (.tmp 9),none⟩]) (.seq (.cond (.tmp 11) (.skip) (.exit 0)) (.seq (.block 1 (.seq (.region [⟨some 12,.mov (.tmp 10),none⟩,
 ⟨some 7,.mov (.tmp 12),none⟩]) (.seq (.region [⟨some 13,.mov (.tmp 1),none⟩,⟨some 14,.mov (.tmp 0),none⟩,⟨some 15,.mov (.tmp 7),none⟩,⟨some 16,.idxS (.tmp 14) (.tmp 15),none⟩,⟨some 17,.call (.fn 78) [(.tmp 13),(.tmp 16)],none⟩,
 ⟨some 18,.bin .geq .no (.tmp 17) (.const (.int .i64 0)),none⟩]) (.cond (.tmp 18) (.seq (.region [⟨some 19,.mov (.tmp 0),none⟩,⟨some 20,.mov (.tmp 7),none⟩,⟨some 21,.slc 0 (.tmp 19) none (some (.tmp 20)) none,none⟩,
 ⟨some 22,.mov (.tmp 0),none⟩,⟨some 23,.mov (.tmp 7),none⟩,⟨some 24,.idxS (.tmp 22) (.tmp 23),none⟩,⟨some 25,.mov (.tmp 0),none⟩,⟨some 26,.mov (.tmp 7),none⟩,⟨some 27,.bin .add .no (.tmp 26) (.const (.int .i64 1)),none⟩,
 ⟨some 28,.slc 0 (.tmp 25) (some (.tmp 27)) none none,none⟩,⟨some 4,.mov (.tmp 21),none⟩,⟨some 5,.mov (.tmp 24),none⟩,⟨some 6,.mov (.tmp 28),none⟩]) (.ret)) (.skip))))) (.region [⟨some 29,.bin .add .no (.tmp 10) (.const (.int .i64 1)),none⟩,
 ⟨some 10,.mov (.tmp 29),none⟩]))))))) (.seq (.region [⟨some 30,.mov (.tmp 0),none⟩,⟨some 4,.mov (.tmp 30),none⟩,⟨some 5,.mov (.const (.b8 0)),none⟩,⟨some 6,.mov (.const (.str [])),none⟩]) (.ret)))) }

def F_sheet_upper : ACFn := { nt := 29,results := [.tmp 2],body := (.seq (.region [⟨some 2,.mov (.const (.str [])),none⟩]) (.seq (.region [⟨some 6,.mov (.tmp 0),none⟩,⟨some 7,.cS2B true (.tmp 6),none⟩,⟨some 3,.mov (.tmp 7),none⟩]) (.seq (.seq (.region [⟨some 8,.mov (.tmp 3),none⟩,
 ⟨some 9,.len false (.tmp 8),none⟩,⟨some 10,.mov (.const (.int .i64 0)),none⟩]) (.block 0 (.loop (.seq (.region [⟨some 11,.bin .lss .no (.tmp 10) (.tmp 9),none⟩]) (.seq (.cond (.tmp 11) (.skip) (.exit 0)) (.seq (.block 1 (.seq (.region [⟨some 12,.mov (.tmp 10),none⟩,
 ⟨some 13,.iaddr 1 (.tmp 8) (.tmp 10),none⟩,⟨some 14,.load false 1 (.tmp 13),none⟩,⟨some 4,.mov (.tmp 12),none⟩,⟨some 5,.mov (.tmp 14),none⟩]) (.seq (.region [⟨some 15,.mov (.tmp 5),none⟩,⟨some 16,.bin .geq .no (.tmp 15) (.const (.b8 97)),none⟩,
 ⟨some 17,.mov (.tmp 16),none⟩,⟨some 18,.mov (.tmp 5),some (17,true)⟩,⟨some 19,.bin .leq .no (.tmp 18) (.const (.b8 122)),some (17,true)⟩,⟨some 20,.pick (.tmp 17) (.tmp 19) (.const (.bool false)),none⟩]) (.cond (.tmp 20) (.region [⟨some 21,.mov (.tmp 3),none⟩,
 ⟨some 22,.mov (.tmp 4),none⟩,⟨some 23,.mov (.tmp 5),none⟩,⟨some 24,.bin .sub .no (.tmp 23) (.const (.b8 32)),none⟩,⟨some 25,.iaddr 1 (.tmp 21) (.tmp 22),none⟩,⟨none,.store 1 (.tmp 25) (.tmp 24),none⟩]) (.skip))))) (.region [⟨some 26,.bin .add .no (.tmp 10) (.const (.int .i64 1)),none⟩,
 ⟨some 10,.mov (.tmp 26),none⟩]))))))) (.seq (.region [⟨some 27,.mov (.tmp 3),none⟩,⟨some 28,.cB2S true (.tmp 27),none⟩,⟨some 2,.mov (.tmp 28),none⟩]) (.ret))))) }

def F_strings_HasPrefix : ACFn := { nt := 8,results := [.tmp 4],body := (.seq (.region [⟨some 4,.mov (.const (.bool false)),none⟩]) (.seq (.region [⟨some 5,.mov (.tmp 0),none⟩,⟨some 6,.mov (.tmp 1),none⟩,⟨some 7,.call (.fn 79) [(.tmp 5),(.tmp 6)],none⟩,
 ⟨some 4,.mov (.tmp 7),none⟩]) (.ret))) }

def F_posthornref02_Valid : ACFn := { nt := 13,results := [.tmp 2],body := (.seq (.region [⟨some 2,.mov (.const (.bool false)),none⟩]) (.seq (.region [⟨some 6,.mov (.tmp 0),none⟩,⟨some 7,.call (.fn 80) [(.tmp 6)],none⟩,⟨some 5,.mov (.tmp 7),none⟩,
 ⟨some 8,.ext 0 (.tmp 5),none⟩,⟨some 9,.ext 1 (.tmp 5),none⟩,⟨some 4,.alloc [.int .i64 0,.int .i64 0],none⟩,⟨some 3,.mov (.tmp 8),none⟩,⟨none,.store 2 (.tmp 4) (.tmp 9),none⟩]) (.seq (.region [⟨some 10,.faddr 1 (.tmp 4),none⟩,
 ⟨some 11,.load false 1 (.tmp 10),none⟩,⟨some 12,.bin .eql .no (.tmp 11) (.const (.int .i64 0)),none⟩,⟨some 2,.mov (.tmp 12),none⟩]) (.ret)))) }

def F_posthornref02_Next : ACFn := { nt := 83,results := [.tmp 2,.tmp 3,.tmp 4],body := (.seq (.region [⟨some 2,.mov (.const (.int .i32 0)),none⟩,⟨some 3,.mov (.const (.int .i64 0)),none⟩,⟨some 4,.mov (.const (.int .i64 0)),none⟩]) (.seq (.seq (.region [⟨some 10,.mov (.tmp 0),none⟩,
 ⟨some 11,.len false (.tmp 10),none⟩,⟨some 12,.bin .eql .no (.tmp 11) (.const (.int .i64 0)),none⟩]) (.cond (.tmp 12) (.seq (.region [⟨some 2,.mov (.const (.int .i32 0)),none⟩,⟨some 3,.mov (.const (.int .i64 0)),none⟩,
 ⟨some 4,.mov (.const (.int .i64 42)),none⟩]) (.ret)) (.skip))) (.seq (.seq (.region [⟨some 13,.mov (.tmp 0),none⟩,⟨some 14,.iaddr 1 (.tmp 13) (.const (.int .i64 0)),none⟩,⟨some 15,.load false 1 (.tmp 14),none⟩,
 ⟨some 16,.bin .lss .no (.tmp 15) (.const (.b8 128)),none⟩]) (.cond (.tmp 16) (.seq (.region [⟨some 17,.mov (.tmp 0),none⟩,⟨some 18,.iaddr 1 (.tmp 17) (.const (.int .i64 0)),none⟩,⟨some 19,.load false 1 (.tmp 18),none⟩,
 ⟨some 20,.cInt .i32 (.tmp 19),none⟩,⟨some 2,.mov (.tmp 20),none⟩,⟨some 3,.mov (.const (.int .i64 1)),none⟩,⟨some 4,.mov (.const (.int .i64 0)),none⟩]) (.ret)) (.skip))) (.seq (.seq (.region [⟨some 5,.mov (.const (.int .i64 2)),none⟩]) (.block 0 (.loop (.seq (.seq (.region [⟨some 21,.mov (.tmp 5),none⟩,
 ⟨some 22,.bin .leq .no (.tmp 21) (.const (.int .i64 4)),none⟩,⟨some 23,.mov (.tmp 22),none⟩,⟨some 24,.mov (.tmp 5),some (23,true)⟩,⟨some 25,.mov (.tmp 0),some (23,true)⟩,⟨some 26,.len false (.tmp 25),some (23,true)⟩,
 ⟨some 27,.bin .leq .no (.tmp 24) (.tmp 26),some (23,true)⟩,⟨some 28,.pick (.tmp 23) (.tmp 27) (.const (.bool false)),none⟩]) (.cond (.tmp 28) (.skip) (.exit 0))) (.seq (.block 1 (.seq (.region [⟨some 31,.mov (.tmp 0),none⟩,
 ⟨some 32,.iaddr 1 (.tmp 31) (.const (.int .i64 0)),none⟩,⟨some 33,.load false 1 (.tmp 32),none⟩,⟨some 34,.cInt .i32 (.tmp 33),none⟩,⟨some 35,.bin .rem .no (.tmp 34) (.const (.int .i32 32)),none⟩,⟨some 6,.mov (.tmp 35),none⟩]) (.seq (.seq (.region [⟨some 36,.mov (.tmp 5),none⟩,
 ⟨some 37,.bin .eql .no (.tmp 36) (.const (.int .i64 3)),none⟩]) (.cond (.tmp 37) (.region [⟨some 38,.mov (.tmp 0),none⟩,⟨some 39,.iaddr 1 (.tmp 38) (.const (.int .i64 0)),none⟩,⟨some 40,.load false 1 (.tmp 39),none⟩,
 ⟨some 41,.cInt .i32 (.tmp 40),none⟩,⟨some 42,.bin .rem .no (.tmp 41) (.const (.int .i32 16)),none⟩,⟨some 6,.mov (.tmp 42),none⟩]) (.skip))) (.seq (.seq (.region [⟨some 43,.mov (.tmp 5),none⟩,⟨some 44,.bin .eql .no (.tmp 43) (.const (.int .i64 4)),none⟩]) (.cond (.tmp 44) (.region [⟨some 45,.mov (.tmp 0),none⟩,
 ⟨some 46,.iaddr 1 (.tmp 45) (.const (.int .i64 0)),none⟩,⟨some 47,.load false 1 (.tmp 46),none⟩,⟨some 48,.cInt .i32 (.tmp 47),none⟩,⟨some 49,.bin .rem .no (.tmp 48) (.const (.int .i32 8)),none⟩,⟨some 6,.mov (.tmp 49),none⟩]) (.skip))) (.seq (.seq (.region [⟨some 7,.mov (.const (.int .i64 1)),none⟩]) (.block 2 (.loop (.seq (.seq (.region [⟨some 50,.mov (.tmp 7),none⟩,
 ⟨some 51,.mov (.tmp 5),none⟩,⟨some 52,.bin .lss .no (.tmp 50) (.tmp 51),none⟩]) (.cond (.tmp 52) (.skip) (.exit 2))) (.seq (.block 3 (.region [⟨some 55,.mov (.tmp 6),none⟩,⟨some 56,.bin .mul .no (.const (.int .i32 64)) (.tmp 55),none⟩,
 ⟨some 57,.mov (.tmp 0),none⟩,⟨some 58,.mov (.tmp 7),none⟩,⟨some 59,.iaddr 1 (.tmp 57) (.tmp 58),none⟩,⟨some 60,.load false 1 (.tmp 59),none⟩,⟨some 61,.cInt .i32 (.tmp 60),none⟩,⟨some 62,.bin .rem .no (.tmp 61) (.const (.int .i32 64)),none⟩,
 ⟨some 63,.bin .add .no (.tmp 56) (.tmp 62),none⟩,⟨some 6,.mov (.tmp 63),none⟩])) (.region [⟨some 53,.mov (.tmp 7),none⟩,⟨some 54,.bin .add .no (.tmp 53) (.const (.int .i64 1)),none⟩,⟨some 7,.mov (.tmp 54),none⟩])))))) (.seq (.region [⟨some 65,.mov (.tmp 6),none⟩,
 ⟨some 66,.call (.fn 81) [(.tmp 65)],none⟩,⟨some 64,.mov (.tmp 66),none⟩,⟨some 67,.ext 0 (.tmp 64),none⟩,⟨some 68,.ext 1 (.tmp 64),none⟩,⟨some 8,.mov (.tmp 67),none⟩,⟨some 9,.mov (.tmp 68),none⟩]) (.seq (.region [⟨some 69,.mov (.tmp 9),none⟩,
 ⟨some 70,.bin .eql .no (.tmp 69) (.const (.int .i64 0)),none⟩,⟨some 71,.mov (.tmp 70),none⟩,⟨some 72,.mov (.tmp 8),some (71,true)⟩,⟨some 73,.cB2S false (.tmp 72),some (71,true)⟩,⟨some 74,.mov (.tmp 0),some (71,true)⟩,
 ⟨some 75,.mov (.tmp 5),some (71,true)⟩,⟨some 76,.slc 1 (.tmp 74) none (some (.tmp 75)) none,some (71,true)⟩,⟨some 77,.cB2S false (.tmp 76),some (71,true)⟩,⟨some 78,.bin .eql .no (.tmp 73) (.tmp 77),some (71,true)⟩,
 ⟨some 79,.pick (.tmp 71) (.tmp 78) (.const (.bool false)),none⟩]) (.cond (.tmp 79) (.seq (.region [⟨some 80,.mov (.tmp 6),none⟩,⟨some 81,.mov (.tmp 5),none⟩,⟨some 82,.mov (.tmp 9),none⟩,⟨some 2,.mov (.tmp 80),none⟩,
 ⟨some 3,.mov (.tmp 81),none⟩,⟨some 4,.mov (.tmp 82),none⟩]) (.ret)) (.skip))))))))) (.region [⟨some 29,.mov (.tmp 5),none⟩,⟨some 30,.bin .add .no (.tmp 29) (.const (.int .i64 1)),none⟩,⟨some 5,.mov (.tmp 30),none⟩])))))) (.seq (.region [⟨some 2,.mov (.const (.int .i32 0)),none⟩,
 ⟨some 3,.mov (.const (.int .i64 0)),none⟩,⟨some 4,.mov (.const (.int .i64 20)),none⟩]) (.ret)))))) }

def F_strings_Index : ACFn := { nt := 8,results := [.tmp 4],body := (.seq (.region [⟨some 4,.mov (.const (.int .i64 0)),none⟩]) (.seq (.region [⟨some 5,.mov (.tmp 0),none⟩,⟨some 6,.mov (.tmp 1),none⟩,⟨some 7,.call (.fn 82) [(.tmp 5),(.tmp 6)],none⟩,
 ⟨some 4,.mov (.tmp 7),none⟩]) (.ret))) }

def F_utf_Next : ACFn := { nt := 97,results := [.tmp 2,.tmp 3,.tmp 4],body := (.seq (.region [⟨some 2,.mov (.const (.int .i32 0)),none⟩,⟨some 3,.mov (.const (.int .i64 0)),none⟩,⟨some 4,.mov (.const (.int .i64 0)),none⟩]) (.scope (.seq (.region [⟨some 5,.mov (.const (.int .i32 0)),none⟩]) (.seq (.region [⟨some 6,.mov (.const (.int .i64 0)),none⟩]) (.seq (.seq (.region [⟨some 10,.mov (.tmp 0),none⟩,
 ⟨some 11,.len false (.tmp 10),none⟩,⟨some 12,.bin .eql .no (.tmp 11) (.const (.int .i64 0)),none⟩]) (.cond (.tmp 12) (.seq (.region [⟨some 2,.mov (.const (.int .i32 0)),none⟩,⟨some 3,.mov (.const (.int .i64 0)),none⟩,
 ⟨some 4,.mov (.const (.int .i64 42)),none⟩]) (.ret)) (.skip))) (.seq (.seq (.region [⟨some 13,.mov (.tmp 0),none⟩,⟨some 14,.iaddr 1 (.tmp 13) (.const (.int .i64 0)),none⟩,⟨some 15,.load false 1 (.tmp 14),none⟩,
 ⟨some 7,.mov (.tmp 15),none⟩]) (.block 0 (.seq (.region [⟨some 17,.mov (.tmp 7),none⟩,⟨some 18,.bin .lss .no (.tmp 17) (.const (.b8 128)),none⟩,⟨some 16,.mov (.tmp 18),none⟩]) (.cond (.tmp 16) (.seq (.region [⟨some 19,.mov (.tmp 7),none⟩,
 ⟨some 20,.cInt .i32 (.tmp 19),none⟩,⟨some 2,.mov (.tmp 20),none⟩,⟨some 3,.mov (.const (.int .i64 1)),none⟩,⟨some 4,.mov (.const (.int .i64 0)),none⟩]) (.ret)) (.seq (.region [⟨some 22,.mov (.tmp 7),none⟩,
 ⟨some 23,.bin .shr .no (.tmp 22) (.const (.int .u64 5)),none⟩,⟨some 24,.bin .eql .no (.tmp 23) (.const (.b8 6)),none⟩,⟨some 21,.mov (.tmp 24),none⟩]) (.cond (.tmp 21) (.region [⟨some 25,.mov (.tmp 7),none⟩,
 ⟨some 26,.bin .and .no (.tmp 25) (.const (.b8 31)),none⟩,⟨some 27,.cInt .i32 (.tmp 26),none⟩,⟨some 5,.mov (.tmp 27),none⟩,⟨some 6,.mov (.const (.int .i64 2)),none⟩]) (.seq (.region [⟨some 29,.mov (.tmp 7),none⟩,
 ⟨some 30,.bin .shr .no (.tmp 29) (.const (.int .u64 4)),none⟩,⟨some 31,.bin .eql .no (.tmp 30) (.const (.b8 14)),none⟩,⟨some 28,.mov (.tmp 31),none⟩]) (.cond (.tmp 28) (.region [⟨some 32,.mov (.tmp 7),none⟩,
 ⟨some 33,.bin .and .no (.tmp 32) (.const (.b8 15)),none⟩,⟨some 34,.cInt .i32 (.tmp 33),none⟩,⟨some 5,.mov (.tmp 34),none⟩,⟨some 6,.mov (.const (.int .i64 3)),none⟩]) (.seq (.region [⟨some 36,.mov (.tmp 7),none⟩,
 ⟨some 37,.bin .shr .no (.tmp 36) (.const (.int .u64 3)),none⟩,⟨some 38,.bin .eql .no (.tmp 37) (.const (.b8 30)),none⟩,⟨some 35,.mov (.tmp 38),none⟩]) (.cond (.tmp 35) (.region [⟨some 39,.mov (.tmp 7),none⟩,
 ⟨some 40,.bin .and .no (.tmp 39) (.const (.b8 7)),none⟩,⟨some 41,.cInt .i32 (.tmp 40),none⟩,⟨some 5,.mov (.tmp 41),none⟩,⟨some 6,.mov (.const (.int .i64 4)),none⟩]) (.skip))))))))))) (.seq (.seq (.region [⟨some 42,.mov (.tmp 6),none⟩,
 ⟨some 43,.bin .eql .no (.tmp 42) (.const (.int .i64 0)),none⟩,⟨some 44,.mov (.tmp 43),none⟩,⟨some 45,.mov (.tmp 0),some (44,false)⟩,⟨some 46,.len false (.tmp 45),some (44,false)⟩,⟨some 47,.mov (.tmp 6),some (44,false)⟩,
 ⟨some 48,.bin .lss .no (.tmp 46) (.tmp 47),some (44,false)⟩,⟨some 49,.pick (.tmp 44) (.const (.bool true)) (.tmp 48),none⟩]) (.cond (.tmp 49) (.goto 0) (.skip))) (.seq (.seq (.region [⟨some 50,.mov (.tmp 0),none⟩,
 ⟨some 51,.mov (.tmp 6),none⟩,⟨some 52,.slc 1 (.tmp 50) (some (.const (.int .i64 1))) (some (.tmp 51)) none,none⟩,⟨some 53,.len false (.tmp 52),none⟩,⟨some 54,.mov (.const (.int .i64 0)),none⟩]) (.block 1 (.loop (.seq (.region [⟨some 55,.bin .lss .no (.tmp 54) (.tmp 53),none⟩]) (.seq (.cond (.tmp 55) (.skip) (.exit 1)) (.seq (.block 2 (.seq (.region [⟨some 56,.iaddr 1 (.tmp 52) (.tmp 54),none⟩,
 ⟨some 57,.load false 1 (.tmp 56),none⟩,⟨some 9,.mov (.tmp 57),none⟩]) (.seq (.seq (.region [⟨some 58,.mov (.tmp 9),none⟩,⟨some 59,.bin .shr .no (.tmp 58) (.const (.int .u64 6)),none⟩,⟨some 60,.bin .neq .no (.tmp 59) (.const (.b8 2)),none⟩]) (.cond (.tmp 60) (.goto 0) (.skip))) (.region [⟨some 61,.mov (.tmp 5),none⟩,
 ⟨some 62,.bin .shl .no (.tmp 61) (.const (.int .u64 6)),none⟩,⟨some 63,.mov (.tmp 9),none⟩,⟨some 64,.bin .and .no (.tmp 63) (.const (.b8 63)),none⟩,⟨some 65,.cInt .i32 (.tmp 64),none⟩,⟨some 66,.bin .or .no (.tmp 62) (.tmp 65),none⟩,
 ⟨some 5,.mov (.tmp 66),none⟩])))) (.region [⟨some 67,.bin .add .no (.tmp 54) (.const (.int .i64 1)),none⟩,⟨some 54,.mov (.tmp 67),none⟩]))))))) (.seq (.seq (.region [⟨some 68,.mov (.tmp 5),none⟩,⟨some 69,.call (.fn 83) [(.tmp 68)],none⟩,
 ⟨some 70,.un .not (.tmp 69),none⟩,⟨some 71,.mov (.tmp 70),none⟩,⟨some 72,.mov (.tmp 6),some (71,false)⟩,⟨some 73,.bin .eql .no (.tmp 72) (.const (.int .i64 2)),some (71,false)⟩,⟨some 74,.mov (.tmp 73),some (71,false)⟩,
 ⟨some 75,.mov (.tmp 5),some (74,true)⟩,⟨some 76,.bin .lss .no (.tmp 75) (.const (.int .i32 128)),some (74,true)⟩,⟨some 77,.pick (.tmp 74) (.tmp 76) (.const (.bool false)),some (71,false)⟩,⟨some 78,.pick (.tmp 71) (.const (.bool true)) (.tmp 77),none⟩,
 ⟨some 79,.mov (.tmp 78),none⟩,⟨some 80,.mov (.tmp 6),some (79,false)⟩,⟨some 81,.bin .eql .no (.tmp 80) (.const (.int .i64 3)),some (79,false)⟩,⟨some 82,.mov (.tmp 81),some (79,false)⟩,⟨some 83,.mov (.tmp 5),some (82,true)⟩,
 ⟨some 84,.bin .lss .no (.tmp 83) (.const (.int .i32 2048)),some (82,true)⟩,⟨some 85,.pick (.tmp 82) (.tmp 84) (.const (.bool false)),some (79,false)⟩,⟨some 86,.pick (.tmp 79) (.const (.bool true)) (.tmp 85),none⟩,
 ⟨some 87,.mov (.tmp 86),none⟩,⟨some 88,.mov (.tmp 6),some (87,false)⟩,⟨some 89,.bin .eql .no (.tmp 88) (.const (.int .i64 4)),some (87,false)⟩,⟨some 90,.mov (.tmp 89),some (87,false)⟩,⟨some 91,.mov (.tmp 5),some (90,true)⟩,
 ⟨some 92,.bin .lss .no (.tmp 91) (.const (.int .i32 65536)),some (90,true)⟩,⟨some 93,.pick (.tmp 90) (.tmp 92) (.const (.bool false)),some (87,false)⟩,⟨some 94,.pick (.tmp 87) (.const (.bool true)) (.tmp 93),none⟩]) (.cond (.tmp 94) (.goto 0) (.skip))) (.seq (.seq (.region [⟨some 95,.mov (.tmp 5),none⟩,
 ⟨some 96,.mov (.tmp 6),none⟩,⟨some 2,.mov (.tmp 95),none⟩,⟨some 3,.mov (.tmp 96),none⟩,⟨some 4,.mov (.const (.int .i64 0)),none⟩]) (.ret)) (.seq (.label 0) (.seq (.region [⟨some 2,.mov (.const (.int .i32 0)),none⟩,
 ⟨some 3,.mov (.const (.int .i64 0)),none⟩,⟨some 4,.mov (.const (.int .i64 20)),none⟩]) (.ret))))))))))))) }

def F_internal_stringslite_HasPrefix : ACFn := { nt := 18,results := [.tmp 4],body := (.seq (.region [⟨some 4,.mov (.const (.bool false)),none⟩]) (.seq (.region [⟨some 5,.mov (.tmp 0),none⟩,⟨some 6,.len true (.tmp 5),none⟩,⟨some 7,.mov (.tmp 1),none⟩,
 ⟨some 8,.len true (.tmp 7),none⟩,⟨some 9,.bin .geq .no (.tmp 6) (.tmp 8),none⟩,⟨some 10,.mov (.tmp 9),none⟩,⟨some 11,.mov (.tmp 0),some (10,true)⟩,⟨some 12,.mov (.tmp 1),some (10,true)⟩,⟨some 13,.len true (.tmp 12),some (10,true)⟩,
 ⟨some 14,.slc 0 (.tmp 11) none (some (.tmp 13)) none,some (10,true)⟩,⟨some 15,.mov (.tmp 1),some (10,true)⟩,⟨some 16,.bin .eql .no (.tmp 14) (.tmp 15),some (10,true)⟩,⟨some 17,.pick (.tmp 10) (.tmp 16) (.const (.bool false)),none⟩,
 ⟨some 4,.mov (.tmp 17),none⟩]) (.ret))) }

def F_posthornref02_Points : ACFn := { nt := 34,results := [.tmp 2,.cell 3 true 2],body := (.seq (.region [⟨some 2,.mov (.const (.nils)),none⟩,⟨some 3,.alloc [.int .i64 0,.int .i64 0],none⟩]) (.seq (.region [⟨some 4,.mov (.const (.nils)),none⟩]) (.seq (.region [⟨some 5,.mov (.const (.int .i64 0)),none⟩]) (.seq (.block 0 (.loop (.seq (.seq (.region [⟨some 9,.mov (.tmp 5),none⟩,
 ⟨some 10,.mov (.tmp 0),none⟩,⟨some 11,.len false (.tmp 10),none⟩,⟨some 12,.bin .lss .no (.tmp 9) (.tmp 11),none⟩]) (.cond (.tmp 12) (.skip) (.exit 0))) (.block 1 (.seq (.region [⟨some 14,.mov (.tmp 0),none⟩,
 ⟨some 15,.mov (.tmp 5),none⟩,⟨some 16,.slc 1 (.tmp 14) (some (.tmp 15)) none none,none⟩,⟨some 17,.call (.fn 75) [(.tmp 16)],none⟩,⟨some 13,.mov (.tmp 17),none⟩,⟨some 18,.ext 0 (.tmp 13),none⟩,⟨some 19,.ext 1 (.tmp 13),none⟩,
 ⟨some 20,.ext 2 (.tmp 13),none⟩,⟨some 6,.mov (.tmp 18),none⟩,⟨some 7,.mov (.tmp 19),none⟩,⟨some 8,.mov (.tmp 20),none⟩]) (.seq (.seq (.region [⟨some 21,.mov (.tmp 8),none⟩,⟨some 22,.bin .neq .no (.tmp 21) (.const (.int .i64 0)),none⟩]) (.cond (.tmp 22) (.seq (.region [⟨some 23,.mov (.tmp 5),none⟩,
 ⟨some 24,.build [.int .i64 0,.int .i64 0] [(0,1,(.tmp 23)),(1,1,(.const (.int .i64 20)))],none⟩,⟨some 2,.mov (.const (.nils)),none⟩,⟨none,.store 2 (.tmp 3) (.tmp 24),none⟩]) (.ret)) (.skip))) (.seq (.region [⟨some 25,.mov (.tmp 4),none⟩,
 ⟨some 26,.mov (.tmp 6),none⟩,⟨some 27,.lit 1 (.int .i32 0) 1 [(0,(.tmp 26))],none⟩,⟨some 28,.app false 1 (.tmp 25) (.tmp 27),none⟩,⟨some 4,.mov (.tmp 28),none⟩]) (.region [⟨some 29,.mov (.tmp 5),none⟩,
 ⟨some 30,.mov (.tmp 7),none⟩,⟨some 31,.bin .add .no (.tmp 29) (.tmp 30),none⟩,⟨some 5,.mov (.tmp 31),none⟩])))))))) (.seq (.region [⟨some 32,.mov (.tmp 4),none⟩,⟨some 33,.build [.int .i64 0,.int .i64 0] [],none⟩,
 ⟨some 2,.mov (.tmp 32),none⟩,⟨none,.store 2 (.tmp 3) (.tmp 33),none⟩]) (.ret)))))) }

def F_posthornref02_Put : ACFn := { nt := 67,results := [.tmp 2,.tmp 3],body := (.seq (.region [⟨some 2,.mov (.const (.nils)),none⟩,⟨some 3,.mov (.const (.int .i64 0)),none⟩]) (.seq (.seq (.region [⟨some 5,.mov (.tmp 0),none⟩,⟨some 6,.call (.fn 85) [(.tmp 5)],none⟩,
 ⟨some 7,.un .not (.tmp 6),none⟩]) (.cond (.tmp 7) (.seq (.region [⟨some 2,.mov (.const (.nils)),none⟩,⟨some 3,.mov (.const (.int .i64 20)),none⟩]) (.ret)) (.skip))) (.seq (.region [⟨some 4,.mov (.const (.nils)),none⟩]) (.seq (.seq (.region [⟨some 8,.mov (.tmp 0),none⟩,
 ⟨some 9,.bin .lss .no (.tmp 8) (.const (.int .i32 128)),none⟩]) (.cond (.tmp 9) (.seq (.region [⟨some 10,.mov (.tmp 4),none⟩,⟨some 11,.mov (.tmp 0),none⟩,⟨some 12,.cInt .u8 (.tmp 11),none⟩,⟨some 13,.lit8 1 [(0,(.tmp 12))],none⟩,
 ⟨some 14,.app true 1 (.tmp 10) (.tmp 13),none⟩,⟨some 2,.mov (.tmp 14),none⟩,⟨some 3,.mov (.const (.int .i64 0)),none⟩]) (.ret)) (.skip))) (.seq (.seq (.region [⟨some 15,.mov (.tmp 0),none⟩,⟨some 16,.bin .lss .no (.tmp 15) (.const (.int .i32 2048)),none⟩]) (.cond (.tmp 16) (.seq (.region [⟨some 17,.mov (.tmp 4),none⟩,
 ⟨some 18,.mov (.tmp 0),none⟩,⟨some 19,.bin .quo .no (.tmp 18) (.const (.int .i32 64)),none⟩,⟨some 20,.bin .add .no (.const (.int .i32 192)) (.tmp 19),none⟩,⟨some 21,.cInt .u8 (.tmp 20),none⟩,⟨some 22,.mov (.tmp 0),none⟩,
 ⟨some 23,.bin .rem .no (.tmp 22) (.const (.int .i32 64)),none⟩,⟨some 24,.bin .add .no (.const (.int .i32 128)) (.tmp 23),none⟩,⟨some 25,.cInt .u8 (.tmp 24),none⟩,⟨some 26,.lit8 2 [(0,(.tmp 21)),(1,(.tmp 25))],none⟩,
 ⟨some 27,.app true 1 (.tmp 17) (.tmp 26),none⟩,⟨some 2,.mov (.tmp 27),none⟩,⟨some 3,.mov (.const (.int .i64 0)),none⟩]) (.ret)) (.skip))) (.seq (.seq (.region [⟨some 28,.mov (.tmp 0),none⟩,⟨some 29,.bin .lss .no (.tmp 28) (.const (.int .i32 65536)),none⟩]) (.cond (.tmp 29) (.seq (.region [⟨some 30,.mov (.tmp 4),none⟩,
 ⟨some 31,.mov (.tmp 0),none⟩,⟨some 32,.bin .quo .no (.tmp 31) (.const (.int .i32 4096)),none⟩,⟨some 33,.bin .add .no (.const (.int .i32 224)) (.tmp 32),none⟩,⟨some 34,.cInt .u8 (.tmp 33),none⟩,⟨some 35,.mov (.tmp 0),none⟩,
 ⟨some 36,.bin .quo .no (.tmp 35) (.const (.int .i32 64)),none⟩,⟨some 37,.bin .rem .no (.tmp 36) (.const (.int .i32 64)),none⟩,⟨some 38,.bin .add .no (.const (.int .i32 128)) (.tmp 37),none⟩,⟨some 39,.cInt .u8 (.tmp 38),none⟩,
 ⟨some 40,.mov (.tmp 0),none⟩,⟨some 41,.bin .rem .no (.tmp 40) (.const (.int .i32 64)),none⟩,⟨some 42,.bin .add .no (.const (.int .i32 128)) (.tmp 41),none⟩,⟨some 43,.cInt .u8 (.tmp 42),none⟩,⟨some 44,.lit8 3 [(0,(.tmp 34)),(1,(.tmp 39)),(2,(.tmp 43))],none⟩,
 ⟨some 45,.app true 1 (.tmp 30) (.tmp 44),none⟩,⟨some 2,.mov (.tmp 45),none⟩,⟨some 3,.mov (.const (.int .i64 0)),none⟩]) (.ret)) (.skip))) (.seq (.region [⟨some 46,.mov (.tmp 4),none⟩,⟨some 47,.mov (.tmp 0),none⟩,
 ⟨some 48,.bin .quo .no (.tmp 47) (.const (.int .i32 262144)),none⟩,⟨some 49,.bin .add .no (.const (.int .i32 240)) (.tmp 48),none⟩,⟨some 50,.cInt .u8 (.tmp 49),none⟩,⟨some 51,.mov (.tmp 0),none⟩,⟨some 52,.bin .quo .no (.tmp 51) (.const (.int .i32 4096)),none⟩,
 ⟨some 53,.bin .rem .no (.tmp 52) (.const (.int .i32 64)),none⟩,⟨some 54,.bin .add .no (.const (.int .i32 128)) (.tmp 53),none⟩,⟨some 55,.cInt .u8 (.tmp 54),none⟩,⟨some 56,.mov (.tmp 0),none⟩,⟨some 57,.bin .quo .no (.tmp 56) (.const (.int .i32 64)),none⟩,
 ⟨some 58,.bin .rem .no (.tmp 57) (.const (.int .i32 64)),none⟩,⟨some 59,.bin .add .no (.const (.int .i32 128)) (.tmp 58),none⟩,⟨some 60,.cInt .u8 (.tmp 59),none⟩,⟨some 61,.mov (.tmp 0),none⟩,⟨some 62,.bin .rem .no (.tmp 61) (.const (.int .i32 64)),none⟩,
 ⟨some 63,.bin .add .no (.const (.int .i32 128)) (.tmp 62),none⟩,⟨some 64,.cInt .u8 (.tmp 63),none⟩,⟨some 65,.lit8 4 [(0,(.tmp 50)),(1,(.tmp 55)),(2,(.tmp 60)),(3,(.tmp 64))],none⟩,⟨some 66,.app true 1 (.tmp 46) (.tmp 65),none⟩,
 ⟨some 2,.mov (.tmp 66),none⟩,⟨some 3,.mov (.const (.int .i64 0)),none⟩]) (.ret)))))))) }

def F_utf_isPoint : ACFn := { nt := 17,results := [.tmp 2],body := (.seq (.region [⟨some 2,.mov (.const (.bool false)),none⟩]) (.seq (.region [⟨some 3,.mov (.tmp 0),none⟩,⟨some 4,.bin .geq .no (.tmp 3) (.const (.int .i32 0)),none⟩,
 ⟨some 5,.mov (.tmp 4),none⟩,⟨some 6,.mov (.tmp 0),some (5,true)⟩,⟨some 7,.bin .leq .no (.tmp 6) (.const (.int .i32 1114111)),some (5,true)⟩,⟨some 8,.pick (.tmp 5) (.tmp 7) (.const (.bool false)),none⟩,
 ⟨some 9,.mov (.tmp 8),none⟩,⟨some 10,.mov (.tmp 0),some (9,true)⟩,⟨some 11,.bin .lss .no (.tmp 10) (.const (.int .i32 55296)),some (9,true)⟩,⟨some 12,.mov (.tmp 11),some (9,true)⟩,⟨some 13,.mov (.tmp 0),some (12,false)⟩,
 ⟨some 14,.bin .gtr .no (.tmp 13) (.const (.int .i32 57343)),some (12,false)⟩,⟨some 15,.pick (.tmp 12) (.const (.bool true)) (.tmp 14),some (9,true)⟩,⟨some 16,.pick (.tmp 9) (.tmp 15) (.const (.bool false)),none⟩,
 ⟨some 2,.mov (.tmp 16),none⟩]) (.ret))) }

def F_posthornref02_Point : ACFn := { nt := 17,results := [.tmp 2],body := (.seq (.region [⟨some 2,.mov (.const (.bool false)),none⟩]) (.seq (.region [⟨some 3,.mov (.tmp 0),none⟩,⟨some 4,.bin .geq .no (.tmp 3) (.const (.int .i32 0)),none⟩,
 ⟨some 5,.mov (.tmp 4),none⟩,⟨some 6,.mov (.tmp 0),some (5,true)⟩,⟨some 7,.bin .lss .no (.tmp 6) (.const (.int .i32 55296)),some (5,true)⟩,⟨some 8,.pick (.tmp 5) (.tmp 7) (.const (.bool false)),none⟩,⟨some 9,.mov (.tmp 8),none⟩,
 ⟨some 10,.mov (.tmp 0),some (9,false)⟩,⟨some 11,.bin .gtr .no (.tmp 10) (.const (.int .i32 57343)),some (9,false)⟩,⟨some 12,.mov (.tmp 11),some (9,false)⟩,⟨some 13,.mov (.tmp 0),some (12,true)⟩,⟨some 14,.bin .leq .no (.tmp 13) (.const (.int .i32 1114111)),some (12,true)⟩,
 ⟨some 15,.pick (.tmp 12) (.tmp 14) (.const (.bool false)),some (9,false)⟩,⟨some 16,.pick (.tmp 9) (.const (.bool true)) (.tmp 15),none⟩,⟨some 2,.mov (.tmp 16),none⟩]) (.ret))) }

end Go.Ab
/-
  The abstract code of functions, printed by program (abgen.py, abput2.py).
-/
namespace Go.Ab

def F_sheet_Read : ACFn := { nt := 62,results := [.cell 2 false 1,.cell 3 true 2],body := (.seq (.region [⟨some 2,.alloc [.nils],none⟩,⟨some 3,.alloc [.int .i64 0,.int .i64 0],none⟩]) (.seq (.seq (.region [⟨some 11,.mov (.tmp 0),none⟩,
 ⟨some 12,.len false (.tmp 11),none⟩,⟨some 13,.bin .gtr .no (.tmp 12) (.const (.int .i64 1048576)),none⟩]) (.cond (.tmp 13) (.seq (.region [⟨some 14,.build [.int .i64 0,.int .i64 0] [(1,1,(.const (.int .i64 2)))],none⟩,
 ⟨none,.storek 1 (.tmp 2) (.const (.nils)),none⟩,⟨none,.store 2 (.tmp 3) (.tmp 14),none⟩]) (.ret)) (.skip))) (.seq (.region [⟨some 15,.mov (.tmp 0),none⟩,⟨some 16,.call (.fn 96) [(.tmp 15)],none⟩,⟨some 0,.mov (.tmp 16),none⟩]) (.seq (.seq (.region [⟨some 18,.mov (.tmp 0),none⟩,
 ⟨some 19,.call (.fn 69) [(.tmp 18)],none⟩,⟨some 17,.mov (.tmp 19),none⟩,⟨some 20,.ext 0 (.tmp 17),none⟩,⟨some 21,.ext 1 (.tmp 17),none⟩,⟨some 5,.alloc [.int .i64 0,.int .i64 0],none⟩,⟨some 4,.mov (.tmp 20),none⟩,
 ⟨none,.store 2 (.tmp 5) (.tmp 21),none⟩]) (.seq (.region [⟨some 22,.faddr 1 (.tmp 5),none⟩,⟨some 23,.load false 1 (.tmp 22),none⟩,⟨some 24,.bin .neq .no (.tmp 23) (.const (.int .i64 0)),none⟩]) (.cond (.tmp 24) (.seq (.region [⟨some 25,.load true 2 (.tmp 5),none⟩,
 ⟨none,.storek 1 (.tmp 2) (.const (.nils)),none⟩,⟨none,.store 2 (.tmp 3) (.tmp 25),none⟩]) (.ret)) (.skip)))) (.seq (.region [⟨some 6,.alloc [.nils],none⟩]) (.seq (.seq (.region [⟨some 26,.mov (.tmp 0),none⟩,
 ⟨some 27,.call (.fn 97) [(.tmp 26)],none⟩]) (.block 0 (.rangeFunc (.tmp 27) [28,29] (.seq (.region [⟨some 7,.mov (.tmp 28),none⟩]) (.region [⟨some 8,.mov (.tmp 29),none⟩])) (.block 1 (.seq (.seq (.region [⟨some 30,.mov (.tmp 8),none⟩,
 ⟨some 31,.bin .eql .slice (.tmp 30) (.const (.nils)),none⟩]) (.cond (.tmp 31) (.seq (.region [⟨some 32,.mov (.tmp 7),none⟩,⟨some 33,.build [.int .i64 0,.int .i64 0] [(0,1,(.tmp 32)),(1,1,(.const (.int .i64 90)))],none⟩,
 ⟨none,.storek 1 (.tmp 2) (.const (.nils)),none⟩,⟨none,.store 2 (.tmp 3) (.tmp 33),none⟩]) (.ret)) (.skip))) (.seq (.region [⟨some 35,.mov (.tmp 8),none⟩,⟨some 36,.mov (.tmp 8),none⟩,⟨some 37,.len false (.tmp 36),none⟩,
 ⟨some 38,.bin .sub .no (.tmp 37) (.const (.int .i64 2)),none⟩,⟨some 39,.slc 1 (.tmp 35) none (some (.tmp 38)) none,none⟩,⟨some 40,.cB2S false (.tmp 39),none⟩,⟨some 41,.call (.fn 55) [(.tmp 40)],none⟩,⟨some 34,.mov (.tmp 41),none⟩,
 ⟨some 42,.ext 0 (.tmp 34),none⟩,⟨some 43,.ext 1 (.tmp 34),none⟩,⟨some 9,.alloc [.str [],.nils,.str []],none⟩,⟨none,.store 3 (.tmp 9) (.tmp 42),none⟩,⟨some 10,.mov (.tmp 43),none⟩]) (.seq (.seq (.region [⟨some 44,.mov (.tmp 10),none⟩,
 ⟨some 45,.bin .eql .no (.tmp 44) (.const (.int .i64 0)),none⟩,⟨some 46,.mov (.tmp 45),none⟩,⟨some 47,.load false 1 (.tmp 6),some (46,true)⟩,⟨some 48,.len false (.tmp 47),some (46,true)⟩,⟨some 49,.bin .geq .no (.tmp 48) (.const (.int .i64 4096)),some (46,true)⟩,
 ⟨some 50,.pick (.tmp 46) (.tmp 49) (.const (.bool false)),none⟩]) (.cond (.tmp 50) (.region [⟨some 10,.mov (.const (.int .i64 2)),none⟩]) (.skip))) (.seq (.seq (.region [⟨some 51,.mov (.tmp 10),none⟩,⟨some 52,.bin .neq .no (.tmp 51) (.const (.int .i64 0)),none⟩]) (.cond (.tmp 52) (.seq (.region [⟨some 53,.mov (.tmp 7),none⟩,
 ⟨some 54,.mov (.tmp 10),none⟩,⟨some 55,.build [.int .i64 0,.int .i64 0] [(0,1,(.tmp 53)),(1,1,(.tmp 54))],none⟩,⟨none,.storek 1 (.tmp 2) (.const (.nils)),none⟩,⟨none,.store 2 (.tmp 3) (.tmp 55),none⟩]) (.ret)) (.skip))) (.region [⟨some 56,.load false 1 (.tmp 6),none⟩,
 ⟨some 57,.load true 3 (.tmp 9),none⟩,⟨some 58,.lit 3 (.agg [.str [],.nils,.str []]) 1 [(0,(.tmp 57))],none⟩,⟨some 59,.app false 3 (.tmp 56) (.tmp 58),none⟩,⟨none,.store 1 (.tmp 6) (.tmp 59),none⟩]))))))))) (.seq (.region [⟨some 60,.load false 1 (.tmp 6),none⟩,
 ⟨some 61,.build [.int .i64 0,.int .i64 0] [],none⟩,⟨none,.store 1 (.tmp 2) (.tmp 60),none⟩,⟨none,.store 2 (.tmp 3) (.tmp 61),none⟩]) (.ret)))))))) }

def F_sheet_unfold : ACFn := { nt := 13,results := [.tmp 2],body := (.seq (.region [⟨some 2,.mov (.const (.nils)),none⟩]) (.seq (.region [⟨some 3,.mov (.tmp 0),none⟩,⟨some 4,.lit8 3 [(0,(.const (.b8 13))),(1,(.const (.b8 10))),(2,(.const (.b8 9)))],none⟩,
 ⟨some 5,.cSame (.tmp 4),none⟩,⟨some 6,.lit8 3 [(0,(.const (.b8 13))),(1,(.const (.b8 10))),(2,(.const (.b8 32)))],none⟩,⟨some 7,.cSame (.tmp 6),none⟩,⟨some 8,.call (.fn 101) [(.tmp 3),(.tmp 5),(.tmp 7)],none⟩,
 ⟨some 0,.mov (.tmp 8),none⟩]) (.seq (.region [⟨some 9,.mov (.tmp 0),none⟩,⟨some 10,.lit8 3 [(0,(.const (.b8 13))),(1,(.const (.b8 10))),(2,(.const (.b8 32)))],none⟩,⟨some 11,.cSame (.tmp 10),none⟩,⟨some 12,.call (.fn 101) [(.tmp 9),(.tmp 11),(.const (.nils))],none⟩,
 ⟨some 2,.mov (.tmp 12),none⟩]) (.ret)))) }

def F_sheet_lines : ACFn := { nt := 4,results := [.tmp 2],body := (.seq (.region [⟨some 1,.box (.tmp 0),none⟩,⟨some 2,.mov (.const (.nilf)),none⟩]) (.seq (.region [⟨some 3,.mkfn 102 [(.tmp 1)],none⟩,⟨some 2,.mov (.tmp 3),none⟩]) (.ret))) }

def F_bytes_ReplaceAll : ACFn := { nt := 11,results := [.tmp 6],body := (.seq (.region [⟨some 6,.mov (.const (.nils)),none⟩]) (.seq (.region [⟨some 7,.mov (.tmp 0),none⟩,⟨some 8,.mov (.tmp 1),none⟩,⟨some 9,.mov (.tmp 2),none⟩,⟨some 10,.call (.fn 103) [(.tmp 7),(.tmp 8),(.tmp 9),(.const (.int .i64 (-1)))],none⟩,
 ⟨some 6,.mov (.tmp 10),none⟩]) (.ret))) }

def F_sheet_lines_c1 : ACFn := { nt := 35,results := [],body := (.seq (.region [⟨some 3,.mov (.const (.int .i64 0)),none⟩]) (.block 0 (.loop (.seq (.seq (.region [⟨some 5,.mov (.tmp 3),none⟩,⟨some 6,.load false 1 (.tmp 1),none⟩,⟨some 7,.len false (.tmp 6),none⟩,
 ⟨some 8,.bin .lss .no (.tmp 5) (.tmp 7),none⟩]) (.cond (.tmp 8) (.skip) (.exit 0))) (.block 1 (.seq (.region [⟨some 9,.load false 1 (.tmp 1),none⟩,⟨some 10,.mov (.tmp 3),none⟩,⟨some 11,.slc 1 (.tmp 9) (some (.tmp 10)) none none,none⟩,
 ⟨some 12,.lit8 2 [(0,(.const (.b8 13))),(1,(.const (.b8 10)))],none⟩,⟨some 13,.cSame (.tmp 12),none⟩,⟨some 14,.call (.fn 32) [(.tmp 11),(.tmp 13)],none⟩,⟨some 4,.mov (.tmp 14),none⟩]) (.seq (.seq (.region [⟨some 15,.mov (.tmp 4),none⟩,
 ⟨some 16,.bin .lss .no (.tmp 15) (.const (.int .i64 0)),none⟩]) (.cond (.tmp 16) (.seq (.region [⟨some 17,.mov (.tmp 0),none⟩,⟨some 18,.mov (.tmp 3),none⟩,⟨some 19,.call (.tmp 17) [(.tmp 18),(.const (.nils))],none⟩]) (.ret)) (.skip))) (.seq (.seq (.region [⟨some 20,.mov (.tmp 0),none⟩,
 ⟨some 21,.mov (.tmp 3),none⟩,⟨some 22,.load false 1 (.tmp 1),none⟩,⟨some 23,.mov (.tmp 3),none⟩,⟨some 24,.mov (.tmp 3),none⟩,⟨some 25,.mov (.tmp 4),none⟩,⟨some 26,.bin .add .no (.tmp 24) (.tmp 25),none⟩,
 ⟨some 27,.bin .add .no (.tmp 26) (.const (.int .i64 2)),none⟩,⟨some 28,.slc 1 (.tmp 22) (some (.tmp 23)) (some (.tmp 27)) none,none⟩,⟨some 29,.call (.tmp 20) [(.tmp 21),(.tmp 28)],none⟩,⟨some 30,.un .not (.tmp 29),none⟩]) (.cond (.tmp 30) (.ret) (.skip))) (.region [⟨some 31,.mov (.tmp 3),none⟩,
 ⟨some 32,.mov (.tmp 4),none⟩,⟨some 33,.bin .add .no (.tmp 32) (.const (.int .i64 2)),none⟩,⟨some 34,.bin .add .no (.tmp 31) (.tmp 33),none⟩,⟨some 3,.mov (.tmp 34),none⟩]))))))))) }

def F_bytes_Replace : ACFn := { nt := 132,results := [.tmp 8],body := (.seq (.region [⟨some 8,.mov (.const (.nils)),none⟩]) (.seq (.region [⟨some 9,.mov (.const (.int .i64 0)),none⟩]) (.seq (.seq (.region [⟨some 17,.mov (.tmp 3),none⟩,
 ⟨some 18,.bin .neq .no (.tmp 17) (.const (.int .i64 0)),none⟩]) (.cond (.tmp 18) (.region [⟨some 19,.mov (.tmp 0),none⟩,⟨some 20,.mov (.tmp 1),none⟩,⟨some 21,.call (.fn 104) [(.tmp 19),(.tmp 20)],none⟩,
 ⟨some 9,.mov (.tmp 21),none⟩]) (.skip))) (.seq (.seq (.region [⟨some 22,.mov (.tmp 9),none⟩,⟨some 23,.bin .eql .no (.tmp 22) (.const (.int .i64 0)),none⟩]) (.cond (.tmp 23) (.seq (.region [⟨some 24,.mov (.tmp 0),none⟩,
 ⟨some 25,.app true 1 (.const (.nils)) (.tmp 24),none⟩,⟨some 8,.mov (.tmp 25),none⟩]) (.ret)) (.skip))) (.seq (.seq (.region [⟨some 26,.mov (.tmp 3),none⟩,⟨some 27,.bin .lss .no (.tmp 26) (.const (.int .i64 0)),none⟩,
 ⟨some 28,.mov (.tmp 27),none⟩,⟨some 29,.mov (.tmp 9),some (28,false)⟩,⟨some 30,.mov (.tmp 3),some (28,false)⟩,⟨some 31,.bin .lss .no (.tmp 29) (.tmp 30),some (28,false)⟩,⟨some 32,.pick (.tmp 28) (.const (.bool true)) (.tmp 31),none⟩]) (.cond (.tmp 32) (.region [⟨some 33,.mov (.tmp 9),none⟩,
 ⟨some 3,.mov (.tmp 33),none⟩]) (.skip))) (.seq (.region [⟨some 34,.mov (.tmp 0),none⟩,⟨some 35,.len false (.tmp 34),none⟩,⟨some 36,.mov (.tmp 3),none⟩,⟨some 37,.mov (.tmp 2),none⟩,⟨some 38,.len false (.tmp 37),none⟩,
 ⟨some 39,.mov (.tmp 1),none⟩,⟨some 40,.len false (.tmp 39),none⟩,⟨some 41,.bin .sub .no (.tmp 38) (.tmp 40),none⟩,⟨some 42,.bin .mul .no (.tmp 36) (.tmp 41),none⟩,⟨some 43,.bin .add .no (.tmp 35) (.tmp 42),none⟩,
 ⟨some 44,.mk8 true (.tmp 43) (.tmp 43),none⟩,⟨some 10,.mov (.tmp 44),none⟩]) (.seq (.region [⟨some 11,.mov (.const (.int .i64 0)),none⟩]) (.seq (.region [⟨some 12,.mov (.const (.int .i64 0)),none⟩]) (.seq (.seq (.region [⟨some 45,.mov (.tmp 1),none⟩,
 ⟨some 46,.len false (.tmp 45),none⟩,⟨some 47,.bin .gtr .no (.tmp 46) (.const (.int .i64 0)),none⟩]) (.cond (.tmp 47) (.seq (.region [⟨some 48,.mov (.tmp 3),none⟩,⟨some 49,.mov (.const (.int .i64 0)),none⟩]) (.block 0 (.loop (.seq (.region [⟨some 50,.bin .lss .no (.tmp 49) (.tmp 48),none⟩]) (.seq (.cond (.tmp 50) (.skip) (.exit 0)) (.seq (.block 1 (.seq (.region [⟨some 51,.mov (.tmp 12),none⟩,
 ⟨some 52,.mov (.tmp 0),none⟩,⟨some 53,.mov (.tmp 12),none⟩,⟨some 54,.slc 1 (.tmp 52) (some (.tmp 53)) none none,none⟩,⟨some 55,.mov (.tmp 1),none⟩,⟨some 56,.call (.fn 32) [(.tmp 54),(.tmp 55)],none⟩,⟨some 57,.bin .add .no (.tmp 51) (.tmp 56),none⟩,
 ⟨some 13,.mov (.tmp 57),none⟩]) (.seq (.region [⟨some 58,.mov (.tmp 11),none⟩,⟨some 59,.mov (.tmp 10),none⟩,⟨some 60,.mov (.tmp 11),none⟩,⟨some 61,.slc 1 (.tmp 59) (some (.tmp 60)) none none,none⟩,⟨some 62,.mov (.tmp 0),none⟩,
 ⟨some 63,.mov (.tmp 12),none⟩,⟨some 64,.mov (.tmp 13),none⟩,⟨some 65,.slc 1 (.tmp 62) (some (.tmp 63)) (some (.tmp 64)) none,none⟩,⟨some 66,.copy (.tmp 61) (.tmp 65),none⟩,⟨some 67,.bin .add .no (.tmp 58) (.tmp 66),none⟩,
 ⟨some 11,.mov (.tmp 67),none⟩]) (.seq (.region [⟨some 68,.mov (.tmp 11),none⟩,⟨some 69,.mov (.tmp 10),none⟩,⟨some 70,.mov (.tmp 11),none⟩,⟨some 71,.slc 1 (.tmp 69) (some (.tmp 70)) none none,none⟩,⟨some 72,.mov (.tmp 2),none⟩,
 ⟨some 73,.copy (.tmp 71) (.tmp 72),none⟩,⟨some 74,.bin .add .no (.tmp 68) (.tmp 73),none⟩,⟨some 11,.mov (.tmp 74),none⟩]) (.region [⟨some 75,.mov (.tmp 13),none⟩,⟨some 76,.mov (.tmp 1),none⟩,⟨some 77,.len false (.tmp 76),none⟩,
 ⟨some 78,.bin .add .no (.tmp 75) (.tmp 77),none⟩,⟨some 12,.mov (.tmp 78),none⟩]))))) (.region [⟨some 79,.bin .add .no (.tmp 49) (.const (.int .i64 1)),none⟩,⟨some 49,.mov (.tmp 79),none⟩]))))))) (.seq (.region [⟨some 80,.mov (.tmp 11),none⟩,
 ⟨some 81,.mov (.tmp 10),none⟩,⟨some 82,.mov (.tmp 11),none⟩,⟨some 83,.slc 1 (.tmp 81) (some (.tmp 82)) none none,none⟩,⟨some 84,.mov (.tmp 2),none⟩,⟨some 85,.copy (.tmp 83) (.tmp 84),none⟩,⟨some 86,.bin .add .no (.tmp 80) (.tmp 85),none⟩,
 ⟨some 11,.mov (.tmp 86),none⟩]) (.seq (.region [⟨some 87,.mov (.tmp 3),none⟩,⟨some 88,.bin .sub .no (.tmp 87) (.const (.int .i64 1)),none⟩,⟨some 89,.mov (.const (.int .i64 0)),none⟩]) (.block 2 (.loop (.seq (.region [⟨some 90,.bin .lss .no (.tmp 89) (.tmp 88),none⟩]) (.seq (.cond (.tmp 90) (.skip) (.exit 2)) (.seq (.block 3 (.seq (.region [⟨some 92,.mov (.tmp 0),none⟩,
 ⟨some 93,.mov (.tmp 12),none⟩,⟨some 94,.slc 1 (.tmp 92) (some (.tmp 93)) none none,none⟩,⟨some 95,.call (.fn 108) [(.tmp 94)],none⟩,⟨some 91,.mov (.tmp 95),none⟩,⟨some 96,.ext 0 (.tmp 91),none⟩,⟨some 97,.ext 1 (.tmp 91),none⟩,
 ⟨some 14,.mov (.tmp 96),none⟩,⟨some 15,.mov (.tmp 97),none⟩]) (.seq (.region [⟨some 98,.mov (.tmp 12),none⟩,⟨some 99,.mov (.tmp 15),none⟩,⟨some 100,.bin .add .no (.tmp 98) (.tmp 99),none⟩,⟨some 16,.mov (.tmp 100),none⟩]) (.seq (.region [⟨some 101,.mov (.tmp 11),none⟩,
 ⟨some 102,.mov (.tmp 10),none⟩,⟨some 103,.mov (.tmp 11),none⟩,⟨some 104,.slc 1 (.tmp 102) (some (.tmp 103)) none none,none⟩,⟨some 105,.mov (.tmp 0),none⟩,⟨some 106,.mov (.tmp 12),none⟩,⟨some 107,.mov (.tmp 16),none⟩,
 ⟨some 108,.slc 1 (.tmp 105) (some (.tmp 106)) (some (.tmp 107)) none,none⟩,⟨some 109,.copy (.tmp 104) (.tmp 108),none⟩,⟨some 110,.bin .add .no (.tmp 101) (.tmp 109),none⟩,⟨some 11,.mov (.tmp 110),none⟩]) (.seq (.region [⟨some 111,.mov (.tmp 11),none⟩,
 ⟨some 112,.mov (.tmp 10),none⟩,⟨some 113,.mov (.tmp 11),none⟩,⟨some 114,.slc 1 (.tmp 112) (some (.tmp 113)) none none,none⟩,⟨some 115,.mov (.tmp 2),none⟩,⟨some 116,.copy (.tmp 114) (.tmp 115),none⟩,⟨some 117,.bin .add .no (.tmp 111) (.tmp 116),none⟩,
 ⟨some 11,.mov (.tmp 117),none⟩]) (.region [⟨some 118,.mov (.tmp 16),none⟩,⟨some 12,.mov (.tmp 118),none⟩])))))) (.region [⟨some 119,.bin .add .no (.tmp 89) (.const (.int .i64 1)),none⟩,⟨some 89,.mov (.tmp 119),none⟩])))))))))) (.seq (.region [⟨some 120,.mov (.tmp 11),none⟩,
 ⟨some 121,.mov (.tmp 10),none⟩,⟨some 122,.mov (.tmp 11),none⟩,⟨some 123,.slc 1 (.tmp 121) (some (.tmp 122)) none none,none⟩,⟨some 124,.mov (.tmp 0),none⟩,⟨some 125,.mov (.tmp 12),none⟩,⟨some 126,.slc 1 (.tmp 124) (some (.tmp 125)) none none,none⟩,
 ⟨some 127,.copy (.tmp 123) (.tmp 126),none⟩,⟨some 128,.bin .add .no (.tmp 120) (.tmp 127),none⟩,⟨some 11,.mov (.tmp 128),none⟩]) (.seq (.region [⟨some 129,.mov (.tmp 10),none⟩,⟨some 130,.mov (.tmp 11),none⟩,
 ⟨some 131,.slc 1 (.tmp 129) (some (.const (.int .i64 0))) (some (.tmp 130)) none,none⟩,⟨some 8,.mov (.tmp 131),none⟩]) (.ret)))))))))))) }

def F_bytes_Count : ACFn := { nt := 35,results := [.tmp 4],body := (.seq (.region [⟨some 4,.mov (.const (.int .i64 0)),none⟩]) (.seq (.seq (.region [⟨some 7,.mov (.tmp 1),none⟩,⟨some 8,.len false (.tmp 7),none⟩,⟨some 9,.bin .eql .no (.tmp 8) (.const (.int .i64 0)),none⟩]) (.cond (.tmp 9) (.seq (.region [⟨some 10,.mov (.tmp 0),none⟩,
 ⟨some 11,.call (.fn 105) [(.tmp 10)],none⟩,⟨some 12,.bin .add .no (.tmp 11) (.const (.int .i64 1)),none⟩,⟨some 4,.mov (.tmp 12),none⟩]) (.ret)) (.skip))) (.seq (.seq (.region [⟨some 13,.mov (.tmp 1),none⟩,
 ⟨some 14,.len false (.tmp 13),none⟩,⟨some 15,.bin .eql .no (.tmp 14) (.const (.int .i64 1)),none⟩]) (.cond (.tmp 15) (.seq (.region [⟨some 16,.mov (.tmp 0),none⟩,⟨some 17,.mov (.tmp 1),none⟩,⟨some 18,.iaddr 1 (.tmp 17) (.const (.int .i64 0)),none⟩,
 ⟨some 19,.load false 1 (.tmp 18),none⟩,⟨some 20,.call (.fn 106) [(.tmp 16),(.tmp 19)],none⟩,⟨some 4,.mov (.tmp 20),none⟩]) (.ret)) (.skip))) (.seq (.region [⟨some 5,.mov (.const (.int .i64 0)),none⟩]) (.block 0 (.loop (.block 1 (.seq (.region [⟨some 21,.mov (.tmp 0),none⟩,
 ⟨some 22,.mov (.tmp 1),none⟩,⟨some 23,.call (.fn 32) [(.tmp 21),(.tmp 22)],none⟩,⟨some 6,.mov (.tmp 23),none⟩]) (.seq (.seq (.region [⟨some 24,.mov (.tmp 6),none⟩,⟨some 25,.bin .eql .no (.tmp 24) (.const (.int .i64 (-1))),none⟩]) (.cond (.tmp 25) (.seq (.region [⟨some 26,.mov (.tmp 5),none⟩,
 ⟨some 4,.mov (.tmp 26),none⟩]) (.ret)) (.skip))) (.seq (.region [⟨some 27,.mov (.tmp 5),none⟩,⟨some 28,.bin .add .no (.tmp 27) (.const (.int .i64 1)),none⟩,⟨some 5,.mov (.tmp 28),none⟩]) (.region [⟨some 29,.mov (.tmp 0),none⟩,
 ⟨some 30,.mov (.tmp 6),none⟩,⟨some 31,.mov (.tmp 1),none⟩,⟨some 32,.len false (.tmp 31),none⟩,⟨some 33,.bin .add .no (.tmp 30) (.tmp 32),none⟩,⟨some 34,.slc 1 (.tmp 29) (some (.tmp 33)) none none,none⟩,
 ⟨some 0,.mov (.tmp 34),none⟩]))))))))))) }

def F_unicode_utf8_RuneCount : ACFn := { nt := 27,results := [.tmp 2],body := (.seq (.region [⟨some 2,.mov (.const (.int .i64 0)),none⟩]) (.seq (.region [⟨some 6,.mov (.tmp 0),none⟩,⟨some 7,.len false (.tmp 6),none⟩,⟨some 3,.mov (.tmp 7),none⟩]) (.seq (.region [⟨some 4,.mov (.const (.int .i64 0)),none⟩]) (.seq (.block 0 (.loop (.seq (.seq (.region [⟨some 8,.mov (.tmp 4),none⟩,
 ⟨some 9,.mov (.tmp 3),none⟩,⟨some 10,.bin .lss .no (.tmp 8) (.tmp 9),none⟩]) (.cond (.tmp 10) (.skip) (.exit 0))) (.seq (.block 1 (.seq (.region [⟨some 13,.mov (.tmp 0),none⟩,⟨some 14,.mov (.tmp 4),none⟩,
 ⟨some 15,.iaddr 1 (.tmp 13) (.tmp 14),none⟩,⟨some 16,.load false 1 (.tmp 15),none⟩,⟨some 5,.mov (.tmp 16),none⟩]) (.seq (.region [⟨some 17,.mov (.tmp 5),none⟩,⟨some 18,.bin .geq .no (.tmp 17) (.const (.b8 128)),none⟩]) (.cond (.tmp 18) (.seq (.region [⟨some 19,.mov (.tmp 4),none⟩,
 ⟨some 20,.mov (.tmp 0),none⟩,⟨some 21,.mov (.tmp 4),none⟩,⟨some 22,.slc 1 (.tmp 20) (some (.tmp 21)) none none,none⟩,⟨some 23,.cB2S false (.tmp 22),none⟩,⟨some 24,.call (.fn 109) [(.tmp 23)],none⟩,⟨some 25,.bin .add .no (.tmp 19) (.tmp 24),none⟩,
 ⟨some 2,.mov (.tmp 25),none⟩]) (.ret)) (.skip))))) (.region [⟨some 11,.mov (.tmp 4),none⟩,⟨some 12,.bin .add .no (.tmp 11) (.const (.int .i64 1)),none⟩,⟨some 4,.mov (.tmp 12),none⟩]))))) (.seq (.region [⟨some 26,.mov (.tmp 4),none⟩,
 ⟨some 2,.mov (.tmp 26),none⟩]) (.ret)))))) }

def F_unicode_utf8_DecodeRune : ACFn := { nt := 22,results := [.tmp 2,.tmp 3],body := (.seq (.region [⟨some 2,.mov (.const (.int .i32 0)),none⟩,⟨some 3,.mov (.const (.int .i64 0)),none⟩]) (.seq (.seq (.region [⟨some 6,.mov (.tmp 0),none⟩,⟨some 7,.len false (.tmp 6),none⟩,
 ⟨some 8,.mov (.const (.int .i64 0)),none⟩]) (.block 0 (.loop (.seq (.region [⟨some 9,.bin .lss .no (.tmp 8) (.tmp 7),none⟩]) (.seq (.cond (.tmp 9) (.skip) (.exit 0)) (.seq (.block 1 (.seq (.region [⟨some 10,.iaddr 1 (.tmp 6) (.tmp 8),none⟩,
 ⟨some 11,.load false 1 (.tmp 10),none⟩,⟨some 5,.mov (.tmp 11),none⟩]) (.seq (.seq (.region [⟨some 12,.mov (.tmp 5),none⟩,⟨some 13,.bin .lss .no (.tmp 12) (.const (.b8 128)),none⟩]) (.cond (.tmp 13) (.seq (.region [⟨some 14,.mov (.tmp 5),none⟩,
 ⟨some 15,.cInt .i32 (.tmp 14),none⟩,⟨some 2,.mov (.tmp 15),none⟩,⟨some 3,.mov (.const (.int .i64 1)),none⟩]) (.ret)) (.skip))) (.exit 0)))) (.region [⟨some 16,.bin .add .no (.tmp 8) (.const (.int .i64 1)),none⟩,
 ⟨some 8,.mov (.tmp 16),none⟩]))))))) (.seq (.region [⟨some 18,.mov (.tmp 0),none⟩,⟨some 19,.call (.fn 107) [(.tmp 18)],none⟩,⟨some 17,.mov (.tmp 19),none⟩,⟨some 20,.ext 0 (.tmp 17),none⟩,⟨some 21,.ext 1 (.tmp 17),none⟩,
 ⟨some 2,.mov (.tmp 20),none⟩,⟨some 3,.mov (.tmp 21),none⟩]) (.ret)))) }

end Go.Ab
/-
  The abstract code of functions, printed by program (abgen.py, abput2.py).
-/
namespace Go.Ab

def F_posthornlaw11_Great : ACFn := { nt := 40,results := [.tmp 4],body := (.seq (.region [⟨some 2,.boxc (.tmp 0),none⟩,⟨some 4,.mov (.const (.bool false)),none⟩]) (.seq (.seq (.region [⟨some 6,.mov (.tmp 1),none⟩,⟨some 7,.bin .leq .no (.tmp 6) (.const (.int .i64 0)),none⟩,
 ⟨some 8,.mov (.tmp 7),none⟩,⟨some 9,.faddr 1 (.tmp 2),some (8,false)⟩,⟨some 10,.loadc false 1 (.tmp 9),some (8,false)⟩,⟨some 11,.call (.fn 47) [(.tmp 10)],some (8,false)⟩,⟨some 12,.pick (.tmp 8) (.const (.bool true)) (.tmp 11),none⟩,
 ⟨some 13,.mov (.tmp 12),none⟩,⟨some 14,.faddr 2 (.tmp 2),some (13,false)⟩,⟨some 15,.loadc false 1 (.tmp 14),some (13,false)⟩,⟨some 16,.len false (.tmp 15),some (13,false)⟩,⟨some 17,.bin .gtr .no (.tmp 16) (.const (.int .i64 70)),some (13,false)⟩,
 ⟨some 18,.pick (.tmp 13) (.const (.bool true)) (.tmp 17),none⟩,⟨some 19,.mov (.tmp 18),none⟩,⟨some 20,.faddr 0 (.tmp 2),some (19,false)⟩,⟨some 21,.loadc false 1 (.tmp 20),some (19,false)⟩,⟨some 22,.len true (.tmp 21),some (19,false)⟩,
 ⟨some 23,.bin .gtr .no (.tmp 22) (.const (.int .i64 200)),some (19,false)⟩,⟨some 24,.pick (.tmp 19) (.const (.bool true)) (.tmp 23),none⟩]) (.cond (.tmp 24) (.seq (.region [⟨some 4,.mov (.const (.bool true)),none⟩]) (.ret)) (.skip))) (.seq (.seq (.region [⟨some 5,.mov (.const (.int .i64 0)),none⟩]) (.block 0 (.loop (.seq (.seq (.region [⟨some 25,.mov (.tmp 5),none⟩,
 ⟨some 26,.faddr 2 (.tmp 2),none⟩,⟨some 27,.loadc false 1 (.tmp 26),none⟩,⟨some 28,.len false (.tmp 27),none⟩,⟨some 29,.bin .lss .no (.tmp 25) (.tmp 28),none⟩]) (.cond (.tmp 29) (.skip) (.exit 0))) (.seq (.block 1 (.seq (.region [⟨some 32,.faddr 2 (.tmp 2),none⟩,
 ⟨some 33,.loadc false 1 (.tmp 32),none⟩,⟨some 34,.mov (.tmp 5),none⟩,⟨some 35,.iaddr 3 (.tmp 33) (.tmp 34),none⟩,⟨some 36,.load true 3 (.tmp 35),none⟩,⟨some 37,.mov (.tmp 1),none⟩,⟨some 38,.bin .sub .no (.tmp 37) (.const (.int .i64 1)),none⟩,
 ⟨some 39,.call (.fn 316) [(.tmp 36),(.tmp 38)],none⟩]) (.cond (.tmp 39) (.seq (.region [⟨some 4,.mov (.const (.bool true)),none⟩]) (.ret)) (.skip)))) (.region [⟨some 30,.mov (.tmp 5),none⟩,⟨some 31,.bin .add .no (.tmp 30) (.const (.int .i64 1)),none⟩,
 ⟨some 5,.mov (.tmp 31),none⟩])))))) (.seq (.region [⟨some 4,.mov (.const (.bool false)),none⟩]) (.ret))))) }

def F_posthornlaw11_few : ACFn := { nt := 14,results := [.tmp 2],body := (.seq (.region [⟨some 1,.boxc (.tmp 0),none⟩,⟨some 2,.mov (.const (.bool false)),none⟩]) (.seq (.region [⟨some 7,.loadc true 3 (.tmp 1),none⟩,⟨some 8,.call (.fn 337) [(.tmp 7)],none⟩,
 ⟨some 6,.mov (.tmp 8),none⟩,⟨some 9,.ext 0 (.tmp 6),none⟩,⟨some 10,.ext 1 (.tmp 6),none⟩,⟨some 11,.ext 2 (.tmp 6),none⟩,⟨some 3,.mov (.tmp 9),none⟩,⟨some 4,.mov (.tmp 10),none⟩,⟨some 5,.mov (.tmp 11),none⟩]) (.seq (.region [⟨some 12,.mov (.tmp 3),none⟩,
 ⟨some 13,.bin .leq .no (.tmp 12) (.const (.int .i64 80)),none⟩,⟨some 2,.mov (.tmp 13),none⟩]) (.ret)))) }

def F_posthornlaw11_alive : ACFn := { nt := 53,results := [.tmp 0],body := (.seq (.region [⟨some 0,.mov (.const (.bool false)),none⟩]) (.seq (.region [⟨some 10,.lit8 21 [(0,(.const (.b8 98))),(1,(.const (.b8 101))),(2,(.const (.b8 103))),(3,(.const (.b8 105))),(4,(.const (.b8 110))),(5,(.const (.b8 58))),(6,(.const (.b8 97))),(7,(.const (.b8 13))),(8,(.const (.b8 10))),(9,(.const (.b8 88))),(10,(.const (.b8 58))),(11,(.const (.b8 49))),(12,(.const (.b8 13))),(13,(.const (.b8 10))),(14,(.const (.b8 69))),(15,(.const (.b8 78))),(16,(.const (.b8 68))),(17,(.const (.b8 58))),(18,(.const (.b8 65))),(19,(.const (.b8 13))),(20,(.const (.b8 10)))],none⟩,
 ⟨some 11,.cSame (.tmp 10),none⟩,⟨some 12,.call (.fn 324) [(.tmp 11)],none⟩,⟨some 9,.mov (.tmp 12),none⟩,⟨some 13,.ext 0 (.tmp 9),none⟩,⟨some 14,.ext 1 (.tmp 9),none⟩,⟨some 1,.alloc [.str [],.nils,.nils],none⟩,
 ⟨none,.store 3 (.tmp 1) (.tmp 13),none⟩,⟨some 2,.mov (.tmp 14),none⟩]) (.seq (.region [⟨some 16,.load true 3 (.tmp 1),none⟩,⟨some 17,.call (.fn 319) [(.tmp 16)],none⟩,⟨some 15,.mov (.tmp 17),none⟩,⟨some 18,.ext 0 (.tmp 15),none⟩,
 ⟨some 19,.ext 1 (.tmp 15),none⟩,⟨some 3,.mov (.tmp 18),none⟩,⟨some 4,.mov (.tmp 19),none⟩]) (.seq (.region [⟨some 21,.call (.fn 324) [(.const (.nils))],none⟩,⟨some 20,.mov (.tmp 21),none⟩,⟨some 22,.ext 0 (.tmp 20),none⟩,
 ⟨some 23,.ext 1 (.tmp 20),none⟩,⟨some 5,.alloc [.str [],.nils,.nils],none⟩,⟨none,.store 3 (.tmp 5) (.tmp 22),none⟩,⟨some 6,.mov (.tmp 23),none⟩]) (.seq (.region [⟨some 25,.load true 3 (.tmp 1),none⟩,⟨some 26,.call (.fn 330) [(.tmp 25),(.const (.str [88]))],none⟩,
 ⟨some 24,.mov (.tmp 26),none⟩,⟨some 27,.ext 0 (.tmp 24),none⟩,⟨some 28,.ext 1 (.tmp 24),none⟩,⟨some 7,.alloc [.str [],.nils,.str []],none⟩,⟨none,.store 3 (.tmp 7) (.tmp 27),none⟩,⟨some 8,.mov (.tmp 28),none⟩]) (.seq (.region [⟨some 29,.mov (.tmp 2),none⟩,
 ⟨some 30,.bin .eql .no (.tmp 29) (.const (.int .i64 0)),none⟩,⟨some 31,.mov (.tmp 30),none⟩,⟨some 32,.mov (.tmp 3),some (31,true)⟩,⟨some 33,.cB2S false (.tmp 32),some (31,true)⟩,⟨some 34,.bin .eql .no (.tmp 33) (.const (.str [66,69,71,73,78,58,65,13,10,88,58,49,13,10,69,78,68,58,65,13,10])),some (31,true)⟩,
 ⟨some 35,.pick (.tmp 31) (.tmp 34) (.const (.bool false)),none⟩,⟨some 36,.mov (.tmp 35),none⟩,⟨some 37,.mov (.tmp 4),some (36,true)⟩,⟨some 38,.bin .eql .no (.tmp 37) (.const (.int .i64 0)),some (36,true)⟩,
 ⟨some 39,.pick (.tmp 36) (.tmp 38) (.const (.bool false)),none⟩,⟨some 40,.mov (.tmp 39),none⟩,⟨some 41,.mov (.tmp 6),some (40,true)⟩,⟨some 42,.bin .eql .no (.tmp 41) (.const (.int .i64 100)),some (40,true)⟩,
 ⟨some 43,.pick (.tmp 40) (.tmp 42) (.const (.bool false)),none⟩,⟨some 44,.mov (.tmp 43),none⟩,⟨some 45,.mov (.tmp 8),some (44,true)⟩,⟨some 46,.bin .eql .no (.tmp 45) (.const (.int .i64 1)),some (44,true)⟩,
 ⟨some 47,.pick (.tmp 44) (.tmp 46) (.const (.bool false)),none⟩,⟨some 48,.mov (.tmp 47),none⟩,⟨some 49,.faddr 2 (.tmp 7),some (48,true)⟩,⟨some 50,.load false 1 (.tmp 49),some (48,true)⟩,⟨some 51,.bin .eql .no (.tmp 50) (.const (.str [49])),some (48,true)⟩,
 ⟨some 52,.pick (.tmp 48) (.tmp 51) (.const (.bool false)),none⟩,⟨some 0,.mov (.tmp 52),none⟩]) (.ret))))))) }

def F_tree_Write : ACFn := { nt := 36,results := [.tmp 2,.tmp 3],body := (.seq (.region [⟨some 1,.boxc (.tmp 0),none⟩,⟨some 2,.mov (.const (.nils)),none⟩,⟨some 3,.mov (.const (.int .i64 0)),none⟩]) (.seq (.seq (.region [⟨some 9,.loadc true 3 (.tmp 1),none⟩,
 ⟨some 10,.call (.fn 321) [(.tmp 9)],none⟩,⟨some 11,.un .not (.tmp 10),none⟩]) (.cond (.tmp 11) (.seq (.region [⟨some 2,.mov (.const (.nils)),none⟩,⟨some 3,.mov (.const (.int .i64 100)),none⟩]) (.ret)) (.skip))) (.seq (.region [⟨some 4,.mov (.const (.nils)),none⟩]) (.seq (.seq (.region [⟨some 12,.loadc true 3 (.tmp 1),none⟩,
 ⟨some 13,.call (.fn 339) [(.const (.nils)),(.tmp 12)],none⟩,⟨some 14,.len false (.tmp 13),none⟩,⟨some 15,.mov (.const (.int .i64 0)),none⟩]) (.block 0 (.loop (.seq (.region [⟨some 16,.bin .lss .no (.tmp 15) (.tmp 14),none⟩]) (.seq (.cond (.tmp 16) (.skip) (.exit 0)) (.seq (.block 1 (.seq (.region [⟨some 17,.iaddr 3 (.tmp 13) (.tmp 15),none⟩,
 ⟨some 18,.load true 3 (.tmp 17),none⟩,⟨some 6,.alloc [.str [],.nils,.str []],none⟩,⟨none,.store 3 (.tmp 6) (.tmp 18),none⟩]) (.seq (.region [⟨some 20,.load true 3 (.tmp 6),none⟩,⟨some 21,.lit 3 (.agg [.str [],.nils,.str []]) 1 [(0,(.tmp 20))],none⟩,
 ⟨some 22,.call (.fn 48) [(.tmp 21)],none⟩,⟨some 19,.mov (.tmp 22),none⟩,⟨some 23,.ext 0 (.tmp 19),none⟩,⟨some 24,.ext 1 (.tmp 19),none⟩,⟨some 7,.mov (.tmp 23),none⟩,⟨some 8,.mov (.tmp 24),none⟩]) (.seq (.seq (.region [⟨some 25,.mov (.tmp 7),none⟩,
 ⟨some 26,.len false (.tmp 25),none⟩,⟨some 27,.mov (.tmp 4),none⟩,⟨some 28,.len false (.tmp 27),none⟩,⟨some 29,.bin .sub .no (.const (.int .i64 1048576)) (.tmp 28),none⟩,⟨some 30,.bin .gtr .no (.tmp 26) (.tmp 29),none⟩]) (.cond (.tmp 30) (.seq (.region [⟨some 2,.mov (.const (.nils)),none⟩,
 ⟨some 3,.mov (.const (.int .i64 2)),none⟩]) (.ret)) (.skip))) (.region [⟨some 31,.mov (.tmp 4),none⟩,⟨some 32,.mov (.tmp 7),none⟩,⟨some 33,.app true 1 (.tmp 31) (.tmp 32),none⟩,⟨some 4,.mov (.tmp 33),none⟩]))))) (.region [⟨some 34,.bin .add .no (.tmp 15) (.const (.int .i64 1)),none⟩,
 ⟨some 15,.mov (.tmp 34),none⟩]))))))) (.seq (.region [⟨some 35,.mov (.tmp 4),none⟩,⟨some 2,.mov (.tmp 35),none⟩,⟨some 3,.mov (.const (.int .i64 0)),none⟩]) (.ret)))))) }

def F_posthornref11_Write : ACFn := { nt := 36,results := [.tmp 2,.tmp 3],body := (.seq (.region [⟨some 1,.boxc (.tmp 0),none⟩,⟨some 2,.mov (.const (.nils)),none⟩,⟨some 3,.mov (.const (.int .i64 0)),none⟩]) (.seq (.seq (.region [⟨some 9,.loadc true 3 (.tmp 1),none⟩,
 ⟨some 10,.call (.fn 322) [(.tmp 9)],none⟩,⟨some 11,.un .not (.tmp 10),none⟩]) (.cond (.tmp 11) (.seq (.region [⟨some 2,.mov (.const (.nils)),none⟩,⟨some 3,.mov (.const (.int .i64 100)),none⟩]) (.ret)) (.skip))) (.seq (.region [⟨some 12,.loadc true 3 (.tmp 1),none⟩,
 ⟨some 13,.call (.fn 340) [(.tmp 12)],none⟩,⟨some 4,.mov (.tmp 13),none⟩]) (.seq (.region [⟨some 5,.mov (.const (.nils)),none⟩]) (.seq (.seq (.region [⟨some 6,.mov (.const (.int .i64 0)),none⟩]) (.block 0 (.loop (.seq (.seq (.region [⟨some 14,.mov (.tmp 6),none⟩,
 ⟨some 15,.mov (.tmp 4),none⟩,⟨some 16,.len false (.tmp 15),none⟩,⟨some 17,.bin .lss .no (.tmp 14) (.tmp 16),none⟩]) (.cond (.tmp 17) (.skip) (.exit 0))) (.seq (.block 1 (.seq (.region [⟨some 21,.mov (.tmp 4),none⟩,
 ⟨some 22,.mov (.tmp 6),none⟩,⟨some 23,.mov (.tmp 6),none⟩,⟨some 24,.bin .add .no (.tmp 23) (.const (.int .i64 1)),none⟩,⟨some 25,.slc 3 (.tmp 21) (some (.tmp 22)) (some (.tmp 24)) none,none⟩,⟨some 26,.call (.fn 49) [(.tmp 25)],none⟩,
 ⟨some 20,.mov (.tmp 26),none⟩,⟨some 27,.ext 0 (.tmp 20),none⟩,⟨some 28,.ext 1 (.tmp 20),none⟩,⟨some 7,.mov (.tmp 27),none⟩,⟨some 8,.mov (.tmp 28),none⟩]) (.region [⟨some 29,.mov (.tmp 5),none⟩,⟨some 30,.mov (.tmp 7),none⟩,
 ⟨some 31,.app true 1 (.tmp 29) (.tmp 30),none⟩,⟨some 5,.mov (.tmp 31),none⟩]))) (.region [⟨some 18,.mov (.tmp 6),none⟩,⟨some 19,.bin .add .no (.tmp 18) (.const (.int .i64 1)),none⟩,⟨some 6,.mov (.tmp 19),none⟩])))))) (.seq (.seq (.region [⟨some 32,.mov (.tmp 5),none⟩,
 ⟨some 33,.len false (.tmp 32),none⟩,⟨some 34,.bin .gtr .no (.tmp 33) (.const (.int .i64 1048576)),none⟩]) (.cond (.tmp 34) (.seq (.region [⟨some 2,.mov (.const (.nils)),none⟩,⟨some 3,.mov (.const (.int .i64 2)),none⟩]) (.ret)) (.skip))) (.seq (.region [⟨some 35,.mov (.tmp 5),none⟩,
 ⟨some 2,.mov (.tmp 35),none⟩,⟨some 3,.mov (.const (.int .i64 0)),none⟩]) (.ret)))))))) }

def F_tree_Right : ACFn := { nt := 9,results := [.tmp 2],body := (.seq (.region [⟨some 1,.boxc (.tmp 0),none⟩,⟨some 2,.mov (.const (.bool false)),none⟩]) (.seq (.region [⟨some 4,.build [.int .i64 0,.int .i64 0] [],none⟩,⟨some 5,.box (.tmp 4),none⟩,
 ⟨some 3,.mov (.tmp 5),none⟩]) (.seq (.region [⟨some 6,.mov (.tmp 3),none⟩,⟨some 7,.loadc true 3 (.tmp 1),none⟩,⟨some 8,.call (.fn 341) [(.tmp 6),(.tmp 7),(.const (.int .i64 1))],none⟩,⟨some 2,.mov (.tmp 8),none⟩]) (.ret)))) }

def F_posthornref11_Right : ACFn := { nt := 26,results := [.tmp 2],body := (.seq (.region [⟨some 1,.boxc (.tmp 0),none⟩,⟨some 2,.mov (.const (.bool false)),none⟩]) (.seq (.region [⟨some 7,.loadc true 3 (.tmp 1),none⟩,⟨some 8,.call (.fn 337) [(.tmp 7)],none⟩,
 ⟨some 6,.mov (.tmp 8),none⟩,⟨some 9,.ext 0 (.tmp 6),none⟩,⟨some 10,.ext 1 (.tmp 6),none⟩,⟨some 11,.ext 2 (.tmp 6),none⟩,⟨some 3,.mov (.tmp 9),none⟩,⟨some 4,.mov (.tmp 10),none⟩,⟨some 5,.mov (.tmp 11),none⟩]) (.seq (.region [⟨some 12,.mov (.tmp 3),none⟩,
 ⟨some 13,.bin .leq .no (.tmp 12) (.const (.int .i64 64)),none⟩,⟨some 14,.mov (.tmp 13),none⟩,⟨some 15,.mov (.tmp 4),some (14,true)⟩,⟨some 16,.bin .leq .no (.tmp 15) (.const (.int .i64 8192)),some (14,true)⟩,
 ⟨some 17,.pick (.tmp 14) (.tmp 16) (.const (.bool false)),none⟩,⟨some 18,.mov (.tmp 17),none⟩,⟨some 19,.mov (.tmp 5),some (18,true)⟩,⟨some 20,.bin .leq .no (.tmp 19) (.const (.int .i64 8)),some (18,true)⟩,
 ⟨some 21,.pick (.tmp 18) (.tmp 20) (.const (.bool false)),none⟩,⟨some 22,.mov (.tmp 21),none⟩,⟨some 23,.loadc true 3 (.tmp 1),some (22,true)⟩,⟨some 24,.call (.fn 342) [(.tmp 23)],some (22,true)⟩,⟨some 25,.pick (.tmp 22) (.tmp 24) (.const (.bool false)),none⟩,
 ⟨some 2,.mov (.tmp 25),none⟩]) (.ret)))) }

def F_posthornlaw11_TreeWrites : ACFn := { nt := 45,results := [.tmp 2],body := (.seq (.region [⟨some 1,.boxc (.tmp 0),none⟩,⟨some 2,.mov (.const (.bool false)),none⟩]) (.seq (.seq (.region [⟨some 7,.loadc true 3 (.tmp 1),none⟩,⟨some 8,.call (.fn 316) [(.tmp 7),(.const (.int .i64 12))],none⟩,
 ⟨some 9,.mov (.tmp 8),none⟩,⟨some 10,.loadc true 3 (.tmp 1),some (9,false)⟩,⟨some 11,.call (.fn 317) [(.tmp 10)],some (9,false)⟩,⟨some 12,.un .not (.tmp 11),some (9,false)⟩,⟨some 13,.pick (.tmp 9) (.const (.bool true)) (.tmp 12),none⟩]) (.cond (.tmp 13) (.seq (.region [⟨some 14,.call (.fn 318) [],none⟩,
 ⟨some 2,.mov (.tmp 14),none⟩]) (.ret)) (.skip))) (.seq (.region [⟨some 16,.loadc true 3 (.tmp 1),none⟩,⟨some 17,.call (.fn 319) [(.tmp 16)],none⟩,⟨some 15,.mov (.tmp 17),none⟩,⟨some 18,.ext 0 (.tmp 15),none⟩,
 ⟨some 19,.ext 1 (.tmp 15),none⟩,⟨some 3,.mov (.tmp 18),none⟩,⟨some 4,.mov (.tmp 19),none⟩]) (.seq (.region [⟨some 21,.loadc true 3 (.tmp 1),none⟩,⟨some 22,.call (.fn 320) [(.tmp 21)],none⟩,⟨some 20,.mov (.tmp 22),none⟩,
 ⟨some 23,.ext 0 (.tmp 20),none⟩,⟨some 24,.ext 1 (.tmp 20),none⟩,⟨some 5,.mov (.tmp 23),none⟩,⟨some 6,.mov (.tmp 24),none⟩]) (.seq (.region [⟨some 25,.call (.fn 318) [],none⟩,⟨some 26,.mov (.tmp 25),none⟩,
 ⟨some 27,.loadc true 3 (.tmp 1),some (26,true)⟩,⟨some 28,.call (.fn 321) [(.tmp 27)],some (26,true)⟩,⟨some 29,.loadc true 3 (.tmp 1),some (26,true)⟩,⟨some 30,.call (.fn 322) [(.tmp 29)],some (26,true)⟩,
 ⟨some 31,.bin .eql .bool (.tmp 28) (.tmp 30),some (26,true)⟩,⟨some 32,.pick (.tmp 26) (.tmp 31) (.const (.bool false)),none⟩,⟨some 33,.mov (.tmp 32),none⟩,⟨some 34,.mov (.tmp 3),some (33,true)⟩,⟨some 35,.cB2S false (.tmp 34),some (33,true)⟩,
 ⟨some 36,.mov (.tmp 5),some (33,true)⟩,⟨some 37,.cB2S false (.tmp 36),some (33,true)⟩,⟨some 38,.bin .eql .no (.tmp 35) (.tmp 37),some (33,true)⟩,⟨some 39,.pick (.tmp 33) (.tmp 38) (.const (.bool false)),none⟩,
 ⟨some 40,.mov (.tmp 39),none⟩,⟨some 41,.mov (.tmp 4),some (40,true)⟩,⟨some 42,.mov (.tmp 6),some (40,true)⟩,⟨some 43,.bin .eql .no (.tmp 41) (.tmp 42),some (40,true)⟩,⟨some 44,.pick (.tmp 40) (.tmp 43) (.const (.bool false)),none⟩,
 ⟨some 2,.mov (.tmp 44),none⟩]) (.ret)))))) }

def F_tree_Read : ACFn := { nt := 40,results := [.cell 2 true 3,.tmp 3],body := (.seq (.region [⟨some 2,.alloc [.str [],.nils,.nils],none⟩,⟨some 3,.mov (.const (.int .i64 0)),none⟩]) (.seq (.region [⟨some 10,.mov (.tmp 0),none⟩,
 ⟨some 11,.call (.fn 89) [(.tmp 10)],none⟩,⟨some 9,.mov (.tmp 11),none⟩,⟨some 12,.ext 0 (.tmp 9),none⟩,⟨some 13,.ext 1 (.tmp 9),none⟩,⟨some 5,.alloc [.int .i64 0,.int .i64 0],none⟩,⟨some 4,.mov (.tmp 12),none⟩,
 ⟨none,.store 2 (.tmp 5) (.tmp 13),none⟩]) (.seq (.seq (.region [⟨some 14,.faddr 1 (.tmp 5),none⟩,⟨some 15,.load false 1 (.tmp 14),none⟩,⟨some 16,.bin .neq .no (.tmp 15) (.const (.int .i64 0)),none⟩]) (.cond (.tmp 16) (.seq (.region [⟨some 17,.build [.str [],.nils,.nils] [],none⟩,
 ⟨some 18,.faddr 1 (.tmp 5),none⟩,⟨some 19,.load false 1 (.tmp 18),none⟩,⟨none,.storek 3 (.tmp 2) (.tmp 17),none⟩,⟨some 3,.mov (.tmp 19),none⟩]) (.ret)) (.skip))) (.seq (.region [⟨some 21,.mov (.tmp 4),none⟩,
 ⟨some 22,.call (.fn 343) [(.tmp 21),(.const (.int .i64 1))],none⟩,⟨some 20,.mov (.tmp 22),none⟩,⟨some 23,.ext 0 (.tmp 20),none⟩,⟨some 24,.ext 1 (.tmp 20),none⟩,⟨some 25,.ext 2 (.tmp 20),none⟩,⟨some 6,.alloc [.str [],.nils,.nils],none⟩,
 ⟨none,.store 3 (.tmp 6) (.tmp 23),none⟩,⟨some 7,.mov (.tmp 24),none⟩,⟨some 8,.mov (.tmp 25),none⟩]) (.seq (.seq (.region [⟨some 26,.mov (.tmp 8),none⟩,⟨some 27,.un .not (.tmp 26),none⟩,⟨some 28,.mov (.tmp 27),none⟩,
 ⟨some 29,.mov (.tmp 7),some (28,false)⟩,⟨some 30,.len false (.tmp 29),some (28,false)⟩,⟨some 31,.bin .gtr .no (.tmp 30) (.const (.int .i64 0)),some (28,false)⟩,⟨some 32,.pick (.tmp 28) (.const (.bool true)) (.tmp 31),none⟩,
 ⟨some 33,.mov (.tmp 32),none⟩,⟨some 34,.load true 3 (.tmp 6),some (33,false)⟩,⟨some 35,.call (.fn 321) [(.tmp 34)],some (33,false)⟩,⟨some 36,.un .not (.tmp 35),some (33,false)⟩,⟨some 37,.pick (.tmp 33) (.const (.bool true)) (.tmp 36),none⟩]) (.cond (.tmp 37) (.seq (.region [⟨some 38,.build [.str [],.nils,.nils] [],none⟩,
 ⟨none,.storek 3 (.tmp 2) (.tmp 38),none⟩,⟨some 3,.mov (.const (.int .i64 100)),none⟩]) (.ret)) (.skip))) (.seq (.region [⟨some 39,.load true 3 (.tmp 6),none⟩,⟨none,.store 3 (.tmp 2) (.tmp 39),none⟩,⟨some 3,.mov (.const (.int .i64 0)),none⟩]) (.ret))))))) }

def F_tree_Get : ACFn := { nt := 19,results := [.cell 4 true 3,.tmp 5],body := (.seq (.region [⟨some 2,.boxc (.tmp 0),none⟩,⟨some 4,.alloc [.str [],.nils,.str []],none⟩,⟨some 5,.mov (.const (.int .i64 0)),none⟩]) (.seq (.region [⟨some 7,.loadc true 3 (.tmp 2),none⟩,
 ⟨some 8,.mov (.tmp 1),none⟩,⟨some 9,.call (.fn 332) [(.tmp 7),(.tmp 8)],none⟩,⟨some 6,.mov (.tmp 9),none⟩]) (.seq (.seq (.region [⟨some 10,.mov (.tmp 6),none⟩,⟨some 11,.len false (.tmp 10),none⟩,⟨some 12,.bin .eql .no (.tmp 11) (.const (.int .i64 0)),none⟩]) (.cond (.tmp 12) (.seq (.region [⟨some 13,.build [.str [],.nils,.str []] [],none⟩,
 ⟨none,.store 3 (.tmp 4) (.tmp 13),none⟩,⟨some 5,.mov (.const (.int .i64 0)),none⟩]) (.ret)) (.skip))) (.seq (.region [⟨some 14,.mov (.tmp 6),none⟩,⟨some 15,.iaddr 3 (.tmp 14) (.const (.int .i64 0)),none⟩,
 ⟨some 16,.load true 3 (.tmp 15),none⟩,⟨some 17,.mov (.tmp 6),none⟩,⟨some 18,.len false (.tmp 17),none⟩,⟨none,.store 3 (.tmp 4) (.tmp 16),none⟩,⟨some 5,.mov (.tmp 18),none⟩]) (.ret))))) }

def F_tree_All : ACFn := { nt := 25,results := [.tmp 4],body := (.seq (.region [⟨some 2,.boxc (.tmp 0),none⟩,⟨some 4,.mov (.const (.nils)),none⟩]) (.seq (.region [⟨some 5,.mov (.const (.nils)),none⟩]) (.seq (.seq (.region [⟨some 8,.faddr 1 (.tmp 2),none⟩,
 ⟨some 9,.loadc false 1 (.tmp 8),none⟩,⟨some 10,.len false (.tmp 9),none⟩,⟨some 11,.mov (.const (.int .i64 0)),none⟩]) (.block 0 (.loop (.seq (.region [⟨some 12,.bin .lss .no (.tmp 11) (.tmp 10),none⟩]) (.seq (.cond (.tmp 12) (.skip) (.exit 0)) (.seq (.block 1 (.seq (.region [⟨some 13,.iaddr 3 (.tmp 9) (.tmp 11),none⟩,
 ⟨some 14,.load true 3 (.tmp 13),none⟩,⟨some 7,.alloc [.str [],.nils,.str []],none⟩,⟨none,.store 3 (.tmp 7) (.tmp 14),none⟩]) (.seq (.region [⟨some 15,.faddr 0 (.tmp 7),none⟩,⟨some 16,.load false 1 (.tmp 15),none⟩,
 ⟨some 17,.mov (.tmp 1),none⟩,⟨some 18,.bin .eql .no (.tmp 16) (.tmp 17),none⟩]) (.cond (.tmp 18) (.region [⟨some 19,.mov (.tmp 5),none⟩,⟨some 20,.load true 3 (.tmp 7),none⟩,⟨some 21,.lit 3 (.agg [.str [],.nils,.str []]) 1 [(0,(.tmp 20))],none⟩,
 ⟨some 22,.app false 3 (.tmp 19) (.tmp 21),none⟩,⟨some 5,.mov (.tmp 22),none⟩]) (.skip))))) (.region [⟨some 23,.bin .add .no (.tmp 11) (.const (.int .i64 1)),none⟩,⟨some 11,.mov (.tmp 23),none⟩]))))))) (.seq (.region [⟨some 24,.mov (.tmp 5),none⟩,
 ⟨some 4,.mov (.tmp 24),none⟩]) (.ret))))) }

def F_posthornref11_Count : ACFn := { nt := 47,results := [.tmp 2,.tmp 3,.tmp 4],body := (.seq (.region [⟨some 1,.boxc (.tmp 0),none⟩,⟨some 2,.mov (.const (.int .i64 0)),none⟩,⟨some 3,.mov (.const (.int .i64 0)),none⟩,⟨some 4,.mov (.const (.int .i64 0)),none⟩]) (.seq (.region [⟨some 12,.faddr 1 (.tmp 1),none⟩,
 ⟨some 13,.loadc false 1 (.tmp 12),none⟩,⟨some 14,.len false (.tmp 13),none⟩,⟨some 5,.mov (.const (.int .i64 1)),none⟩,⟨some 6,.mov (.tmp 14),none⟩,⟨some 7,.mov (.const (.int .i64 1)),none⟩]) (.seq (.seq (.region [⟨some 8,.mov (.const (.int .i64 0)),none⟩]) (.block 0 (.loop (.seq (.seq (.region [⟨some 15,.mov (.tmp 8),none⟩,
 ⟨some 16,.faddr 2 (.tmp 1),none⟩,⟨some 17,.loadc false 1 (.tmp 16),none⟩,⟨some 18,.len false (.tmp 17),none⟩,⟨some 19,.bin .lss .no (.tmp 15) (.tmp 18),none⟩]) (.cond (.tmp 19) (.skip) (.exit 0))) (.seq (.block 1 (.seq (.region [⟨some 23,.faddr 2 (.tmp 1),none⟩,
 ⟨some 24,.loadc false 1 (.tmp 23),none⟩,⟨some 25,.mov (.tmp 8),none⟩,⟨some 26,.iaddr 3 (.tmp 24) (.tmp 25),none⟩,⟨some 27,.load true 3 (.tmp 26),none⟩,⟨some 28,.call (.fn 337) [(.tmp 27)],none⟩,⟨some 22,.mov (.tmp 28),none⟩,
 ⟨some 29,.ext 0 (.tmp 22),none⟩,⟨some 30,.ext 1 (.tmp 22),none⟩,⟨some 31,.ext 2 (.tmp 22),none⟩,⟨some 9,.mov (.tmp 29),none⟩,⟨some 10,.mov (.tmp 30),none⟩,⟨some 11,.mov (.tmp 31),none⟩]) (.seq (.region [⟨some 32,.mov (.tmp 5),none⟩,
 ⟨some 33,.mov (.tmp 9),none⟩,⟨some 34,.bin .add .no (.tmp 32) (.tmp 33),none⟩,⟨some 35,.mov (.tmp 6),none⟩,⟨some 36,.mov (.tmp 10),none⟩,⟨some 37,.bin .add .no (.tmp 35) (.tmp 36),none⟩,⟨some 5,.mov (.tmp 34),none⟩,
 ⟨some 6,.mov (.tmp 37),none⟩]) (.seq (.region [⟨some 38,.mov (.tmp 11),none⟩,⟨some 39,.bin .add .no (.tmp 38) (.const (.int .i64 1)),none⟩,⟨some 40,.mov (.tmp 7),none⟩,⟨some 41,.bin .gtr .no (.tmp 39) (.tmp 40),none⟩]) (.cond (.tmp 41) (.region [⟨some 42,.mov (.tmp 11),none⟩,
 ⟨some 43,.bin .add .no (.tmp 42) (.const (.int .i64 1)),none⟩,⟨some 7,.mov (.tmp 43),none⟩]) (.skip)))))) (.region [⟨some 20,.mov (.tmp 8),none⟩,⟨some 21,.bin .add .no (.tmp 20) (.const (.int .i64 1)),none⟩,
 ⟨some 8,.mov (.tmp 21),none⟩])))))) (.seq (.region [⟨some 44,.mov (.tmp 5),none⟩,⟨some 45,.mov (.tmp 6),none⟩,⟨some 46,.mov (.tmp 7),none⟩,⟨some 2,.mov (.tmp 44),none⟩,⟨some 3,.mov (.tmp 45),none⟩,⟨some 4,.mov (.tmp 46),none⟩]) (.ret))))) }

def F_tree_lines : ACFn := { nt := 33,results := [.tmp 4],body := (.seq (.region [⟨some 3,.boxc (.tmp 1),none⟩,⟨some 4,.mov (.const (.nils)),none⟩]) (.seq (.region [⟨some 7,.mov (.tmp 0),none⟩,⟨some 8,.faddr 0 (.tmp 3),none⟩,⟨some 9,.loadc false 1 (.tmp 8),none⟩,
 ⟨some 10,.build [.str [],.nils,.str []] [(0,1,(.const (.str [66,69,71,73,78]))),(2,1,(.tmp 9))],none⟩,⟨some 11,.lit 3 (.agg [.str [],.nils,.str []]) 1 [(0,(.tmp 10))],none⟩,⟨some 12,.app false 3 (.tmp 7) (.tmp 11),none⟩,
 ⟨some 13,.faddr 1 (.tmp 3),none⟩,⟨some 14,.loadc false 1 (.tmp 13),none⟩,⟨some 15,.app false 3 (.tmp 12) (.tmp 14),none⟩,⟨some 0,.mov (.tmp 15),none⟩]) (.seq (.seq (.region [⟨some 16,.faddr 2 (.tmp 3),none⟩,
 ⟨some 17,.loadc false 1 (.tmp 16),none⟩,⟨some 18,.len false (.tmp 17),none⟩,⟨some 19,.mov (.const (.int .i64 0)),none⟩]) (.block 0 (.loop (.seq (.region [⟨some 20,.bin .lss .no (.tmp 19) (.tmp 18),none⟩]) (.seq (.cond (.tmp 20) (.skip) (.exit 0)) (.seq (.block 1 (.seq (.region [⟨some 21,.iaddr 3 (.tmp 17) (.tmp 19),none⟩,
 ⟨some 22,.load true 3 (.tmp 21),none⟩,⟨some 6,.alloc [.str [],.nils,.nils],none⟩,⟨none,.store 3 (.tmp 6) (.tmp 22),none⟩]) (.region [⟨some 23,.mov (.tmp 0),none⟩,⟨some 24,.load true 3 (.tmp 6),none⟩,⟨some 25,.call (.fn 339) [(.tmp 23),(.tmp 24)],none⟩,
 ⟨some 0,.mov (.tmp 25),none⟩]))) (.region [⟨some 26,.bin .add .no (.tmp 19) (.const (.int .i64 1)),none⟩,⟨some 19,.mov (.tmp 26),none⟩]))))))) (.seq (.region [⟨some 27,.mov (.tmp 0),none⟩,⟨some 28,.faddr 0 (.tmp 3),none⟩,
 ⟨some 29,.loadc false 1 (.tmp 28),none⟩,⟨some 30,.build [.str [],.nils,.str []] [(0,1,(.const (.str [69,78,68]))),(2,1,(.tmp 29))],none⟩,⟨some 31,.lit 3 (.agg [.str [],.nils,.str []]) 1 [(0,(.tmp 30))],none⟩,
 ⟨some 32,.app false 3 (.tmp 27) (.tmp 31),none⟩,⟨some 4,.mov (.tmp 32),none⟩]) (.ret))))) }

def F_posthornref11_Lines : ACFn := { nt := 36,results := [.tmp 2],body := (.seq (.region [⟨some 1,.boxc (.tmp 0),none⟩,⟨some 2,.mov (.const (.nils)),none⟩]) (.seq (.region [⟨some 3,.mov (.const (.nils)),none⟩]) (.seq (.region [⟨some 5,.mov (.tmp 3),none⟩,
 ⟨some 6,.faddr 0 (.tmp 1),none⟩,⟨some 7,.loadc false 1 (.tmp 6),none⟩,⟨some 8,.build [.str [],.nils,.str []] [(0,1,(.const (.str [66,69,71,73,78]))),(2,1,(.tmp 7))],none⟩,⟨some 9,.lit 3 (.agg [.str [],.nils,.str []]) 1 [(0,(.tmp 8))],none⟩,
 ⟨some 10,.app false 3 (.tmp 5) (.tmp 9),none⟩,⟨some 3,.mov (.tmp 10),none⟩]) (.seq (.region [⟨some 11,.mov (.tmp 3),none⟩,⟨some 12,.faddr 1 (.tmp 1),none⟩,⟨some 13,.loadc false 1 (.tmp 12),none⟩,⟨some 14,.app false 3 (.tmp 11) (.tmp 13),none⟩,
 ⟨some 3,.mov (.tmp 14),none⟩]) (.seq (.seq (.region [⟨some 4,.mov (.const (.int .i64 0)),none⟩]) (.block 0 (.loop (.seq (.seq (.region [⟨some 15,.mov (.tmp 4),none⟩,⟨some 16,.faddr 2 (.tmp 1),none⟩,⟨some 17,.loadc false 1 (.tmp 16),none⟩,
 ⟨some 18,.len false (.tmp 17),none⟩,⟨some 19,.bin .lss .no (.tmp 15) (.tmp 18),none⟩]) (.cond (.tmp 19) (.skip) (.exit 0))) (.seq (.block 1 (.region [⟨some 22,.mov (.tmp 3),none⟩,⟨some 23,.faddr 2 (.tmp 1),none⟩,
 ⟨some 24,.loadc false 1 (.tmp 23),none⟩,⟨some 25,.mov (.tmp 4),none⟩,⟨some 26,.iaddr 3 (.tmp 24) (.tmp 25),none⟩,⟨some 27,.load true 3 (.tmp 26),none⟩,⟨some 28,.call (.fn 340) [(.tmp 27)],none⟩,⟨some 29,.app false 3 (.tmp 22) (.tmp 28),none⟩,
 ⟨some 3,.mov (.tmp 29),none⟩])) (.region [⟨some 20,.mov (.tmp 4),none⟩,⟨some 21,.bin .add .no (.tmp 20) (.const (.int .i64 1)),none⟩,⟨some 4,.mov (.tmp 21),none⟩])))))) (.seq (.region [⟨some 30,.mov (.tmp 3),none⟩,
 ⟨some 31,.faddr 0 (.tmp 1),none⟩,⟨some 32,.loadc false 1 (.tmp 31),none⟩,⟨some 33,.build [.str [],.nils,.str []] [(0,1,(.const (.str [69,78,68]))),(2,1,(.tmp 32))],none⟩,⟨some 34,.lit 3 (.agg [.str [],.nils,.str []]) 1 [(0,(.tmp 33))],none⟩,
 ⟨some 35,.app false 3 (.tmp 30) (.tmp 34),none⟩,⟨some 2,.mov (.tmp 35),none⟩]) (.ret))))))) }

def F_P_tree_meter_right : ACFn := { nt := 85,results := [.tmp 6],body := (.seq (.region [⟨some 4,.boxc (.tmp 1),none⟩,⟨some 6,.mov (.const (.bool false)),none⟩]) (.seq (.region [⟨some 11,.mov (.tmp 0),none⟩,⟨some 12,.nilck (.tmp 11),none⟩,
 ⟨some 13,.faddr 0 (.tmp 12),none⟩,⟨some 14,.load false 1 (.tmp 13),none⟩,⟨some 15,.bin .add .no (.tmp 14) (.const (.int .i64 1)),none⟩,⟨some 16,.nilck (.tmp 11),none⟩,⟨some 17,.faddr 0 (.tmp 16),none⟩,
 ⟨none,.store 1 (.tmp 17) (.tmp 15),none⟩]) (.seq (.region [⟨some 18,.mov (.tmp 0),none⟩,⟨some 19,.nilck (.tmp 18),none⟩,⟨some 20,.faddr 1 (.tmp 19),none⟩,⟨some 21,.load false 1 (.tmp 20),none⟩,⟨some 22,.faddr 1 (.tmp 4),none⟩,
 ⟨some 23,.loadc false 1 (.tmp 22),none⟩,⟨some 24,.len false (.tmp 23),none⟩,⟨some 25,.bin .add .no (.tmp 21) (.tmp 24),none⟩,⟨some 26,.nilck (.tmp 18),none⟩,⟨some 27,.faddr 1 (.tmp 26),none⟩,⟨none,.store 1 (.tmp 27) (.tmp 25),none⟩]) (.seq (.seq (.region [⟨some 28,.faddr 0 (.tmp 4),none⟩,
 ⟨some 29,.loadc false 1 (.tmp 28),none⟩,⟨some 30,.call (.fn 345) [(.tmp 29)],none⟩,⟨some 31,.un .not (.tmp 30),none⟩,⟨some 32,.mov (.tmp 31),none⟩,⟨some 33,.mov (.tmp 2),some (32,false)⟩,⟨some 34,.bin .gtr .no (.tmp 33) (.const (.int .i64 8)),some (32,false)⟩,
 ⟨some 35,.pick (.tmp 32) (.const (.bool true)) (.tmp 34),none⟩,⟨some 36,.mov (.tmp 35),none⟩,⟨some 37,.mov (.tmp 0),some (36,false)⟩,⟨some 38,.nilck (.tmp 37),some (36,false)⟩,⟨some 39,.faddr 0 (.tmp 38),some (36,false)⟩,
 ⟨some 40,.load false 1 (.tmp 39),some (36,false)⟩,⟨some 41,.bin .gtr .no (.tmp 40) (.const (.int .i64 64)),some (36,false)⟩,⟨some 42,.pick (.tmp 36) (.const (.bool true)) (.tmp 41),none⟩,⟨some 43,.mov (.tmp 42),none⟩,
 ⟨some 44,.mov (.tmp 0),some (43,false)⟩,⟨some 45,.nilck (.tmp 44),some (43,false)⟩,⟨some 46,.faddr 1 (.tmp 45),some (43,false)⟩,⟨some 47,.load false 1 (.tmp 46),some (43,false)⟩,⟨some 48,.bin .gtr .no (.tmp 47) (.const (.int .i64 8192)),some (43,false)⟩,
 ⟨some 49,.pick (.tmp 43) (.const (.bool true)) (.tmp 48),none⟩]) (.cond (.tmp 49) (.seq (.region [⟨some 6,.mov (.const (.bool false)),none⟩]) (.ret)) (.skip))) (.seq (.seq (.region [⟨some 50,.faddr 1 (.tmp 4),none⟩,
 ⟨some 51,.loadc false 1 (.tmp 50),none⟩,⟨some 52,.len false (.tmp 51),none⟩,⟨some 53,.mov (.const (.int .i64 0)),none⟩]) (.block 0 (.loop (.seq (.region [⟨some 54,.bin .lss .no (.tmp 53) (.tmp 52),none⟩]) (.seq (.cond (.tmp 54) (.skip) (.exit 0)) (.seq (.block 1 (.seq (.region [⟨some 55,.iaddr 3 (.tmp 51) (.tmp 53),none⟩,
 ⟨some 56,.load true 3 (.tmp 55),none⟩,⟨some 8,.alloc [.str [],.nils,.str []],none⟩,⟨none,.store 3 (.tmp 8) (.tmp 56),none⟩]) (.seq (.region [⟨some 57,.load true 3 (.tmp 8),none⟩,⟨some 58,.call (.fn 50) [(.tmp 57)],none⟩,
 ⟨some 59,.un .not (.tmp 58),none⟩,⟨some 60,.mov (.tmp 59),none⟩,⟨some 61,.faddr 0 (.tmp 8),some (60,false)⟩,⟨some 62,.load false 1 (.tmp 61),some (60,false)⟩,⟨some 63,.bin .eql .no (.tmp 62) (.const (.str [66,69,71,73,78])),some (60,false)⟩,
 ⟨some 64,.pick (.tmp 60) (.const (.bool true)) (.tmp 63),none⟩,⟨some 65,.mov (.tmp 64),none⟩,⟨some 66,.faddr 0 (.tmp 8),some (65,false)⟩,⟨some 67,.load false 1 (.tmp 66),some (65,false)⟩,⟨some 68,.bin .eql .no (.tmp 67) (.const (.str [69,78,68])),some (65,false)⟩,
 ⟨some 69,.pick (.tmp 65) (.const (.bool true)) (.tmp 68),none⟩]) (.cond (.tmp 69) (.seq (.region [⟨some 6,.mov (.const (.bool false)),none⟩]) (.ret)) (.skip))))) (.region [⟨some 70,.bin .add .no (.tmp 53) (.const (.int .i64 1)),none⟩,
 ⟨some 53,.mov (.tmp 70),none⟩]))))))) (.seq (.seq (.region [⟨some 71,.faddr 2 (.tmp 4),none⟩,⟨some 72,.loadc false 1 (.tmp 71),none⟩,⟨some 73,.len false (.tmp 72),none⟩,⟨some 74,.mov (.const (.int .i64 0)),none⟩]) (.block 2 (.loop (.seq (.region [⟨some 75,.bin .lss .no (.tmp 74) (.tmp 73),none⟩]) (.seq (.cond (.tmp 75) (.skip) (.exit 2)) (.seq (.block 3 (.seq (.region [⟨some 76,.iaddr 3 (.tmp 72) (.tmp 74),none⟩,
 ⟨some 77,.load true 3 (.tmp 76),none⟩,⟨some 10,.alloc [.str [],.nils,.nils],none⟩,⟨none,.store 3 (.tmp 10) (.tmp 77),none⟩]) (.seq (.region [⟨some 78,.mov (.tmp 0),none⟩,⟨some 79,.load true 3 (.tmp 10),none⟩,
 ⟨some 80,.mov (.tmp 2),none⟩,⟨some 81,.bin .add .no (.tmp 80) (.const (.int .i64 1)),none⟩,⟨some 82,.call (.fn 341) [(.tmp 78),(.tmp 79),(.tmp 81)],none⟩,⟨some 83,.un .not (.tmp 82),none⟩]) (.cond (.tmp 83) (.seq (.region [⟨some 6,.mov (.const (.bool false)),none⟩]) (.ret)) (.skip))))) (.region [⟨some 84,.bin .add .no (.tmp 74) (.const (.int .i64 1)),none⟩,
 ⟨some 74,.mov (.tmp 84),none⟩]))))))) (.seq (.region [⟨some 6,.mov (.const (.bool true)),none⟩]) (.ret)))))))) }

def F_posthornref11_fits : ACFn := { nt := 55,results := [.tmp 2],body := (.seq (.region [⟨some 1,.boxc (.tmp 0),none⟩,⟨some 2,.mov (.const (.bool false)),none⟩]) (.seq (.seq (.region [⟨some 5,.faddr 0 (.tmp 1),none⟩,⟨some 6,.loadc false 1 (.tmp 5),none⟩,
 ⟨some 7,.call (.fn 67) [(.tmp 6)],none⟩,⟨some 8,.un .not (.tmp 7),none⟩]) (.cond (.tmp 8) (.seq (.region [⟨some 2,.mov (.const (.bool false)),none⟩]) (.ret)) (.skip))) (.seq (.seq (.region [⟨some 3,.mov (.const (.int .i64 0)),none⟩]) (.block 0 (.loop (.seq (.seq (.region [⟨some 9,.mov (.tmp 3),none⟩,
 ⟨some 10,.faddr 1 (.tmp 1),none⟩,⟨some 11,.loadc false 1 (.tmp 10),none⟩,⟨some 12,.len false (.tmp 11),none⟩,⟨some 13,.bin .lss .no (.tmp 9) (.tmp 12),none⟩]) (.cond (.tmp 13) (.skip) (.exit 0))) (.seq (.block 1 (.seq (.region [⟨some 16,.faddr 1 (.tmp 1),none⟩,
 ⟨some 17,.loadc false 1 (.tmp 16),none⟩,⟨some 18,.mov (.tmp 3),none⟩,⟨some 19,.iaddr 3 (.tmp 17) (.tmp 18),none⟩,⟨some 20,.load true 3 (.tmp 19),none⟩,⟨some 21,.call (.fn 51) [(.tmp 20)],none⟩,⟨some 22,.un .not (.tmp 21),none⟩,
 ⟨some 23,.mov (.tmp 22),none⟩,⟨some 24,.faddr 1 (.tmp 1),some (23,false)⟩,⟨some 25,.loadc false 1 (.tmp 24),some (23,false)⟩,⟨some 26,.mov (.tmp 3),some (23,false)⟩,⟨some 27,.iaddr 3 (.tmp 25) (.tmp 26),some (23,false)⟩,
 ⟨some 28,.faddr 0 (.tmp 27),some (23,false)⟩,⟨some 29,.load false 1 (.tmp 28),some (23,false)⟩,⟨some 30,.bin .eql .no (.tmp 29) (.const (.str [66,69,71,73,78])),some (23,false)⟩,⟨some 31,.pick (.tmp 23) (.const (.bool true)) (.tmp 30),none⟩,
 ⟨some 32,.mov (.tmp 31),none⟩,⟨some 33,.faddr 1 (.tmp 1),some (32,false)⟩,⟨some 34,.loadc false 1 (.tmp 33),some (32,false)⟩,⟨some 35,.mov (.tmp 3),some (32,false)⟩,⟨some 36,.iaddr 3 (.tmp 34) (.tmp 35),some (32,false)⟩,
 ⟨some 37,.faddr 0 (.tmp 36),some (32,false)⟩,⟨some 38,.load false 1 (.tmp 37),some (32,false)⟩,⟨some 39,.bin .eql .no (.tmp 38) (.const (.str [69,78,68])),some (32,false)⟩,⟨some 40,.pick (.tmp 32) (.const (.bool true)) (.tmp 39),none⟩]) (.cond (.tmp 40) (.seq (.region [⟨some 2,.mov (.const (.bool false)),none⟩]) (.ret)) (.skip)))) (.region [⟨some 14,.mov (.tmp 3),none⟩,
 ⟨some 15,.bin .add .no (.tmp 14) (.const (.int .i64 1)),none⟩,⟨some 3,.mov (.tmp 15),none⟩])))))) (.seq (.seq (.region [⟨some 4,.mov (.const (.int .i64 0)),none⟩]) (.block 2 (.loop (.seq (.seq (.region [⟨some 41,.mov (.tmp 4),none⟩,
 ⟨some 42,.faddr 2 (.tmp 1),none⟩,⟨some 43,.loadc false 1 (.tmp 42),none⟩,⟨some 44,.len false (.tmp 43),none⟩,⟨some 45,.bin .lss .no (.tmp 41) (.tmp 44),none⟩]) (.cond (.tmp 45) (.skip) (.exit 2))) (.seq (.block 3 (.seq (.region [⟨some 48,.faddr 2 (.tmp 1),none⟩,
 ⟨some 49,.loadc false 1 (.tmp 48),none⟩,⟨some 50,.mov (.tmp 4),none⟩,⟨some 51,.iaddr 3 (.tmp 49) (.tmp 50),none⟩,⟨some 52,.load true 3 (.tmp 51),none⟩,⟨some 53,.call (.fn 342) [(.tmp 52)],none⟩,⟨some 54,.un .not (.tmp 53),none⟩]) (.cond (.tmp 54) (.seq (.region [⟨some 2,.mov (.const (.bool false)),none⟩]) (.ret)) (.skip)))) (.region [⟨some 46,.mov (.tmp 4),none⟩,
 ⟨some 47,.bin .add .no (.tmp 46) (.const (.int .i64 1)),none⟩,⟨some 4,.mov (.tmp 47),none⟩])))))) (.seq (.region [⟨some 2,.mov (.const (.bool true)),none⟩]) (.ret)))))) }

def F_tree_read : ACFn := { nt := 98,results := [.cell 4 true 3,.tmp 5,.tmp 6],body := (.seq (.region [⟨some 4,.alloc [.str [],.nils,.nils],none⟩,⟨some 5,.mov (.const (.nils)),none⟩,⟨some 6,.mov (.const (.bool false)),none⟩]) (.scope (.seq (.seq (.region [⟨some 13,.mov (.tmp 1),none⟩,
 ⟨some 14,.bin .gtr .no (.tmp 13) (.const (.int .i64 8)),none⟩,⟨some 15,.mov (.tmp 14),none⟩,⟨some 16,.mov (.tmp 0),some (15,false)⟩,⟨some 17,.len false (.tmp 16),some (15,false)⟩,⟨some 18,.bin .eql .no (.tmp 17) (.const (.int .i64 0)),some (15,false)⟩,
 ⟨some 19,.pick (.tmp 15) (.const (.bool true)) (.tmp 18),none⟩,⟨some 20,.mov (.tmp 19),none⟩,⟨some 21,.mov (.tmp 0),some (20,false)⟩,⟨some 22,.iaddr 3 (.tmp 21) (.const (.int .i64 0)),some (20,false)⟩,
 ⟨some 23,.faddr 0 (.tmp 22),some (20,false)⟩,⟨some 24,.load false 1 (.tmp 23),some (20,false)⟩,⟨some 25,.bin .neq .no (.tmp 24) (.const (.str [66,69,71,73,78])),some (20,false)⟩,⟨some 26,.pick (.tmp 20) (.const (.bool true)) (.tmp 25),none⟩,
 ⟨some 27,.mov (.tmp 26),none⟩,⟨some 28,.mov (.tmp 0),some (27,false)⟩,⟨some 29,.iaddr 3 (.tmp 28) (.const (.int .i64 0)),some (27,false)⟩,⟨some 30,.faddr 1 (.tmp 29),some (27,false)⟩,⟨some 31,.load false 1 (.tmp 30),some (27,false)⟩,
 ⟨some 32,.len false (.tmp 31),some (27,false)⟩,⟨some 33,.bin .gtr .no (.tmp 32) (.const (.int .i64 0)),some (27,false)⟩,⟨some 34,.pick (.tmp 27) (.const (.bool true)) (.tmp 33),none⟩]) (.cond (.tmp 34) (.seq (.region [⟨some 35,.build [.str [],.nils,.nils] [],none⟩,
 ⟨none,.store 3 (.tmp 4) (.tmp 35),none⟩,⟨some 5,.mov (.const (.nils)),none⟩,⟨some 6,.mov (.const (.bool false)),none⟩]) (.ret)) (.skip))) (.seq (.region [⟨some 36,.mov (.tmp 0),none⟩,⟨some 37,.iaddr 3 (.tmp 36) (.const (.int .i64 0)),none⟩,
 ⟨some 38,.faddr 2 (.tmp 37),none⟩,⟨some 39,.load false 1 (.tmp 38),none⟩,⟨some 40,.callk (.fn 346) [(.tmp 39)],none⟩,⟨some 41,.build [.str [],.nils,.nils] [(0,1,(.tmp 40))],none⟩,⟨some 7,.alloc [.str [],.nils,.nils],none⟩,
 ⟨none,.store 3 (.tmp 7) (.tmp 41),none⟩]) (.seq (.region [⟨some 42,.mov (.tmp 0),none⟩,⟨some 43,.slc 3 (.tmp 42) (some (.const (.int .i64 1))) none none,none⟩,⟨some 0,.mov (.tmp 43),none⟩]) (.seq (.region [⟨some 8,.mov (.const (.bool false)),none⟩]) (.seq (.label 0) (.seq (.block 0 (.loop (.seq (.seq (.region [⟨some 44,.mov (.tmp 0),none⟩,
 ⟨some 45,.len false (.tmp 44),none⟩,⟨some 46,.bin .gtr .no (.tmp 45) (.const (.int .i64 0)),none⟩]) (.cond (.tmp 46) (.skip) (.exit 0))) (.block 1 (.seq (.region [⟨some 47,.mov (.tmp 0),none⟩,⟨some 48,.iaddr 3 (.tmp 47) (.const (.int .i64 0)),none⟩,
 ⟨some 49,.load true 3 (.tmp 48),none⟩,⟨some 9,.alloc [.str [],.nils,.str []],none⟩,⟨none,.store 3 (.tmp 9) (.tmp 49),none⟩]) (.seq (.region [⟨some 50,.faddr 0 (.tmp 9),none⟩,⟨some 51,.load false 1 (.tmp 50),none⟩]) (.block 2 (.seq (.region [⟨some 61,.bin .eql .no (.tmp 51) (.const (.str [66,69,71,73,78])),none⟩,
 ⟨some 60,.mov (.tmp 61),none⟩]) (.cond (.tmp 60) (.seq (.region [⟨some 63,.mov (.tmp 0),none⟩,⟨some 64,.mov (.tmp 1),none⟩,⟨some 65,.bin .add .no (.tmp 64) (.const (.int .i64 1)),none⟩,⟨some 66,.call (.fn 343) [(.tmp 63),(.tmp 65)],none⟩,
 ⟨some 62,.mov (.tmp 66),none⟩,⟨some 67,.ext 0 (.tmp 62),none⟩,⟨some 68,.ext 1 (.tmp 62),none⟩,⟨some 69,.ext 2 (.tmp 62),none⟩,⟨some 10,.alloc [.str [],.nils,.nils],none⟩,⟨none,.store 3 (.tmp 10) (.tmp 67),none⟩,
 ⟨some 11,.mov (.tmp 68),none⟩,⟨some 12,.mov (.tmp 69),none⟩]) (.seq (.seq (.region [⟨some 70,.mov (.tmp 12),none⟩,⟨some 71,.un .not (.tmp 70),none⟩]) (.cond (.tmp 71) (.exit 0) (.skip))) (.region [⟨some 72,.faddr 2 (.tmp 7),none⟩,
 ⟨some 73,.load false 1 (.tmp 72),none⟩,⟨some 74,.load true 3 (.tmp 10),none⟩,⟨some 75,.lit 3 (.agg [.str [],.nils,.nils]) 1 [(0,(.tmp 74))],none⟩,⟨some 76,.app false 3 (.tmp 73) (.tmp 75),none⟩,⟨some 77,.mov (.tmp 11),none⟩,
 ⟨some 78,.faddr 2 (.tmp 7),none⟩,⟨none,.store 1 (.tmp 78) (.tmp 76),none⟩,⟨some 0,.mov (.tmp 77),none⟩]))) (.seq (.region [⟨some 80,.bin .eql .no (.tmp 51) (.const (.str [69,78,68])),none⟩,⟨some 79,.mov (.tmp 80),none⟩]) (.cond (.tmp 79) (.seq (.region [⟨some 81,.faddr 1 (.tmp 9),none⟩,
 ⟨some 82,.load false 1 (.tmp 81),none⟩,⟨some 83,.len false (.tmp 82),none⟩,⟨some 84,.bin .eql .no (.tmp 83) (.const (.int .i64 0)),none⟩,⟨some 85,.mov (.tmp 84),none⟩,⟨some 86,.faddr 2 (.tmp 9),some (85,true)⟩,
 ⟨some 87,.load false 1 (.tmp 86),some (85,true)⟩,⟨some 88,.callk (.fn 346) [(.tmp 87)],some (85,true)⟩,⟨some 89,.faddr 0 (.tmp 7),some (85,true)⟩,⟨some 90,.load false 1 (.tmp 89),some (85,true)⟩,⟨some 91,.bin .eql .no (.tmp 88) (.tmp 90),some (85,true)⟩,
 ⟨some 92,.pick (.tmp 85) (.tmp 91) (.const (.bool false)),none⟩,⟨some 8,.mov (.tmp 92),none⟩]) (.seq (.region [⟨some 93,.mov (.tmp 0),none⟩,⟨some 94,.slc 3 (.tmp 93) (some (.const (.int .i64 1))) none none,none⟩,
 ⟨some 0,.mov (.tmp 94),none⟩]) (.exit 0))) (.region [⟨some 52,.faddr 1 (.tmp 7),none⟩,⟨some 53,.load false 1 (.tmp 52),none⟩,⟨some 54,.load true 3 (.tmp 9),none⟩,⟨some 55,.lit 3 (.agg [.str [],.nils,.str []]) 1 [(0,(.tmp 54))],none⟩,
 ⟨some 56,.app false 3 (.tmp 53) (.tmp 55),none⟩,⟨some 57,.mov (.tmp 0),none⟩,⟨some 58,.slc 3 (.tmp 57) (some (.const (.int .i64 1))) none none,none⟩,⟨some 59,.faddr 1 (.tmp 7),none⟩,⟨none,.store 1 (.tmp 59) (.tmp 56),none⟩,
 ⟨some 0,.mov (.tmp 58),none⟩])))))))))))) (.seq (.region [⟨some 95,.load true 3 (.tmp 7),none⟩,⟨some 96,.mov (.tmp 0),none⟩,⟨some 97,.mov (.tmp 8),none⟩,⟨none,.store 3 (.tmp 4) (.tmp 95),none⟩,⟨some 5,.mov (.tmp 96),none⟩,
 ⟨some 6,.mov (.tmp 97),none⟩]) (.ret)))))))))) }

def F_tree_isName : ACFn := { nt := 6,results := [.tmp 2],body := (.seq (.region [⟨some 2,.mov (.const (.bool false)),none⟩]) (.seq (.region [⟨some 3,.mov (.tmp 0),none⟩,⟨some 4,.build [.str [],.nils,.str []] [(0,1,(.tmp 3))],none⟩,
 ⟨some 5,.call (.fn 50) [(.tmp 4)],none⟩,⟨some 2,.mov (.tmp 5),none⟩]) (.ret))) }

def F_tree_upper : ACFn := { nt := 29,results := [.tmp 2],body := (.seq (.region [⟨some 2,.mov (.const (.str [])),none⟩]) (.seq (.region [⟨some 6,.mov (.tmp 0),none⟩,⟨some 7,.cS2B true (.tmp 6),none⟩,⟨some 3,.mov (.tmp 7),none⟩]) (.seq (.seq (.region [⟨some 8,.mov (.tmp 3),none⟩,
 ⟨some 9,.len false (.tmp 8),none⟩,⟨some 10,.mov (.const (.int .i64 0)),none⟩]) (.block 0 (.loop (.seq (.region [⟨some 11,.bin .lss .no (.tmp 10) (.tmp 9),none⟩]) (.seq (.cond (.tmp 11) (.skip) (.exit 0)) (.seq (.block 1 (.seq (.region [⟨some 12,.mov (.tmp 10),none⟩,
 ⟨some 13,.iaddr 1 (.tmp 8) (.tmp 10),none⟩,⟨some 14,.load false 1 (.tmp 13),none⟩,⟨some 4,.mov (.tmp 12),none⟩,⟨some 5,.mov (.tmp 14),none⟩]) (.seq (.region [⟨some 15,.mov (.tmp 5),none⟩,⟨some 16,.bin .geq .no (.tmp 15) (.const (.b8 97)),none⟩,
 ⟨some 17,.mov (.tmp 16),none⟩,⟨some 18,.mov (.tmp 5),some (17,true)⟩,⟨some 19,.bin .leq .no (.tmp 18) (.const (.b8 122)),some (17,true)⟩,⟨some 20,.pick (.tmp 17) (.tmp 19) (.const (.bool false)),none⟩]) (.cond (.tmp 20) (.region [⟨some 21,.mov (.tmp 3),none⟩,
 ⟨some 22,.mov (.tmp 4),none⟩,⟨some 23,.mov (.tmp 5),none⟩,⟨some 24,.bin .sub .no (.tmp 23) (.const (.b8 32)),none⟩,⟨some 25,.iaddr 1 (.tmp 21) (.tmp 22),none⟩,⟨none,.store 1 (.tmp 25) (.tmp 24),none⟩]) (.skip))))) (.region [⟨some 26,.bin .add .no (.tmp 10) (.const (.int .i64 1)),none⟩,
 ⟨some 10,.mov (.tmp 26),none⟩]))))))) (.seq (.region [⟨some 27,.mov (.tmp 3),none⟩,⟨some 28,.cB2S true (.tmp 27),none⟩,⟨some 2,.mov (.tmp 28),none⟩]) (.ret))))) }

end Go.Ab
/-
  The abstract program: functions by their numbers.
-/
namespace Go.Ab
def prog : AP := fun n => (if n < 82 then (if n < 66 then (if n < 55 then (if n < 49 then (if n < 47 then (if n = 32 then some (.prim pBytesIndex) else none)
  else (if n < 48 then (if n = 47 then some (.code F_posthornlaw10_Great) else none)
  else (if n = 48 then some (.code F_sheet_Write) else none)))
  else (if n < 51 then (if n < 50 then (if n = 49 then some (.code F_posthornref10_Write) else none)
  else (if n = 50 then some (.code F_sheet_Right) else none))
  else (if n < 53 then (if n = 51 then some (.code F_posthornref10_Right) else none)
  else (if n = 53 then some (.code F_utf_Valid) else none))))
  else (if n < 62 then (if n < 60 then (if n < 56 then (if n = 55 then some (.code F_sheet_One) else none)
  else (if n = 56 then some (.code F_posthornref04_Has) else none))
  else (if n < 61 then (if n = 60 then some (.code F_sheet_line) else none)
  else (if n = 61 then some (.code F_utf_Cut) else none)))
  else (if n < 64 then (if n < 63 then (if n = 62 then some (.code F_posthornref10_Plain) else none)
  else (if n = 63 then some (.code F_posthornref02_Cut) else none))
  else (if n < 65 then (if n = 64 then some (.code F_sheet_isName) else none)
  else (if n = 65 then some (.code F_sheet_isText) else none)))))
  else (if n < 74 then (if n < 69 then (if n < 67 then (if n = 66 then some (.code F_strings_Contains) else none)
  else (if n < 68 then (if n = 67 then some (.code F_posthornref10_Name) else none)
  else (if n = 68 then some (.code F_posthornref10_Text) else none)))
  else (if n < 71 then (if n < 70 then (if n = 69 then some (.code F_utf_Points) else none)
  else (if n = 70 then some (.code F_sheet_cut) else none))
  else (if n < 72 then (if n = 71 then some (.code F_sheet_upper) else none)
  else (if n = 72 then some (.code F_strings_HasPrefix) else none))))
  else (if n < 78 then (if n < 76 then (if n < 75 then (if n = 74 then some (.code F_posthornref02_Valid) else none)
  else (if n = 75 then some (.code F_posthornref02_Next) else none))
  else (if n < 77 then (if n = 76 then some (.code F_strings_Index) else none)
  else (if n = 77 then some (.code F_utf_Next) else none)))
  else (if n < 80 then (if n < 79 then (if n = 78 then some (.prim pStrIndexByte) else none)
  else (if n = 79 then some (.code F_internal_stringslite_HasPrefix) else none))
  else (if n < 81 then (if n = 80 then some (.code F_posthornref02_Points) else none)
  else (if n = 81 then some (.code F_posthornref02_Put) else none))))))
  else (if n < 319 then (if n < 102 then (if n < 89 then (if n < 83 then (if n = 82 then some (.prim pStrIndex) else none)
  else (if n < 85 then (if n = 83 then some (.code F_utf_isPoint) else none)
  else (if n = 85 then some (.code F_posthornref02_Point) else none)))
  else (if n < 97 then (if n < 96 then (if n = 89 then some (.code F_sheet_Read) else none)
  else (if n = 96 then some (.code F_sheet_unfold) else none))
  else (if n < 101 then (if n = 97 then some (.code F_sheet_lines) else none)
  else (if n = 101 then some (.code F_bytes_ReplaceAll) else none))))
  else (if n < 108 then (if n < 104 then (if n < 103 then (if n = 102 then some (.code F_sheet_lines_c1) else none)
  else (if n = 103 then some (.code F_bytes_Replace) else none))
  else (if n < 105 then (if n = 104 then some (.code F_bytes_Count) else none)
  else (if n = 105 then some (.code F_unicode_utf8_RuneCount) else none)))
  else (if n < 317 then (if n < 316 then (if n = 108 then some (.code F_unicode_utf8_DecodeRune) else none)
  else (if n = 316 then some (.code F_posthornlaw11_Great) else none))
  else (if n < 318 then (if n = 317 then some (.code F_posthornlaw11_few) else none)
  else (if n = 318 then some (.code F_posthornlaw11_alive) else none)))))
  else (if n < 337 then (if n < 323 then (if n < 321 then (if n < 320 then (if n = 319 then some (.code F_tree_Write) else none)
  else (if n = 320 then some (.code F_posthornref11_Write) else none))
  else (if n < 322 then (if n = 321 then some (.code F_tree_Right) else none)
  else (if n = 322 then some (.code F_posthornref11_Right) else none)))
  else (if n < 330 then (if n < 324 then (if n = 323 then some (.code F_posthornlaw11_TreeWrites) else none)
  else (if n = 324 then some (.code F_tree_Read) else none))
  else (if n < 332 then (if n = 330 then some (.code F_tree_Get) else none)
  else (if n = 332 then some (.code F_tree_All) else none))))
  else (if n < 342 then (if n < 340 then (if n < 339 then (if n = 337 then some (.code F_posthornref11_Count) else none)
  else (if n = 339 then some (.code F_tree_lines) else none))
  else (if n < 341 then (if n = 340 then some (.code F_posthornref11_Lines) else none)
  else (if n = 341 then some (.code F_P_tree_meter_right) else none)))
  else (if n < 345 then (if n < 343 then (if n = 342 then some (.code F_posthornref11_fits) else none)
  else (if n = 343 then some (.code F_tree_read) else none))
  else (if n < 346 then (if n = 345 then some (.code F_tree_isName) else none)
  else (if n = 346 then some (.code F_tree_upper) else none)))))))
theorem prog_32 : prog 32 = some (.prim pBytesIndex) := rfl
theorem prog_47 : prog 47 = some (.code F_posthornlaw10_Great) := rfl
theorem prog_48 : prog 48 = some (.code F_sheet_Write) := rfl
theorem prog_49 : prog 49 = some (.code F_posthornref10_Write) := rfl
theorem prog_50 : prog 50 = some (.code F_sheet_Right) := rfl
theorem prog_51 : prog 51 = some (.code F_posthornref10_Right) := rfl
theorem prog_53 : prog 53 = some (.code F_utf_Valid) := rfl
theorem prog_55 : prog 55 = some (.code F_sheet_One) := rfl
theorem prog_56 : prog 56 = some (.code F_posthornref04_Has) := rfl
theorem prog_60 : prog 60 = some (.code F_sheet_line) := rfl
theorem prog_61 : prog 61 = some (.code F_utf_Cut) := rfl
theorem prog_62 : prog 62 = some (.code F_posthornref10_Plain) := rfl
theorem prog_63 : prog 63 = some (.code F_posthornref02_Cut) := rfl
theorem prog_64 : prog 64 = some (.code F_sheet_isName) := rfl
theorem prog_65 : prog 65 = some (.code F_sheet_isText) := rfl
theorem prog_66 : prog 66 = some (.code F_strings_Contains) := rfl
theorem prog_67 : prog 67 = some (.code F_posthornref10_Name) := rfl
theorem prog_68 : prog 68 = some (.code F_posthornref10_Text) := rfl
theorem prog_69 : prog 69 = some (.code F_utf_Points) := rfl
theorem prog_70 : prog 70 = some (.code F_sheet_cut) := rfl
theorem prog_71 : prog 71 = some (.code F_sheet_upper) := rfl
theorem prog_72 : prog 72 = some (.code F_strings_HasPrefix) := rfl
theorem prog_74 : prog 74 = some (.code F_posthornref02_Valid) := rfl
theorem prog_75 : prog 75 = some (.code F_posthornref02_Next) := rfl
theorem prog_76 : prog 76 = some (.code F_strings_Index) := rfl
theorem prog_77 : prog 77 = some (.code F_utf_Next) := rfl
theorem prog_78 : prog 78 = some (.prim pStrIndexByte) := rfl
theorem prog_79 : prog 79 = some (.code F_internal_stringslite_HasPrefix) := rfl
theorem prog_80 : prog 80 = some (.code F_posthornref02_Points) := rfl
theorem prog_81 : prog 81 = some (.code F_posthornref02_Put) := rfl
theorem prog_82 : prog 82 = some (.prim pStrIndex) := rfl
theorem prog_83 : prog 83 = some (.code F_utf_isPoint) := rfl
theorem prog_85 : prog 85 = some (.code F_posthornref02_Point) := rfl
theorem prog_89 : prog 89 = some (.code F_sheet_Read) := rfl
theorem prog_96 : prog 96 = some (.code F_sheet_unfold) := rfl
theorem prog_97 : prog 97 = some (.code F_sheet_lines) := rfl
theorem prog_101 : prog 101 = some (.code F_bytes_ReplaceAll) := rfl
theorem prog_102 : prog 102 = some (.code F_sheet_lines_c1) := rfl
theorem prog_103 : prog 103 = some (.code F_bytes_Replace) := rfl
theorem prog_104 : prog 104 = some (.code F_bytes_Count) := rfl
theorem prog_105 : prog 105 = some (.code F_unicode_utf8_RuneCount) := rfl
theorem prog_108 : prog 108 = some (.code F_unicode_utf8_DecodeRune) := rfl
theorem prog_316 : prog 316 = some (.code F_posthornlaw11_Great) := rfl
theorem prog_317 : prog 317 = some (.code F_posthornlaw11_few) := rfl
theorem prog_318 : prog 318 = some (.code F_posthornlaw11_alive) := rfl
theorem prog_319 : prog 319 = some (.code F_tree_Write) := rfl
theorem prog_320 : prog 320 = some (.code F_posthornref11_Write) := rfl
theorem prog_321 : prog 321 = some (.code F_tree_Right) := rfl
theorem prog_322 : prog 322 = some (.code F_posthornref11_Right) := rfl
theorem prog_323 : prog 323 = some (.code F_posthornlaw11_TreeWrites) := rfl
theorem prog_324 : prog 324 = some (.code F_tree_Read) := rfl
theorem prog_330 : prog 330 = some (.code F_tree_Get) := rfl
theorem prog_332 : prog 332 = some (.code F_tree_All) := rfl
theorem prog_337 : prog 337 = some (.code F_posthornref11_Count) := rfl
theorem prog_339 : prog 339 = some (.code F_tree_lines) := rfl
theorem prog_340 : prog 340 = some (.code F_posthornref11_Lines) := rfl
theorem prog_341 : prog 341 = some (.code F_P_tree_meter_right) := rfl
theorem prog_342 : prog 342 = some (.code F_posthornref11_fits) := rfl
theorem prog_343 : prog 343 = some (.code F_tree_read) := rfl
theorem prog_345 : prog 345 = some (.code F_tree_isName) := rfl
theorem prog_346 : prog 346 = some (.code F_tree_upper) := rfl
end Go.Ab
/-
  Slices that grow: what a function has made itself.
-/
namespace Go.Ab

structure GrewAt (B : List (List PV)) (T : List Bool) (L : List LoopS) (lo : Nat) (s : St) : Prop where
  bx : s.boxes = B
  lp : s.loops = L
  lw : s.low = lo
  tk : s.toks.take T.length = T
abbrev Grew (st s : St) : Prop := GrewAt st.boxes st.toks st.loops st.boxes.length s

variable {B : List (List PV)} {T : List Bool} {L : List LoopS} {lo : Nat}
theorem GrewAt.len {s : St} (h : GrewAt B T L lo s) : T.length ≤ s.toks.length := by
  have := congrArg List.length h.tk
  simp at this; omega
theorem Grew.start {st : St} : Grew st { boxes := st.boxes, toks := st.toks, loops := st.loops, low := st.boxes.length } := ⟨rfl, rfl, rfl, by simp⟩
theorem GrewAt.start {ts : List Bool} : GrewAt B T L lo ⟨B, T ++ ts, L, lo⟩ := ⟨rfl, rfl, rfl, by simp⟩
def St.tok1 (s : St) : St := { s with toks := s.toks ++ [true] }
theorem GrewAt.tok1 {s : St} (h : GrewAt B T L lo s) : GrewAt B T L lo s.tok1 := ⟨h.bx, h.lp, h.lw, by
  show (s.toks ++ [true]).take T.length = T
  rw [List.take_append_of_le_length h.len]; exact h.tk⟩

def Own (st s : St) (esz : Nat) (v : PV) (xs : List PV) : Prop := (v = .nils ∧ xs = []) ∨ ∃ i, v = .sl esz (.own i) xs ∧ st.toks.length ≤ i ∧ s.toks[i]? = some true
def OwnB (st s : St) (v : PV) (l : List UInt8) : Prop := (v = .nils ∧ l = []) ∨ ∃ i, v = .bys (.own i) l ∧ st.toks.length ≤ i ∧ s.toks[i]? = some true

theorem Own.tok1 {st s : St} {esz : Nat} {v : PV} {xs : List PV} (h : Own st s esz v xs) : Own st s.tok1 esz v xs := by
  rcases h with h | ⟨i, h1, h2, h3⟩
  · exact .inl h
  · exact .inr ⟨i, h1, h2, by show (s.toks ++ [true])[i]? = some true; rw [List.getElem?_append_left (List.getElem?_eq_some_iff.1 h3).1]; exact h3⟩
theorem OwnB.tok1 {st s : St} {v : PV} {l : List UInt8} (h : OwnB st s v l) : OwnB st s.tok1 v l := by
  rcases h with h | ⟨i, h1, h2, h3⟩
  · exact .inl h
  · exact .inr ⟨i, h1, h2, by show (s.toks ++ [true])[i]? = some true; rw [List.getElem?_append_left (List.getElem?_eq_some_iff.1 h3).1]; exact h3⟩
theorem OwnB.by {st s : St} {v : PV} {l : List UInt8} (h : OwnB st s v l) : v.by = some l := by
  rcases h with ⟨rfl, rfl⟩ | ⟨i, rfl, _, _⟩ <;> rfl

def appS (s : St) (v : PV) : St := match v with
  | .sl _ (.own i) _ => { s with toks := s.toks.set i false ++ [true] }
  | .bys (.own i) _ => { s with toks := s.toks.set i false ++ [true] }
  | _ => s.tok1
theorem appV_own {st s : St} {esz : Nat} {v u : PV} {xs : List PV} {t : Tok} (h : Own st s esz v xs) (hl : xs.length + 1 ≤ room) :
    appV esz s v (.sl esz t [u]) = some (.sl esz (.own s.toks.length) (xs ++ [u]), appS s v) := by
  rcases h with ⟨rfl, rfl⟩ | ⟨i, rfl, h2, h3⟩
  · simp [appV, srcV, freshT, room, appS, St.tok1]
  · simp [appV, srcV, freshT, appTok, appS, h3, hl]
theorem Own.app {st s : St} {esz : Nat} {v : PV} {xs ys : List PV} (hg : GrewAt B st.toks L lo s) (h : Own st s esz v xs) : GrewAt B st.toks L lo (appS s v) ∧ Own st (appS s v) esz (.sl esz (.own s.toks.length) ys) ys := by
  have hlen := hg.len
  rcases h with ⟨rfl, rfl⟩ | ⟨i, rfl, h2, h3⟩
  · refine ⟨hg.tok1, .inr ⟨_, rfl, hlen, ?_⟩⟩
    simp [appS, St.tok1]
  · refine ⟨⟨hg.bx, hg.lp, hg.lw, ?_⟩, .inr ⟨_, rfl, hlen, ?_⟩⟩
    · show (s.toks.set i false ++ [true]).take st.toks.length = st.toks
      rw [List.take_append_of_le_length (by simpa using hlen), List.take_set_of_le h2]; exact hg.tk
    · show (s.toks.set i false ++ [true])[s.toks.length]? = some true
      rw [List.getElem?_append_right (by simp)]; simp
theorem OwnB.app {st s : St} {v : PV} {l m : List UInt8} (hg : GrewAt B st.toks L lo s) (h : OwnB st s v l) : GrewAt B st.toks L lo (appS s v) ∧ OwnB st (appS s v) (.bys (.own s.toks.length) m) m := by
  have hlen := hg.len
  rcases h with ⟨rfl, rfl⟩ | ⟨i, rfl, h2, h3⟩
  · refine ⟨hg.tok1, .inr ⟨_, rfl, hlen, ?_⟩⟩
    simp [appS, St.tok1]
  · refine ⟨⟨hg.bx, hg.lp, hg.lw, ?_⟩, .inr ⟨_, rfl, hlen, ?_⟩⟩
    · show (s.toks.set i false ++ [true]).take st.toks.length = st.toks
      rw [List.take_append_of_le_length (by simpa using hlen), List.take_set_of_le h2]; exact hg.tk
    · show (s.toks.set i false ++ [true])[s.toks.length]? = some true
      rw [List.getElem?_append_right (by simp)]; simp

theorem GrewAt.loops {s : St} {L' : List LoopS} (h : GrewAt B T L lo s) : GrewAt B T L' lo { s with loops := L' } := ⟨h.bx, rfl, h.lw, h.tk⟩
theorem OwnB.loops {st s : St} {v : PV} {l : List UInt8} {L' : List LoopS} (h : OwnB st s v l) : OwnB st { s with loops := L' } v l := h
def newSl (st : St) (esz : Nat) (xs : List PV) : PV := if xs = [] then .nils else .sl esz (.own st.toks.length) xs
def newS (st : St) (b : Bool) : St := if b then st else st.tok1
theorem lit1 {esz : Nat} {v u z : PV} (h : strip v = some u) (hc : u.cells.length = esz) : litFill esz (List.replicate 1 z) [(0, v)] = some [u] := by
  simp [litFill, h, hc]
theorem freshT_eq {s : St} : freshT s = (.own s.toks.length, s.tok1) := rfl
def Leaf (v : PV) : Prop := v.cells = [v] ∧ leafOk v = true
end Go.Ab
/-
  Ranges over functions; memory that grows.
-/
namespace Go.Ab
variable {A : AP} {st : St} {e : Env}

theorem get_app0 {α : Type} {l r : List α} {a : α} : (l ++ a :: r)[l.length]? = some a := by simp
theorem set_app {α : Type} {l r : List α} {k : Nat} {v : α} : (l ++ r).set (l.length + k) v = l ++ r.set k v := by
  rw [List.set_append_right _ _ (by omega)]; congr 2; omega
theorem set_app0 {α : Type} {l r : List α} {a v : α} : (l ++ a :: r).set l.length v = l ++ v :: r := by
  have := set_app (l := l) (r := a :: r) (k := 0) (v := v)
  simp only [Nat.add_zero, List.set_cons_zero] at this; exact this

def PV.vs (esz : Nat) : PV → Option (List PV)
  | .nils => some []
  | .sl e _ xs => if e = esz then some xs else none
  | _ => none
theorem vs_cases {esz : Nat} {x : PV} {xs : List PV} (h : x.vs esz = some xs) : (x = .nils ∧ xs = []) ∨ ∃ t, x = .sl esz t xs := by
  cases x <;> simp [PV.vs] at h
  · exact .inl ⟨rfl, h⟩
  · obtain ⟨rfl, rfl⟩ := h; exact .inr ⟨_, rfl⟩
theorem len_vs {esz : Nat} {x : PV} {xs : List PV} (h : x.vs esz = some xs) : lenPV false x = some (.int .i64 (xs.length : Int)) := by
  rcases vs_cases h with ⟨rfl, rfl⟩ | ⟨t, rfl⟩ <;> rfl
theorem iaddr_vs {esz : Nat} {x : PV} {xs : List PV} {k : IntKind} {c : Int} (h : x.vs esz = some xs) (h1 : 0 ≤ c) (h2 : c.toNat < xs.length) : iaddrPV esz x (.int k c) = some (.cp (xs.getD c.toNat .undef).cells) := by
  rcases vs_cases h with ⟨rfl, rfl⟩ | ⟨t, rfl⟩
  · simp at h2
  · simp [iaddrPV, intOf, h1, show c < xs.length by omega]
end Go.Ab
/-
  Cuts in code; slices that live on in boxes.
-/
namespace Go.Ab
variable {A : AP} {st : St} {e : Env}

theorem W_cut {a b : ACode} {Q : Ex → Env → St → Prop} (M : Env → St → Prop) (h1 : W A a e st (fun x e' s' => x = .normal ∧ M e' s')) (h2 : ∀ e' s', M e' s' → W A b e' s' Q) : W A (.seq a b) e st Q := by
  rw [qaaz]
  refine W_mono h1 ?_
  rintro x e s ⟨rfl, h⟩
  exact h2 e s h

theorem law_of_W {f k : Nat} {args : List PV} {fn : ACFn} (hA : A f = some (.code fn)) (hr : fn.results = [.tmp k])
    (h : W A fn.body (env0 args) { st with low := st.boxes.length } (fun x e _ => (x = .normal ∨ x = .ret) ∧ e k = .bool true)) : ∃ s', call A (.fn f []) args st = some (.bool true, s') := by
  obtain ⟨⟨x, e1, st1⟩, h1, h2, h3⟩ := h
  simp only at h2 h3
  have hl : ∃ s', leave st st1 (.bool true) = (.bool true, s') := by
    unfold leave
    simp only [PV.inB, if_true]
    split
    · exact ⟨_, rfl⟩
    · exact ⟨_, rfl⟩
  obtain ⟨s', hl⟩ := hl
  refine ⟨s', ?_⟩
  have hres : resOf e1 st1 fn.results = some (.bool true) := by rw [hr]; simp [resOf, rvAll, rv1, h3, notTup, packRes]
  refine call_of_W hA ⟨(x, e1, st1), by rw [List.append_nil]; exact h1, h2, .bool true, hres, hl⟩

def Live (s : St) (v : PV) (l : List UInt8) : Prop := (v = .nils ∧ l = []) ∨ ∃ i, v = .bys (.own i) l ∧ s.toks[i]? = some true
theorem Live.by {s : St} {v : PV} {l : List UInt8} (h : Live s v l) : v.by = some l := by
  rcases h with ⟨rfl, rfl⟩ | ⟨i, rfl, _⟩ <;> rfl
theorem Live.lt {s : St} {v : PV} {l : List UInt8} (h : Live s v l) {i : Nat} (hi : tokOf v = some i) : i < s.toks.length ∧ s.toks[i]? = some true := by
  rcases h with ⟨rfl, rfl⟩ | ⟨j, rfl, hj⟩
  · cases hi
  · simp only [tokOf, Option.some.injEq] at hi
    subst hi
    exact ⟨(List.getElem?_eq_some_iff.1 hj).1, hj⟩
theorem Live.tokLt {s : St} {v : PV} {l : List UInt8} (h : Live s v l) : v.tokLt s.toks.length = true := by
  rcases h with ⟨rfl, rfl⟩ | ⟨j, rfl, hj⟩
  · rfl
  · simp [PV.tokLt, Tok.lt, (List.getElem?_eq_some_iff.1 hj).1]
theorem Live.move {s s' : St} {v : PV} {l : List UInt8} (h : Live s v l) (ht : ∀ i, tokOf v = some i → s'.toks[i]? = s.toks[i]?) : Live s' v l := by
  rcases h with h | ⟨j, rfl, hj⟩
  · exact .inl h
  · exact .inr ⟨j, rfl, by rw [ht j rfl]; exact hj⟩
theorem Live.tok1 {s : St} {v : PV} {l : List UInt8} (h : Live s v l) : Live s.tok1 v l := h.move fun i hi => by
  show (s.toks ++ [true])[i]? = _
  rw [List.getElem?_append_left (h.lt hi).1]

theorem app8_live {s : St} {v y : PV} {l m : List UInt8} (h : Live s v l) (hy : src8 s y = some m) (hl : l.length + m.length ≤ room) :
    ∃ v' s', app8 s v y = some (v', s') ∧ s'.boxes = s.boxes ∧ s'.loops = s.loops ∧ s'.low = s.low ∧ Live s' v' (l ++ m) ∧ s.toks.length ≤ s'.toks.length ∧
      (∀ i, i < s.toks.length → tokOf v ≠ some i → s'.toks[i]? = s.toks[i]?) ∧ (∀ i, tokOf v' = some i → (tokOf v = some i ∧ s' = s) ∨ s.toks.length ≤ i) ∧ (m ≠ [] → tokOf v' = some s.toks.length) := by
  by_cases hm : m = []
  · subst hm
    refine ⟨v, s, ?_, rfl, rfl, rfl, by simpa using h, Nat.le_refl _, fun _ _ _ => rfl, fun i hi => .inl ⟨hi, rfl⟩, fun h => absurd rfl h⟩
    rcases h with ⟨rfl, rfl⟩ | ⟨j, rfl, hj⟩ <;> simp [app8, hy]
  · rcases h with ⟨rfl, rfl⟩ | ⟨j, rfl, hj⟩
    · simp at hl
      refine ⟨.bys (.own s.toks.length) m, s.tok1, by simp [app8, hy, hm, freshT, hl, St.tok1], rfl, rfl, rfl, .inr ⟨_, rfl, by simp [St.tok1]⟩, by simp [St.tok1], fun i hi _ => ?_, fun i hi => .inr ?_, fun _ => rfl⟩
      · show (s.toks ++ [true])[i]? = _
        rw [List.getElem?_append_left hi]
      · simp only [tokOf, Option.some.injEq] at hi; omega
    · refine ⟨.bys (.own s.toks.length) (l ++ m), ⟨s.boxes, s.toks.set j false ++ [true], s.loops, s.low⟩, by simp [app8, hy, hm, freshT, appTok, hj, hl], rfl, rfl, rfl, .inr ⟨_, rfl, by simp []⟩, by simp, fun i hi hne => ?_, fun i hi => .inr ?_, fun _ => rfl⟩
      · show (s.toks.set j false ++ [true])[i]? = _
        rw [List.getElem?_append_left (by simpa using hi), List.getElem?_set_ne (fun h => hne (by rw [h]; rfl))]
      · simp only [tokOf, Option.some.injEq] at hi; omega
end Go.Ab
namespace Go.Ab
variable {A : AP} {st : St} {e : Env}
end Go.Ab
/-
  strings.Builder: what is written, and its text.
-/
namespace Go.Ab
variable {P : St → Prop} {st : St} {e : Env} {s s' : St} {b : Nat} {x : PV} {l : List UInt8}

structure Bu (s : St) (b : Nat) (x : PV) (l : List UInt8) : Prop where
  bx : s.boxes[b]? = some [.bslot, x] ∨ s.boxes[b]? = some [.ptr b 0, x]
  lv : Live s x l

structure BuStep (s s' : St) (b : Nat) (x x' : PV) (l' : List UInt8) : Prop where
  bx : s'.boxes = s.boxes.set b [.ptr b 0, x']
  lv : Live s' x' l'
  lp : s'.loops = s.loops
  tl : s.toks.length ≤ s'.toks.length
  tk : ∀ i, i < s.toks.length → tokOf x ≠ some i → s'.toks[i]? = s.toks[i]?
  tn : ∀ i, tokOf x' = some i → tokOf x = some i ∨ s.toks.length ≤ i
  lw : min s.low b ≤ s'.low

theorem Bu.lt (h : Bu s b x l) : b < s.boxes.length := by
  rcases h.bx with h | h <;> exact (List.getElem?_eq_some_iff.1 h).1
structure Kept (st s : St) : Prop where
  bx : s.boxes.take st.boxes.length = st.boxes
  lp : s.loops = st.loops
  lw : st.boxes.length ≤ s.low
  tk : s.toks.take st.toks.length = st.toks

theorem Kept.start : Kept st { boxes := st.boxes, toks := st.toks, loops := st.loops, low := st.boxes.length } := ⟨by simp, rfl, Nat.le_refl _, by simp⟩
theorem Kept.bl (h : Kept st s) : st.boxes.length ≤ s.boxes.length := by
  have := congrArg List.length h.bx
  simp at this; omega
theorem Kept.tl (h : Kept st s) : st.toks.length ≤ s.toks.length := by
  have := congrArg List.length h.tk
  simp at this; omega
theorem Kept.get (h : Kept st s) {i : Nat} (hi : i < st.toks.length) : s.toks[i]? = st.toks[i]? := by
  have := congrArg (fun z => z[i]?) h.tk
  simpa [List.getElem?_take, hi] using this
theorem Kept.of {s' : St} (h : Kept st s) (hb : s'.boxes.take st.boxes.length = s.boxes.take st.boxes.length) (hl : s'.loops = s.loops) (hw : st.boxes.length ≤ s'.low) (ht : ∀ i, i < st.toks.length → s'.toks[i]? = s.toks[i]?) (hn : st.toks.length ≤ s'.toks.length) : Kept st s' :=
  ⟨hb.trans h.bx, hl.trans h.lp, hw, by
    apply List.ext_getElem?
    intro i
    rw [List.getElem?_take]
    split
    · rename_i hi
      rw [ht i hi, h.get hi]
    · rename_i hi
      rw [List.getElem?_eq_none (by omega)]⟩
theorem Kept.tok1 (h : Kept st s) : Kept st s.tok1 := h.of rfl rfl h.lw (fun i hi => by
  show (s.toks ++ [true])[i]? = _
  rw [List.getElem?_append_left (by have := h.tl; omega)]) (by have := h.tl; simp [St.tok1]; omega)
theorem Kept.leave (h : Kept st s) {v : PV} (h1 : v.inB st.boxes.length = true) (h2 : ∀ n toks, keepRes n toks v = (v, [])) : leave st s v = (v, st) := by
  have e1 := h.bx; have e2 := h.lp; have e3 := h.tk
  simp [Ab.leave, h1, h.lw, h2, e1, e2, e3]
theorem Kept.alloc {z : List PV} (h : Kept st s) : Kept st { s with boxes := s.boxes ++ [z] } := h.of (by
  have := h.bl
  rw [List.take_append_of_le_length this]) rfl h.lw (fun _ _ => rfl) h.tl
theorem Kept.step {x' : PV} {l' : List UInt8} (h : Kept st s) (hs : BuStep s s' b x x' l') (hb : st.boxes.length ≤ b) (hm : ∀ i, tokOf x = some i → st.toks.length ≤ i) : Kept st s' ∧ ∀ i, tokOf x' = some i → st.toks.length ≤ i := by
  have htl := h.tl
  refine ⟨h.of ?_ hs.lp (by have := hs.lw; have := h.lw; omega) (fun i hi => hs.tk i (by omega) fun hh => by have := hm i hh; omega) (by have := hs.tl; omega), fun i hi => ?_⟩
  · rw [hs.bx, List.take_set_of_le hb]
  · rcases hs.tn i hi with h1 | h1
    · exact hm i h1
    · omega

theorem Kept.string (h : Kept st s) (hs : ∃ s', P s' ∧ s'.boxes = s.boxes ∧ s'.loops = s.loops ∧ s'.low = s.low ∧ s'.toks.length = s.toks.length ∧ ∀ i, tokOf x ≠ some i → s'.toks[i]? = s.toks[i]?) (hm : ∀ i, tokOf x = some i → st.toks.length ≤ i) : ∃ s', P s' ∧ Kept st s' := by
  obtain ⟨s', h0, h1, h2, h3, h4, h5⟩ := hs
  exact ⟨s', h0, h.of (by rw [h1]) h2 (by rw [h3]; exact h.lw) (fun i hi => h5 i fun hh => by have := hm i hh; omega) (by rw [h4]; exact h.tl)⟩

def Mine (st s : St) (v : PV) (l : List UInt8) : Prop := Live s v l ∧ ∀ t, tokOf v = some t → st.toks.length ≤ t
theorem Mine.nil : Mine st s .nils [] := ⟨.inl ⟨rfl, rfl⟩, fun t h => (by cases h)⟩
theorem Mine.by {v : PV} (h : Mine st s v l) : v.by = some l := h.1.by
theorem Mine.tok1 {v : PV} (h : Mine st s v l) : Mine st s.tok1 v l := ⟨h.1.tok1, h.2⟩
theorem Kept.app8 {v y : PV} {m : List UInt8} (hk : Kept st s) (h : Mine st s v l) (hy : src8 s y = some m) (hl : l.length + m.length ≤ room) :
    ∃ v' s', Ab.app8 s v y = some (v', s') ∧ Kept st s' ∧ Mine st s' v' (l ++ m) := by
  obtain ⟨v', s', a1, a2, a3, a4, a5, a6, a7, a8, a9⟩ := app8_live h.1 hy hl
  have htl := hk.tl
  refine ⟨v', s', a1, hk.of (by rw [a2]) a3 (by rw [a4]; exact hk.lw) (fun i hi => a7 i (by omega) fun hh => by have := h.2 i hh; omega) (by omega), a5, fun t ht => ?_⟩
  rcases a8 t ht with ⟨h1, _⟩ | h1
  · exact h.2 t h1
  · omega
theorem Kept.push {v : PV} {c : UInt8} (hk : Kept st s) (h : Mine st s v l) (hl : l.length + 1 ≤ room) :
    ∃ v' s', Ab.app8 s.tok1 v (.bys (.own s.toks.length) [c]) = some (v', s') ∧ Kept st s' ∧ Mine st s' v' (l ++ [c]) :=
  hk.tok1.app8 h.tok1 rfl (by simpa using hl)
theorem Kept.push2 {v : PV} {c d : UInt8} (hk : Kept st s) (h : Mine st s v l) (hl : l.length + 2 ≤ room) :
    ∃ v' s', Ab.app8 s.tok1 v (.bys (.own s.toks.length) [c, d]) = some (v', s') ∧ Kept st s' ∧ Mine st s' v' (l ++ [c, d]) :=
  hk.tok1.app8 h.tok1 rfl (by simpa using hl)
theorem lit8_1 {c : UInt8} : lit8Fill (List.replicate 1 0) [(0, .b8 c)] = some [c] := rfl
theorem lit8_2 {c d : UInt8} : lit8Fill (List.replicate 2 0) [(0, .b8 c), (1, .b8 d)] = some [c, d] := rfl
def Flat (v : PV) : Prop := (∀ n, v.inB n = true) ∧ (∀ n toks, keepRes n toks v = (v, []))
theorem Kept.leave' (h : Kept st s) {v : PV} (hv : Flat v) : Ab.leave st s v = (v, st) := h.leave (hv.1 _) hv.2
end Go.Ab
/-
  Operations on texts; the library's and the document's searches in them.
-/
namespace Go.Ab
variable {A : AP} {st : St} {e : Env}

theorem len_s {l : List UInt8} : lenPV true (.str l) = some (.int .i64 (l.length : Int)) := rfl
theorem idx_s {l : List UInt8} {k : IntKind} {c : Int} (h1 : 0 ≤ c) (h2 : c.toNat < l.length) : idxSPV (.str l) (.int k c) = some (.b8 (l.getD c.toNat 0)) := by
  simp [idxSPV, intOf, h1, show c < l.length by omega]
theorem slc_s_lo {l : List UInt8} {k : IntKind} {c : Int} (h1 : 0 ≤ c) (h2 : c.toNat ≤ l.length) : slcPV 0 (.str l) (some (.int k c)) none none = some (.str (l.drop c.toNat)) := by
  simp [slcPV, bnd, intOf, h1, show c ≤ l.length by omega]
theorem slc_s_hi {l : List UInt8} {k : IntKind} {c : Int} (h1 : 0 ≤ c) (h2 : c.toNat ≤ l.length) : slcPV 0 (.str l) none (some (.int k c)) none = some (.str (l.take c.toNat)) := by
  simp [slcPV, bnd, intOf, h1, show c ≤ l.length by omega]
theorem slc_s {l : List UInt8} {k k' : IntKind} {c d : Int} (h1 : 0 ≤ c) (h2 : c ≤ d) (h3 : d.toNat ≤ l.length) : slcPV 0 (.str l) (some (.int k c)) (some (.int k' d)) none = some (.str ((l.take d.toNat).drop c.toNat)) := by
  simp [slcPV, bnd, intOf, h1, show d ≤ l.length by omega, show 0 ≤ d by omega, show c ≤ max d 0 by omega]
theorem adds {ek : EK} {a b : List UInt8} (h : a.length + b.length ≤ 9223372036854775807) : binPV .add ek (.str a) (.str b) = some (.str (a ++ b)) := by
  simp [binPV, binS, h]

def hasB (s t : List UInt8) : Bool := decide (0 ≤ Lib.index s t)
theorem strIndex_spec {a b : List UInt8} (h : a.length < 4294967281) : call prog (.fn 82 []) [.str a, .str b] st = some (.int .i64 (Lib.index a b), st) := by
  rw [call_prim prog_82]; simp [pStrIndex, h]
theorem Index_spec {a b : List UInt8} (h : a.length < 4294967281) : call prog (.fn 76 []) [.str a, .str b] st = some (.int .i64 (Lib.index a b), st) := by
  refine call_of_W prog_76 ?_
  unfold F_strings_Index; dsimp only
  simp (maxSteps := 1000000) (disch := omega) only [strIndex_spec h, qaaz, qabz, qaiz, qajz, qalz, evOp, qaoz, qapz, qaqz, qarz, qatz, qavz,
 ↓reduceIte, Nat.reduceEqDiff, List.append_nil, List.map_cons, List.map_nil, qawz, qaxz, qazz, qblz, reduceCtorEq]
  exact end1 rfl Kp_int
theorem Contains_spec {a b : List UInt8} (h : a.length < 4294967281) : call prog (.fn 66 []) [.str a, .str b] st = some (.bool (hasB a b), st) := by
  refine call_of_W prog_66 ?_
  unfold F_strings_Contains; dsimp only
  simp (maxSteps := 1000000) (disch := omega) only [Index_spec h, qaaz, qabz, qaiz, qajz, qalz, evOp, qaoz, qapz, qaqz, qarz, qatz, qavz,
 ↓reduceIte, Nat.reduceEqDiff, List.append_nil, List.map_cons, List.map_nil, qawz, qaxz, Option.map_some, qazz, qblz, qbsz, reduceCtorEq]
  exact end1 rfl Kp_bool

theorem index_drop_none {a b : List UInt8} (h : ∀ i, i + b.length ≤ a.length → (a.drop i).take b.length ≠ b) : Lib.index a b = -1 := by
  apply Lib.index_none
  intro j hj
  cases hc : Lib.occAt a b j with
  | false => rfl
  | true =>
    rcases Lib.occAt_room hc with h1 | h1
    · rw [Lib.occAt_iff_take a b j h1] at hc
      exact absurd (by simpa using hc) (h j h1)
    · subst h1
      exact absurd rfl (h 0 (by simp))

theorem Has_spec {a b : List UInt8} (ha : a.length < 4611686018427387904) (hb : b.length < 4611686018427387904) : call prog (.fn 56 []) [.str a, .str b] st = some (.bool (hasB a b), st) := by
  refine call_of_W prog_56 ?_
  unfold F_posthornref04_Has; dsimp only
  simp (maxSteps := 1000000) (disch := omega) only [qaaz, qabz, qadz, qajz, qalz, evOp, qapz, qarz, qatz, List.append_nil, qazz]
  obtain ⟨I, hI⟩ : ∃ I : Nat → Env → St → Prop, I = fun n e s => ∃ i : Nat, n = a.length + 1 - i ∧ i ≤ a.length + 1 ∧ (∀ j, j < i → (a.drop j).take b.length ≠ b) ∧ s = { boxes := st.boxes, toks := st.toks, loops := st.loops, low := st.boxes.length } ∧ e 0 = .str a ∧ e 1 = .str b ∧ e 5 = .int .i64 (i : Int) := ⟨_, rfl⟩
  refine W_loop I ?_ (n := a.length + 1) (by rw [hI]; exact ⟨0, rfl, by omega, fun j hj => by omega, rfl, rfl, rfl, rfl⟩)
  intro n e s h
  rw [hI] at h
  obtain ⟨i, rfl, hi, hn, rfl, h0, h1, h5⟩ := h
  have hadd : ∀ ek, binPV .add ek (.int .i64 (i : Int)) (.int .i64 (b.length : Int)) = some (.int .i64 ((i + b.length : Nat) : Int)) := fun ek => by
    rw [add_i (by omega) (by omega)]; simp
  by_cases hlt : i + b.length ≤ a.length
  · have hmid : (a.take (i + b.length)).drop i = (a.drop i).take b.length := by rw [List.drop_take]; simp
    by_cases hc : (a.drop i).take b.length = b
    · simp (maxSteps := 1000000) (disch := omega) only [h0, h1, h5, len_s, hadd, hlt, slc_s, hmid, eq_true hc, qaaz, qabz, qacz, qadz, qaez, qaiz, qajz, qalz, evOp, qaoz, qapz, qarz, qatz, qavz,
 ↓reduceIte, Nat.reduceEqDiff, Option.map_some, Option.map_none, qazz, qbaz, qbez, qbhz, qbiz, qblz, qbqz, qcbz, decide_true, Int.toNat_natCast, Int.ofNat_le, reduceCtorEq]
      have hocc : Lib.occAt a b i = true := by rw [Lib.occAt_iff_take a b i hlt]; simpa using hc
      have hfirst : Lib.index a b = i := by
        refine Lib.index_first (by omega) hocc (fun j hj => ?_)
        cases ho : Lib.occAt a b j with
        | false => rfl
        | true => rw [Lib.occAt_iff_take a b j (by omega)] at ho; exact absurd (by simpa using ho) (hn j hj)
      rw [show hasB a b = true by unfold hasB; rw [hfirst]; simp]
      exact end1 rfl Kp_bool
    · simp (maxSteps := 1000000) (disch := omega) only [h0, h1, h5, len_s, hadd, hlt, slc_s, hmid, hc, add_n, qaaz, qabz, qacz, qadz, qaez, qajz, qalz, evOp, qaoz, qapz, qarz, qatz, qavz,
 ↓reduceIte, Nat.reduceEqDiff, Option.map_some, Option.map_none, qazz, qbdz, qbhz, qbqz, qcbz, decide_true, decide_false,
 Int.toNat_natCast, Int.ofNat_le, Bool.false_eq_true, Int.reduceToNat, reduceCtorEq]
      refine loopQ_intro (m := a.length + 1 - (i + 1)) (by omega) ?_
      rw [hI]
      refine ⟨i + 1, rfl, by omega, fun j hj => ?_, rfl, h0, h1, rfl⟩
      by_cases hji : j = i
      · subst hji; exact hc
      · exact hn j (by omega)
  · simp (maxSteps := 1000000) (disch := omega) only [h0, h1, h5, len_s, hadd, hlt, qaaz, qabz, qacz, qagz, qaiz, qajz, qalz, evOp, qaoz, qapz, qarz, qatz, qavz,
 ↓reduceIte, Nat.reduceEqDiff, Option.map_some, qazz, qbbz, qbfz, qbhz, qbjz, qblz, qbqz, decide_false,
 Int.ofNat_le, Bool.false_eq_true, reduceCtorEq]
    rw [show hasB a b = false by
      unfold hasB; rw [index_drop_none (fun j hj => hn j (by omega))]; rfl]
    exact end1 rfl Kp_bool
end Go.Ab
/-
  Names in small letters; fields of a name; how big a header is.
-/
namespace Go.Ab
variable {st : St} {e : Env}

end Go.Ab
/-
  Fields of a name; how big a header is.
-/
namespace Go.Ab
variable {st s : St} {e : Env}

abbrev Fld := List UInt8 × List UInt8
def fV (f : Fld) : PV := .agg [.str f.1, .str f.2]
theorem take_getD' {α : Type} {l : List α} {i : Nat} {d : α} (h : i < l.length) : l.take (i + 1) = l.take i ++ [l.getD i d] := by
  rw [List.take_succ_eq_append_getElem h]; simp [List.getD, h]

theorem iaddr_f {x : PV} {fs : List Fld} {k : IntKind} {c : Int} (h : x.vs 2 = some (fs.map fV)) (h1 : 0 ≤ c) (h2 : c.toNat < fs.length) : iaddrPV 2 x (.int k c) = some (.cp [.str (fs.getD c.toNat ([], [])).1, .str (fs.getD c.toNat ([], [])).2]) := by
  rw [iaddr_vs h h1 (by simpa using h2)]
  simp [List.getD, h2, fV, PV.cells]
theorem load_f2 {a b : PV} : loadPV st true 2 (.cp [a, b]) = some (.agg [a, b]) := rfl
theorem store_f {B : List (List PV)} {T : List Bool} {L : List LoopS} {lo : Nat} {a b : List UInt8} : storePV ⟨B ++ [[.str [], .str []]], T, L, lo⟩ 2 (.ptr B.length 0) (.agg [.str a, .str b]) = some ⟨B ++ [[.str a, .str b]], T, L, lo⟩ := by
  simp [storePV, PV.cells, PV.inB, PV.inB.inBAll, leafOk, setCells, hasTok, tokOf]
theorem load_b0 {B : List (List PV)} {T : List Bool} {L : List LoopS} {lo : Nat} {a b : List UInt8} : loadPV ⟨B ++ [[.str a, .str b]], T, L, lo⟩ false 1 (.ptr B.length 0) = some (.str a) := by
  simp [loadPV, readCells]
theorem load_b1 {B : List (List PV)} {T : List Bool} {L : List LoopS} {lo : Nat} {a b : List UInt8} : loadPV ⟨B ++ [[.str a, .str b]], T, L, lo⟩ false 1 (.ptr B.length 1) = some (.str b) := by
  simp [loadPV, readCells]

theorem Kept.alloc' {z : List PV} (h : Kept st s) : Kept st ⟨s.boxes ++ [z], s.toks, s.loops, s.low⟩ := h.alloc

end Go.Ab
/-
  Names and values of fields; texts without blanks at their ends.
-/
namespace Go.Ab
variable {st s : St} {e : Env}

theorem all_getD {p : UInt8 → Bool} {l : List UInt8} (h : ∀ j, j < l.length → p (l.getD j 0) = true) : l.all p = true := by
  rw [List.all_eq_true]
  intro c hc
  obtain ⟨i, hi, rfl⟩ := List.mem_iff_getElem.1 hc
  have := h i hi
  simpa [List.getD, hi] using this
theorem all_bad {p : UInt8 → Bool} {l : List UInt8} {j : Nat} (hj : j < l.length) (h : p (l.getD j 0) = false) : l.all p = false := by
  rw [List.all_eq_false]
  refine ⟨l.getD j 0, ?_, by rw [h]; simp⟩
  simp [List.getD, hj]

end Go.Ab
/-
  Points of Unicode as bytes: the program's answer.
-/
namespace Go.Ab
variable {st s : St} {e : Env}

theorem all256 {p : UInt8 → Prop} (h : ∀ n : Fin 256, p (UInt8.ofNat n.val)) (c : UInt8) : p c := by
  have := h ⟨c.toNat, c.toNat_lt⟩
  simpa using this
theorem shr5 {ek : EK} {c : UInt8} : binPV .shr ek (.b8 c) (.int .u64 5) = some (.b8 (UInt8.ofNat (c.toNat / 32))) := by simp [binPV, sh8]
theorem shr4 {ek : EK} {c : UInt8} : binPV .shr ek (.b8 c) (.int .u64 4) = some (.b8 (UInt8.ofNat (c.toNat / 16))) := by simp [binPV, sh8]
theorem shr3 {ek : EK} {c : UInt8} : binPV .shr ek (.b8 c) (.int .u64 3) = some (.b8 (UInt8.ofNat (c.toNat / 8))) := by simp [binPV, sh8]
theorem shr6 {ek : EK} {c : UInt8} : binPV .shr ek (.b8 c) (.int .u64 6) = some (.b8 (UInt8.ofNat (c.toNat / 64))) := by simp [binPV, sh8]
theorem and_8 {ek : EK} {a b : UInt8} : binPV .and ek (.b8 a) (.b8 b) = some (.b8 (a &&& b)) := rfl
theorem cI32 {b : UInt8} : cIntPV .i32 (.b8 b) = some (.int .i32 (b.toNat : Int)) := rfl
theorem is2 (c : UInt8) : UInt8.ofNat (c.toNat / 32) = 6 ↔ 192 ≤ c.toNat ∧ c.toNat < 224 := all256 (p := fun c => UInt8.ofNat (c.toNat / 32) = 6 ↔ 192 ≤ c.toNat ∧ c.toNat < 224) (by decide +kernel) c
theorem is3 (c : UInt8) : UInt8.ofNat (c.toNat / 16) = 14 ↔ 224 ≤ c.toNat ∧ c.toNat < 240 := all256 (p := fun c => UInt8.ofNat (c.toNat / 16) = 14 ↔ 224 ≤ c.toNat ∧ c.toNat < 240) (by decide +kernel) c
theorem is4 (c : UInt8) : UInt8.ofNat (c.toNat / 8) = 30 ↔ 240 ≤ c.toNat ∧ c.toNat < 248 := all256 (p := fun c => UInt8.ofNat (c.toNat / 8) = 30 ↔ 240 ≤ c.toNat ∧ c.toNat < 248) (by decide +kernel) c
theorem isC (c : UInt8) : UInt8.ofNat (c.toNat / 64) = 2 ↔ 128 ≤ c.toNat ∧ c.toNat < 192 := all256 (p := fun c => UInt8.ofNat (c.toNat / 64) = 2 ↔ 128 ≤ c.toNat ∧ c.toNat < 192) (by decide +kernel) c
theorem and31 (c : UInt8) : (c &&& 31).toNat = c.toNat % 32 := all256 (p := fun c => (c &&& 31).toNat = c.toNat % 32) (by decide +kernel) c
theorem and15 (c : UInt8) : (c &&& 15).toNat = c.toNat % 16 := all256 (p := fun c => (c &&& 15).toNat = c.toNat % 16) (by decide +kernel) c
theorem and7 (c : UInt8) : (c &&& 7).toNat = c.toNat % 8 := all256 (p := fun c => (c &&& 7).toNat = c.toNat % 8) (by decide +kernel) c
theorem and63 (c : UInt8) : (c &&& 63).toNat = c.toNat % 64 := all256 (p := fun c => (c &&& 63).toNat = c.toNat % 64) (by decide +kernel) c
theorem wrap32 {n : Int} (h1 : -2147483648 ≤ n) (h2 : n < 2147483648) : IntKind.i32.wrap n = n := by
  unfold IntKind.wrap
  simp only [IntKind.signed, IntKind.bits]
  simp
  omega
theorem shl6 {ek : EK} {p : Nat} (h : p < 33554432) : binPV .shl ek (.int .i32 (p : Int)) (.int .u64 6) = some (.int .i32 ((64 * p : Nat) : Int)) := by
  simp only [binPV, shI]
  rw [if_neg (by omega)]
  have : (p : Int) * 2 ^ (min (6 : Int).toNat IntKind.i32.bits) = ((64 * p : Nat) : Int) := by
    have h6 : min (6 : Int).toNat IntKind.i32.bits = 6 := by decide
    rw [h6]; push_cast; omega
  simp only [this]
  rw [wrap32 (by omega) (by omega)]
theorem or_i32 {ek : EK} {p q : Nat} (h : p < 33554432) (hq : q < 64) : binPV .or ek (.int .i32 ((64 * p : Nat) : Int)) (.int .i32 (q : Int)) = some (.int .i32 ((64 * p + q : Nat) : Int)) := by
  simp only [binPV, binI, if_true]
  have h3 : (BitVec.ofInt IntKind.i32.bits ((64 * p : Nat) : Int) ||| BitVec.ofInt IntKind.i32.bits (q : Int)).toNat = 64 * p + q := by
    show (BitVec.ofInt 32 ((64 * p : Nat) : Int) ||| BitVec.ofInt 32 (q : Int)).toNat = _
    rw [BitVec.ofInt_natCast, BitVec.ofInt_natCast, BitVec.toNat_or, BitVec.toNat_ofNat, BitVec.toNat_ofNat, Nat.mod_eq_of_lt (by omega), Nat.mod_eq_of_lt (by omega)]
    have := Nat.two_pow_add_eq_or_of_lt (i := 6) (b := q) (by omega) p
    rw [show (2 : Nat) ^ 6 = 64 from rfl] at this
    exact this.symm
  rw [h3, wrap32 (by omega) (by omega)]

def lead (c : Nat) : Nat × Nat := if 192 ≤ c ∧ c < 224 then (c % 32, 2) else if 224 ≤ c ∧ c < 240 then (c % 16, 3) else if 240 ≤ c ∧ c < 248 then (c % 8, 4) else (0, 0)
def accP (l : List UInt8) (p : Nat) : Nat → Nat
  | 0 => p
  | k + 1 => 64 * accP l p k + (l.getD (k + 1) 0).toNat % 64
def contB (l : List UInt8) (k : Nat) : Prop := ∀ j, j < k → 128 ≤ (l.getD (j + 1) 0).toNat ∧ (l.getD (j + 1) 0).toNat < 192
instance {l : List UInt8} {k : Nat} : Decidable (contB l k) := by unfold contB; infer_instance
def pointN (q : Nat) : Prop := q < 55296 ∨ (57343 < q ∧ q ≤ 1114111)
instance {q : Nat} : Decidable (pointN q) := by unfold pointN; infer_instance
def lowN (n : Nat) : Nat := if n = 2 then 128 else if n = 3 then 2048 else 65536
def nextOf (l : List UInt8) : Option (Nat × Nat) :=
  if l = [] then none else if (l.getD 0 0).toNat < 128 then some ((l.getD 0 0).toNat, 1) else
    let r := lead (l.getD 0 0).toNat
    if r.2 = 0 ∨ l.length < r.2 ∨ ¬ contB l (r.2 - 1) ∨ ¬ pointN (accP l r.1 (r.2 - 1)) ∨ accP l r.1 (r.2 - 1) < lowN r.2 then none else some (accP l r.1 (r.2 - 1), r.2)
def nextV (l : List UInt8) : PV := match nextOf l with
  | some (p, n) => .tup [.int .i32 (p : Int), .int .i64 (n : Int), .int .i64 0]
  | none => .tup [.int .i32 0, .int .i64 0, .int .i64 (if l = [] then 42 else 20)]
theorem nextV_some {l : List UInt8} {p n : Nat} (h : nextOf l = some (p, n)) : nextV l = .tup [.int .i32 (p : Int), .int .i64 (n : Int), .int .i64 0] := by simp [nextV, h]
theorem nextV_none {l : List UInt8} (h : nextOf l = none) (hl : l ≠ []) : nextV l = .tup [.int .i32 0, .int .i64 0, .int .i64 20] := by simp [nextV, h, hl]

theorem isPoint_spec {p : Nat} : call prog (.fn 83 []) [.int .i32 (p : Int)] st = some (.bool (decide (pointN p)), st) := by
  refine call_of_W prog_83 ?_
  unfold F_utf_isPoint; dsimp only
  have e0 : (0 : Int) ≤ (p : Int) := by omega
  by_cases h1 : p ≤ 1114111
  · have e1 : (p : Int) ≤ 1114111 := by omega
    by_cases h2 : p < 55296
    · have e2 : (p : Int) < 55296 := by omega
      simp (maxSteps := 1000000) (disch := omega) only [e0, e1, e2, qaaz, qabz, qaiz, qajz, qakz, qalz, qamz, qanz, evOp, qaoz, qapz, qarz, qatz, qavz,
 ↓reduceIte, Nat.reduceEqDiff, List.append_nil, qawz, Option.map_some, qazz, qblz, qbpz, qbqz, qbsz, beq_true, beq_false, decide_true, Bool.false_eq_true, reduceCtorEq, Bool.not_true]
      rw [show decide (pointN p) = true by simp [pointN, h2]]
      exact end1 rfl Kp_bool
    · have e2 : ¬ (p : Int) < 55296 := by omega
      by_cases h3 : 57343 < p
      · have e3 : (57343 : Int) < (p : Int) := by omega
        simp (maxSteps := 1000000) (disch := omega) only [e0, e1, e2, e3, qaaz, qabz, qaiz, qajz, qakz, qalz, qamz, qanz, evOp, qaoz, qapz, qarz, qatz, qavz,
 ↓reduceIte, Nat.reduceEqDiff, List.append_nil, qawz, Option.map_some, qazz, qblz, qbpz, qbqz, qbrz, qbsz, beq_true, beq_false, decide_true, decide_false,
 Bool.false_eq_true, reduceCtorEq, Bool.not_false]
        rw [show decide (pointN p) = true by simp [pointN, h3, h1]]
        exact end1 rfl Kp_bool
      · have e3 : ¬ (57343 : Int) < (p : Int) := by omega
        simp (maxSteps := 1000000) (disch := omega) only [e0, e1, e2, e3, qaaz, qabz, qaiz, qajz, qakz, qalz, qamz, qanz, evOp, qaoz, qapz, qarz, qatz, qavz,
 ↓reduceIte, Nat.reduceEqDiff, List.append_nil, qawz, Option.map_some, qazz, qblz, qbpz, qbqz, qbrz, qbsz, beq_true, beq_false, decide_true, decide_false,
 Bool.false_eq_true, reduceCtorEq, Bool.not_false]
        rw [show decide (pointN p) = false from decide_eq_false (by unfold pointN; omega)]
        exact end1 rfl Kp_bool
  · have e1 : ¬ (p : Int) ≤ 1114111 := by omega
    simp (maxSteps := 1000000) (disch := omega) only [e0, e1, qaaz, qabz, qaiz, qajz, qakz, qalz, qamz, qanz, evOp, qaoz, qapz, qarz, qatz, qavz,
 ↓reduceIte, Nat.reduceEqDiff, List.append_nil, qawz, Option.map_some, qazz, qblz, qbqz, qbsz, beq_true, decide_true, decide_false,
 Bool.false_eq_true, reduceCtorEq]
    rw [show decide (pointN p) = false from decide_eq_false (by unfold pointN; omega)]
    exact end1 rfl Kp_bool

theorem accP_lt {l : List UInt8} {p : Nat} : ∀ k, accP l p k < (p + 1) * 64 ^ k := by
  intro k
  induction k with
  | zero => simp [accP]
  | succ k ih =>
    simp only [accP, Nat.pow_succ]
    have := Nat.mod_lt (l.getD (k + 1) 0).toNat (show 64 > 0 by omega)
    rw [← Nat.mul_assoc]
    generalize (p + 1) * 64 ^ k = z at *
    omega
theorem lead_cases (c : Nat) : lead c = (0, 0) ∨ (lead c = (c % 32, 2)) ∨ (lead c = (c % 16, 3)) ∨ (lead c = (c % 8, 4)) := by
  unfold lead
  split
  · exact .inr (.inl rfl)
  · split
    · exact .inr (.inr (.inl rfl))
    · split
      · exact .inr (.inr (.inr rfl))
      · exact .inl rfl
end Go.Ab
/-
  The point at a text's front: the program's function.
-/
namespace Go.Ab
variable {A : AP} {st s : St} {e : Env}

def scopeQ (A : AP) (b rest : ACode) (Q : Ex → Env → St → Prop) : Ex → Env → St → Prop
  | .goto l, e, s => if l = 0 then W A (.scopeAt b rest) e s Q else False
  | x, e, s => Q x e s
theorem W_scope1 {b rest : ACode} {Q : Ex → Env → St → Prop} (hl : findLabelA b 0 = some rest) (h : W A b e st (scopeQ A b rest Q)) : W A (.scope b) e st Q := by
  rw [W_scope]
  refine W_scopeAt (W_mono h ?_)
  intro x e s hq
  cases x with
  | goto l =>
    simp only [scopeQ] at hq
    split at hq
    · rename_i h0; subst h0
      simp only [hl]; exact hq
    · cases hq
  | normal => exact hq
  | ret => exact hq
  | exit i => exact hq

theorem mid_getD {l : List UInt8} {n k : Nat} (h : k + 1 < n) : ((l.take n).drop 1).getD k 0 = l.getD (k + 1) 0 := by
  simp only [List.getD, List.getElem?_drop, List.getElem?_take]
  rw [if_pos (by omega), Nat.add_comm]

set_option maxHeartbeats 1000000 in
theorem uNext_spec {x : PV} {l : List UInt8} (hx : x.by = some l) (hl : l.length ≤ 100000000) : call prog (.fn 77 []) [x] st = some (nextV l, st) := by
  refine call_of_W prog_77 ?_
  unfold F_utf_Next; dsimp only
  refine W_cut (fun E S => Kept st S ∧ E 0 = x) ?_ ?_
  · simp (maxSteps := 1000000) (disch := omega) only [qabz, qajz, qalz, evOp, qapz, qarz, qatz, qavz,
 ↓reduceIte, List.append_nil, qawz, true_and, and_true, reduceCtorEq]
    exact Kept.start
  rintro e S ⟨hk, h0⟩
  refine W_scope1 rfl ?_
  generalize hR : scopeQ prog _ _ _ = R
  have fin : ∀ (E : Env) (S : St) (p n c : Int), Kept st S → nextV l = .tup [.int .i32 p, .int .i64 n, .int .i64 c] → E 2 = .int .i32 p → E 3 = .int .i64 n → E 4 = .int .i64 c → R .ret E S := by
    intro E S p n c k1 hv k2 k3 k4
    rw [← hR]
    show endQ _ _ _ .ret E S
    rw [qblz]
    exact ⟨.tup [.int .i32 p, .int .i64 n, .int .i64 c], by simp [resOf, rvAll, rv1, k2, k3, k4, notTup, packRes], by rw [hv]; exact k1.leave rfl (fun _ _ => rfl)⟩
  have wrong : ∀ (E : Env) (S : St), Kept st S → nextOf l = none → l ≠ [] → R (.goto 0) E S := by
    intro E S k1 hv hne
    rw [← hR]
    simp only [scopeQ, if_true]
    refine W_scopeAt ?_
    simp (maxSteps := 1000000) (disch := omega) only [qaaz, qabz, qaez, qaiz, qajz, qalz, evOp, qapz, qarz, qatz, qazz, qblz]
    exact ⟨.tup [.int .i32 0, .int .i64 0, .int .i64 20], rfl, by rw [nextV_none hv hne]; exact k1.leave rfl (fun _ _ => rfl)⟩
  clear hR
  by_cases hne : l = []
  · have e1 : decide ((l.length : Int) = 0) = true := by simp [hne]
    simp (maxSteps := 1000000) (disch := omega) only [h0, len_by hx, e1, qaaz, qabz, qacz, qaiz, qajz, qalz, evOp, qaoz, qapz, qarz, qatz, qavz,
 ↓reduceIte, Option.map_some, qazz, qbaz, qbhz, qbtz, reduceCtorEq]
    exact fin _ _ 0 0 42 hk (by simp [nextV, nextOf, hne]) rfl rfl rfl
  have hlen : 0 < l.length := List.length_pos_iff.2 hne
  have e1 : ¬ ((l.length : Int) = 0) := by omega
  obtain ⟨c, hc⟩ : ∃ c, c = l.getD 0 0 := ⟨_, rfl⟩
  have hi0 : iaddrPV 1 x (.int .i64 0) = some (.cp [.b8 c]) := by rw [hc]; exact iaddr_by hx (by omega) (by simpa using hlen)
  by_cases h128 : c < 128
  · have h128' : c.toNat < 128 := by rw [UInt8.lt_iff_toNat_lt] at h128; simpa using h128
    simp (maxSteps := 1000000) (disch := omega) only [h0, len_by hx, e1, hi0, qciz, h128, cI32, qaaz, qabz, qacz, qadz, qaez, qaiz, qajz, qalz, evOp, qaoz, qapz, qarz, qatz, qavz,
 ↓reduceIte, Nat.reduceEqDiff, Option.map_some, qazz, qbaz, qbez, qbhz, qbtz, qbxz, qciz, decide_true, decide_false,
 Bool.false_eq_true, reduceCtorEq]
    exact fin _ _ (c.toNat : Int) 1 0 hk (nextV_some (p := c.toNat) (n := 1) (by unfold nextOf; rw [if_neg hne, ← hc, if_pos h128'])) rfl rfl rfl
  have h128' : ¬ c.toNat < 128 := by rw [UInt8.lt_iff_toNat_lt] at h128; simpa using h128
  obtain ⟨p, n, hpn⟩ : ∃ p n, lead c.toNat = (p, n) := ⟨_, _, rfl⟩
  have hnx : nextOf l = if n = 0 ∨ l.length < n ∨ ¬ contB l (n - 1) ∨ ¬ pointN (accP l p (n - 1)) ∨ accP l p (n - 1) < lowN n then none else some (accP l p (n - 1), n) := by
    unfold nextOf
    rw [if_neg hne, ← hc, if_neg h128', hpn]
  refine W_cut (fun E S => Kept st S ∧ E 0 = x ∧ E 5 = .int .i32 0) ?_ ?_
  · simp (maxSteps := 1000000) (disch := omega) only [h0, qabz, qajz, qalz, evOp, qapz, qarz, qatz, qavz,
 ↓reduceIte, true_and, and_true, reduceCtorEq]
    exact hk
  clear hk h0
  rintro e S ⟨hk, h0, h5⟩
  refine W_cut (fun E S => Kept st S ∧ E 0 = x ∧ E 5 = .int .i32 0 ∧ E 6 = .int .i64 0) ?_ ?_
  · simp (maxSteps := 1000000) (disch := omega) only [h0, h5, qabz, qajz, qalz, evOp, qapz, qarz, qatz, qavz,
 ↓reduceIte, Nat.reduceEqDiff, true_and, and_true, reduceCtorEq]
    exact hk
  clear hk h0 h5
  rintro e S ⟨hk, h0, h5, h6⟩
  refine W_cut (fun E S => Kept st S ∧ E 0 = x ∧ E 5 = .int .i32 0 ∧ E 6 = .int .i64 0) ?_ ?_
  · simp (maxSteps := 1000000) (disch := omega) only [h0, h5, h6, len_by hx, e1, qaaz, qabz, qacz, qaez, qajz, qalz, evOp, qaoz, qapz, qarz, qatz, qavz,
 ↓reduceIte, Nat.reduceEqDiff, Option.map_some, qazz, qbhz, qbtz, decide_false,
 Bool.false_eq_true, true_and, and_true, reduceCtorEq]
    exact hk
  clear hk h0 h5 h6
  rintro e S ⟨hk, h0, h5, h6⟩
  refine W_cut (fun E S => Kept st S ∧ E 0 = x ∧ E 5 = .int .i32 (p : Int) ∧ E 6 = .int .i64 (n : Int)) ?_ ?_
  · by_cases q2 : UInt8.ofNat (c.toNat / 32) = 6
    · have := (is2 c).1 q2
      obtain ⟨rfl, rfl⟩ : p = c.toNat % 32 ∧ n = 2 := by
        unfold lead at hpn; rw [if_pos this] at hpn; cases hpn; exact ⟨rfl, rfl⟩
      simp (maxSteps := 1000000) (disch := omega) only [h0, hi0, qciz, h128, shr5, eq_true q2, and_8, cI32, and31, qaaz, qabz, qacz, qadz, qajz, qalz, evOp, qaoz, qapz, qarz, qatz, qavz,
 ↓reduceIte, Nat.reduceEqDiff, Option.map_some, qazz, qbdz, qbhz, qbvz, qbxz, qciz, decide_true, decide_false,
 Bool.false_eq_true, true_and, reduceCtorEq]
      exact ⟨hk, rfl⟩
    have n2 : ¬ (192 ≤ c.toNat ∧ c.toNat < 224) := fun h => q2 ((is2 c).2 h)
    by_cases q3 : UInt8.ofNat (c.toNat / 16) = 14
    · have := (is3 c).1 q3
      obtain ⟨rfl, rfl⟩ : p = c.toNat % 16 ∧ n = 3 := by
        unfold lead at hpn; rw [if_neg n2, if_pos this] at hpn; cases hpn; exact ⟨rfl, rfl⟩
      simp (maxSteps := 1000000) (disch := omega) only [h0, hi0, qciz, h128, shr5, shr4, q2, eq_true q3, and_8, cI32, and15, qaaz, qabz, qacz, qadz, qajz, qalz, evOp, qaoz, qapz, qarz, qatz, qavz,
 ↓reduceIte, Nat.reduceEqDiff, Option.map_some, qazz, qbdz, qbhz, qbvz, qbxz, qciz, decide_true, decide_false,
 Bool.false_eq_true, true_and, reduceCtorEq]
      exact ⟨hk, rfl⟩
    have n3 : ¬ (224 ≤ c.toNat ∧ c.toNat < 240) := fun h => q3 ((is3 c).2 h)
    by_cases q4 : UInt8.ofNat (c.toNat / 8) = 30
    · have := (is4 c).1 q4
      obtain ⟨rfl, rfl⟩ : p = c.toNat % 8 ∧ n = 4 := by
        unfold lead at hpn; rw [if_neg n2, if_neg n3, if_pos this] at hpn; cases hpn; exact ⟨rfl, rfl⟩
      simp (maxSteps := 1000000) (disch := omega) only [h0, hi0, qciz, h128, shr5, shr4, shr3, q2, q3, eq_true q4, and_8, cI32, and7, qaaz, qabz, qacz, qadz, qajz, qalz, evOp, qaoz, qapz, qarz, qatz, qavz,
 ↓reduceIte, Nat.reduceEqDiff, Option.map_some, qazz, qbdz, qbhz, qbvz, qbxz, qciz, decide_true, decide_false,
 Bool.false_eq_true, true_and, reduceCtorEq]
      exact ⟨hk, rfl⟩
    have n4 : ¬ (240 ≤ c.toNat ∧ c.toNat < 248) := fun h => q4 ((is4 c).2 h)
    obtain ⟨rfl, rfl⟩ : p = 0 ∧ n = 0 := by
      unfold lead at hpn; rw [if_neg n2, if_neg n3, if_neg n4] at hpn; cases hpn; exact ⟨rfl, rfl⟩
    simp (maxSteps := 1000000) (disch := omega) only [h0, h5, h6, hi0, qciz, h128, shr5, shr4, shr3, q2, q3, q4, qaaz, qabz, qacz, qadz, qaez, qajz, qalz, evOp, qaoz, qapz, qarz, qatz, qavz,
 ↓reduceIte, Nat.reduceEqDiff, Option.map_some, qazz, qbdz, qbhz, qbvz, qbxz, qciz, decide_false,
 Bool.false_eq_true, true_and, reduceCtorEq]
    exact ⟨hk, rfl, rfl⟩
  clear hk h0 h5 h6
  rintro e S ⟨hk, h0, h5, h6⟩
  by_cases hn0 : n = 0
  · have e2 : decide ((n : Int) = 0) = true := by simp [hn0]
    simp (maxSteps := 1000000) (disch := omega) only [h6, e2, qaaz, qabz, qacz, qahz, qajz, qakz, qalz, qamz, qanz, evOp, qaoz, qapz, qarz, qatz, qavz,
 ↓reduceIte, Nat.reduceEqDiff, Option.map_some, qazz, qbcz, qbhz, qbtz, beq_false, Bool.false_eq_true, Bool.not_true]
    exact wrong _ _ hk (by rw [hnx, if_pos (.inl hn0)]) hne
  have e2 : ¬ (n : Int) = 0 := by omega
  by_cases hln : l.length < n
  · have e3 : (l.length : Int) < (n : Int) := by omega
    simp (maxSteps := 1000000) (disch := omega) only [h0, h6, len_by hx, e2, e3, qaaz, qabz, qacz, qahz, qajz, qakz, qalz, qamz, qanz, evOp, qaoz, qapz, qarz, qatz, qavz,
 ↓reduceIte, Nat.reduceEqDiff, Option.map_some, qazz, qbcz, qbhz, qbpz, qbtz, beq_false, decide_true, decide_false,
 Bool.false_eq_true, reduceCtorEq, Bool.not_false]
    exact wrong _ _ hk (by rw [hnx, if_pos (.inr (.inl hln))]) hne
  have e3 : ¬ (l.length : Int) < (n : Int) := by omega
  have hn24 : (n = 2 ∧ p < 32) ∨ (n = 3 ∧ p < 16) ∨ (n = 4 ∧ p < 8) := by
    rcases lead_cases c.toNat with h | h | h | h
    · rw [hpn] at h; cases h; exact absurd rfl hn0
    · rw [hpn] at h; cases h; exact .inl ⟨rfl, by omega⟩
    · rw [hpn] at h; cases h; exact .inr (.inl ⟨rfl, by omega⟩)
    · rw [hpn] at h; cases h; exact .inr (.inr ⟨rfl, by omega⟩)
  have hacc : ∀ k, k ≤ 3 → accP l p k < 33554432 := by
    intro k hk
    have := accP_lt (l := l) (p := p) k
    have h64 : (p + 1) * 64 ^ k ≤ 32 * 64 ^ 3 := Nat.mul_le_mul (by omega) (Nat.pow_le_pow_right (by omega) hk)
    have : 32 * 64 ^ 3 = 8388608 := by decide
    omega
  refine W_cut (fun E S => Kept st S ∧ E 0 = x ∧ E 5 = .int .i32 (p : Int) ∧ E 6 = .int .i64 (n : Int)) ?_ ?_
  · simp (maxSteps := 1000000) (disch := omega) only [h0, h5, h6, len_by hx, e2, e3, qaaz, qabz, qacz, qaez, qajz, qakz, qalz, qamz, qanz, evOp, qaoz, qapz, qarz, qatz, qavz,
 ↓reduceIte, Nat.reduceEqDiff, Option.map_some, qazz, qbhz, qbpz, qbtz, beq_false, decide_false,
 Bool.false_eq_true, true_and, and_true, reduceCtorEq, Bool.not_false]
    exact hk
  clear hk h0 h5 h6
  rintro e S ⟨hk, h0, h5, h6⟩
  have hml : ((l.take n).drop 1).length = n - 1 := by simp; omega
  have hslc : slcPV 1 x (some (.int .i64 1)) (some (.int .i64 (n : Int))) none = some (x.midB 1 n) := by
    have := slc_lohi (k := .i64) (k' := .i64) (c := 1) (d := (n : Int)) hx (by omega) (by omega) (by simpa using (by omega : n ≤ l.length))
    simpa using this
  have hmb : (x.midB 1 n).by = some ((l.take n).drop 1) := midB_by hx
  have hlm := len_by hmb
  rw [hml] at hlm
  obtain ⟨I, hI⟩ : ∃ I : Nat → Env → St → Prop, I = fun m E S => ∃ k, m = n - 1 - k ∧ k ≤ n - 1 ∧ contB l k ∧ Kept st S ∧ E 0 = x ∧ E 5 = .int .i32 ((accP l p k : Nat) : Int) ∧ E 6 = .int .i64 (n : Int) ∧ E 52 = x.midB 1 n ∧ E 53 = .int .i64 ((n - 1 : Nat) : Int) ∧ E 54 = .int .i64 (k : Int) := ⟨_, rfl⟩
  -- one round of the loop
  have start : I (n - 1) (upd (upd (upd (upd (upd e 50 x) 51 (.int .i64 (n : Int))) 52 (x.midB 1 n)) 53 (.int .i64 ((n - 1 : Nat) : Int))) 54 (.int .i64 0)) S := by
    rw [hI]
    exact ⟨0, rfl, by omega, fun j h => by omega, hk, h0, h5, h6, rfl, rfl, rfl⟩
  have nxt : ∀ (k : Nat) (E : Env) (S : St), contB l (k + 1) → k + 1 ≤ n - 1 → Kept st S → E 0 = x → E 5 = .int .i32 ((accP l p (k + 1) : Nat) : Int) → E 6 = .int .i64 (n : Int) → E 52 = x.midB 1 n → E 53 = .int .i64 ((n - 1 : Nat) : Int) → E 54 = .int .i64 ((k + 1 : Nat) : Int) → I (n - 1 - (k + 1)) E S := by
    intro k E S q1 q2 q3 q4 q5 q6 q7 q8 q9
    rw [hI]; exact ⟨k + 1, rfl, q2, q1, q3, q4, q5, q6, q7, q8, q9⟩
  by_cases hcb : contB l (n - 1)
  · refine W_cut (fun E S => Kept st S ∧ E 0 = x ∧ E 5 = .int .i32 ((accP l p (n - 1) : Nat) : Int) ∧ E 6 = .int .i64 (n : Int)) ?_ ?_
    · simp (maxSteps := 1000000) (disch := omega) only [h0, h6, hslc, hlm, qaaz, qabz, qadz, qajz, qalz, evOp, qaoz, qapz, qarz, qatz, qavz,
 ↓reduceIte, Nat.reduceEqDiff, Option.map_some, Option.map_none, qazz]
      refine W_loop I ?_ start
      clear hk h0 h5 h6 start
      intro m E S hh
      rw [hI] at hh
      obtain ⟨k, rfl, hk1, hck, hk, h0, h5, h6, h52, h53, h54⟩ := hh
      by_cases hlt : k < n - 1
      · obtain ⟨d, hd⟩ : ∃ d, d = l.getD (k + 1) 0 := ⟨_, rfl⟩
        have hid : iaddrPV 1 (x.midB 1 n) (.int .i64 (k : Int)) = some (.cp [.b8 d]) := by
          rw [iaddr_by hmb (by omega) (by rw [hml]; simpa using hlt), Int.toNat_natCast, mid_getD (by omega), ← hd]
        have hdc := hcb k hlt
        rw [← hd] at hdc
        have q6 : UInt8.ofNat (d.toNat / 64) = 2 := (isC d).2 hdc
        have ha := hacc k (by omega)
        have hstep : accP l p (k + 1) = 64 * accP l p k + d.toNat % 64 := by rw [hd]; rfl
        simp (maxSteps := 1000000) (disch := omega) only [h5, h52, h53, h54, hlt, hid, qciz, shr6, eq_true q6, shl6 ha, and_8, cI32, and63, or_i32 (q := d.toNat % 64) ha (by omega), add_n, qaaz, qabz, qacz, qadz, qaez, qajz, qalz, evOp, qaoz, qapz, qarz, qatz, qavz,
 ↓reduceIte, Nat.reduceEqDiff, Option.map_some, qazz, qbdz, qbhz, qbpz, qbwz, qciz, decide_true, decide_false,
 Int.ofNat_lt, Bool.false_eq_true, Int.reduceToNat, ne_eq, not_true_eq_false]
        exact loopQ_intro (m := n - 1 - (k + 1)) (by omega) (nxt k _ _ (fun j hj => by
          by_cases hjk : j = k
          · subst hjk; rw [← hd]; exact hdc
          · exact hck j (by omega)) (by omega) hk h0 (by rw [hstep]; rfl) h6 h52 h53 rfl)
      · obtain rfl : k = n - 1 := by omega
        simp (maxSteps := 1000000) (disch := omega) only [h0, h5, h6, h53, h54, hlt, qaaz, qabz, qacz, qagz, qajz, qalz, evOp, qaoz, qarz, qatz, qavz,
 ↓reduceIte, Nat.reduceEqDiff, Option.map_some, qazz, qbbz, qbfz, qbhz, qbjz, qbpz, decide_false,
 Int.ofNat_lt, Bool.false_eq_true, true_and, and_true, reduceCtorEq]
        exact hk
    clear hk h0 h5 h6 start
    rintro e S ⟨hk, h0, h5, h6⟩
    obtain ⟨v, hv⟩ : ∃ v, v = accP l p (n - 1) := ⟨_, rfl⟩
    rw [← hv] at h5 hnx
    have hip := fun S : St => isPoint_spec (st := S) (p := v)
    by_cases hpt : pointN v
    · simp only [decide_eq_true hpt] at hip
      by_cases hlow : v < lowN n
      · have hno : nextOf l = none := by rw [hnx, if_pos (.inr (.inr (.inr (.inr hlow))))]
        rcases hn24 with ⟨rfl, -⟩ | ⟨rfl, -⟩ | ⟨rfl, -⟩
        · have h6' : e 6 = .int .i64 2 := h6
          have f1 : (v : Int) < 128 := by simp [lowN] at hlow; omega
          simp (maxSteps := 1000000) (disch := omega) only [h5, h6', hip, f1, qaaz, qabz, qacz, qahz, qajz, qakz, qalz, qamz, qanz, evOp, qaoz, qapz, qaqz, qarz, qatz, qavz,
 ↓reduceIte, Nat.reduceEqDiff, List.map_cons, List.map_nil, Option.map_some, qazz, qbcz, qbhz, qbpz, qbtz, qcfz, beq_true, beq_false, decide_true, Bool.false_eq_true, Bool.not_true, Bool.not_false]
          exact wrong _ _ hk hno hne
        · have h6' : e 6 = .int .i64 3 := h6
          have f1 : (v : Int) < 2048 := by simp [lowN] at hlow; omega
          simp (maxSteps := 1000000) (disch := omega) only [h5, h6', hip, f1, qaaz, qabz, qacz, qahz, qajz, qakz, qalz, qamz, qanz, evOp, qaoz, qapz, qaqz, qarz, qatz, qavz,
 ↓reduceIte, Nat.reduceEqDiff, List.map_cons, List.map_nil, Option.map_some, qazz, qbcz, qbhz, qbpz, qbtz, qcfz, beq_true, beq_false, decide_true, decide_false,
 Bool.false_eq_true, Bool.not_true, Bool.not_false, Int.reduceEq]
          exact wrong _ _ hk hno hne
        · have h6' : e 6 = .int .i64 4 := h6
          have f1 : (v : Int) < 65536 := by simp [lowN] at hlow; omega
          simp (maxSteps := 1000000) (disch := omega) only [h5, h6', hip, f1, qaaz, qabz, qacz, qahz, qajz, qakz, qalz, qamz, qanz, evOp, qaoz, qapz, qaqz, qarz, qatz, qavz,
 ↓reduceIte, Nat.reduceEqDiff, List.map_cons, List.map_nil, Option.map_some, qazz, qbcz, qbhz, qbpz, qbtz, qcfz, beq_true, beq_false, decide_true, decide_false,
 Bool.false_eq_true, Bool.not_true, Bool.not_false, Int.reduceEq]
          exact wrong _ _ hk hno hne
      · have hyes : nextOf l = some (v, n) := by
          rw [hnx, if_neg]
          simp only [not_or, Classical.not_not]
          exact ⟨hn0, hln, hcb, hpt, hlow⟩
        rcases hn24 with ⟨rfl, -⟩ | ⟨rfl, -⟩ | ⟨rfl, -⟩
        · have h6' : e 6 = .int .i64 2 := h6
          have f1 : ¬ (v : Int) < 128 := by simp [lowN] at hlow; omega
          simp (maxSteps := 1000000) (disch := omega) only [h5, h6', hip, f1, qaaz, qabz, qacz, qaez, qaiz, qajz, qakz, qalz, qamz, qanz, evOp, qaoz, qapz, qaqz, qarz, qatz, qavz,
 ↓reduceIte, Nat.reduceEqDiff, List.map_cons, List.map_nil, Option.map_some, qazz, qbaz, qbhz, qbpz, qbtz, qcfz, beq_true, beq_false, decide_true, decide_false,
 Bool.false_eq_true, Bool.not_true, Bool.not_false, Int.reduceEq]
          exact fin _ _ _ _ _ hk (nextV_some hyes) rfl rfl rfl
        · have h6' : e 6 = .int .i64 3 := h6
          have f1 : ¬ (v : Int) < 2048 := by simp [lowN] at hlow; omega
          simp (maxSteps := 1000000) (disch := omega) only [h5, h6', hip, f1, qaaz, qabz, qacz, qaez, qaiz, qajz, qakz, qalz, qamz, qanz, evOp, qaoz, qapz, qaqz, qarz, qatz, qavz,
 ↓reduceIte, Nat.reduceEqDiff, List.map_cons, List.map_nil, Option.map_some, qazz, qbaz, qbhz, qbpz, qbtz, qcfz, beq_true, beq_false, decide_true, decide_false,
 Bool.false_eq_true, Bool.not_true, Bool.not_false, Int.reduceEq]
          exact fin _ _ _ _ _ hk (nextV_some hyes) rfl rfl rfl
        · have h6' : e 6 = .int .i64 4 := h6
          have f1 : ¬ (v : Int) < 65536 := by simp [lowN] at hlow; omega
          simp (maxSteps := 1000000) (disch := omega) only [h5, h6', hip, f1, qaaz, qabz, qacz, qaez, qaiz, qajz, qakz, qalz, qamz, qanz, evOp, qaoz, qapz, qaqz, qarz, qatz, qavz,
 ↓reduceIte, Nat.reduceEqDiff, List.map_cons, List.map_nil, Option.map_some, qazz, qbaz, qbhz, qbpz, qbtz, qcfz, beq_true, beq_false, decide_true, decide_false,
 Bool.false_eq_true, Bool.not_true, Bool.not_false, Int.reduceEq]
          exact fin _ _ _ _ _ hk (nextV_some hyes) rfl rfl rfl
    · simp only [decide_eq_false hpt] at hip
      simp (maxSteps := 1000000) (disch := omega) only [h5, hip, qaaz, qabz, qacz, qahz, qajz, qakz, qalz, qamz, qanz, evOp, qaoz, qapz, qaqz, qarz, qatz, qavz,
 ↓reduceIte, Nat.reduceEqDiff, List.map_cons, List.map_nil, Option.map_some, qazz, qbcz, qbhz, qcfz, beq_false, Bool.false_eq_true, Bool.not_true, Bool.not_false]
      exact wrong _ _ hk (by rw [hnx, if_pos (.inr (.inr (.inr (.inl hpt))))]) hne
  · have hno : nextOf l = none := by rw [hnx, if_pos (.inr (.inr (.inl hcb)))]
    simp (maxSteps := 1000000) (disch := omega) only [h0, h6, hslc, hlm, qaaz, qabz, qadz, qajz, qalz, evOp, qaoz, qapz, qarz, qatz, qavz,
 ↓reduceIte, Nat.reduceEqDiff, Option.map_some, Option.map_none, qazz]
    refine W_loop I ?_ start
    clear hk h0 h5 h6 start
    intro m E S hh
    rw [hI] at hh
    obtain ⟨k, rfl, hk1, hck, hk, h0, h5, h6, h52, h53, h54⟩ := hh
    by_cases hlt : k < n - 1
    · obtain ⟨d, hd⟩ : ∃ d, d = l.getD (k + 1) 0 := ⟨_, rfl⟩
      have hid : iaddrPV 1 (x.midB 1 n) (.int .i64 (k : Int)) = some (.cp [.b8 d]) := by
        rw [iaddr_by hmb (by omega) (by rw [hml]; simpa using hlt), Int.toNat_natCast, mid_getD (by omega), ← hd]
      by_cases q6 : UInt8.ofNat (d.toNat / 64) = 2
      · have hdc := (isC d).1 q6
        have ha := hacc k (by omega)
        have hstep : accP l p (k + 1) = 64 * accP l p k + d.toNat % 64 := by rw [hd]; rfl
        simp (maxSteps := 1000000) (disch := omega) only [h5, h52, h53, h54, hlt, hid, qciz, shr6, eq_true q6, shl6 ha, and_8, cI32, and63, or_i32 (q := d.toNat % 64) ha (by omega), add_n, qaaz, qabz, qacz, qadz, qaez, qajz, qalz, evOp, qaoz, qapz, qarz, qatz, qavz,
 ↓reduceIte, Nat.reduceEqDiff, Option.map_some, qazz, qbdz, qbhz, qbpz, qbwz, qciz, decide_true, decide_false,
 Int.ofNat_lt, Bool.false_eq_true, Int.reduceToNat, ne_eq, not_true_eq_false]
        exact loopQ_intro (m := n - 1 - (k + 1)) (by omega) (nxt k _ _ (fun j hj => by
          by_cases hjk : j = k
          · subst hjk; rw [← hd]; exact hdc
          · exact hck j (by omega)) (by omega) hk h0 (by rw [hstep]; rfl) h6 h52 h53 rfl)
      · simp (maxSteps := 1000000) (disch := omega) only [h52, h53, h54, hlt, hid, qciz, shr6, q6, qaaz, qabz, qacz, qadz, qaez, qahz, qajz, qalz, evOp, qaoz, qapz, qarz, qatz, qavz,
 ↓reduceIte, Nat.reduceEqDiff, Option.map_some, qazz, qbcz, qbgz, qbhz, qbkz, qbpz, qbwz, qciz, decide_true, Int.ofNat_lt, ne_eq, not_false_eq_true]
        exact wrong _ _ hk hno hne
    · obtain rfl : k = n - 1 := by omega
      exact absurd hck hcb
end Go.Ab
/-
  A point's bytes, by the document; the point at a text's front is the one whose bytes stand there.
-/
namespace Go.Ab
variable {st s : St} {e : Env}

theorem rPoint_spec {p : Nat} : call prog (.fn 85 []) [.int .i32 (p : Int)] st = some (.bool (decide (pointN p)), st) := by
  refine call_of_W prog_85 ?_
  unfold F_posthornref02_Point; dsimp only
  have e0 : (0 : Int) ≤ (p : Int) := by omega
  by_cases h2 : p < 55296
  · have e2 : (p : Int) < 55296 := by omega
    simp (maxSteps := 1000000) (disch := omega) only [e0, e2, qaaz, qabz, qaiz, qajz, qakz, qalz, qamz, qanz, evOp, qaoz, qapz, qarz, qatz, qavz,
 ↓reduceIte, Nat.reduceEqDiff, List.append_nil, qawz, Option.map_some, qazz, qblz, qbpz, qbsz, beq_true, beq_false, decide_true, Bool.false_eq_true, reduceCtorEq, Bool.not_true]
    rw [show decide (pointN p) = true by simp [pointN, h2]]
    exact end1 rfl Kp_bool
  have e2 : ¬ (p : Int) < 55296 := by omega
  by_cases h3 : 57343 < p
  · have e3 : (57343 : Int) < (p : Int) := by omega
    by_cases h1 : p ≤ 1114111
    · have e1 : (p : Int) ≤ 1114111 := by omega
      simp (maxSteps := 1000000) (disch := omega) only [e0, e1, e2, e3, qaaz, qabz, qaiz, qajz, qakz, qalz, qamz, qanz, evOp, qaoz, qapz, qarz, qatz, qavz,
 ↓reduceIte, Nat.reduceEqDiff, List.append_nil, qawz, Option.map_some, qazz, qblz, qbpz, qbqz, qbrz, qbsz, beq_true, beq_false, decide_true, decide_false,
 Bool.false_eq_true, reduceCtorEq, Bool.not_false]
      rw [show decide (pointN p) = true by simp [pointN, h3, h1]]
      exact end1 rfl Kp_bool
    · have e1 : ¬ (p : Int) ≤ 1114111 := by omega
      simp (maxSteps := 1000000) (disch := omega) only [e0, e1, e2, e3, qaaz, qabz, qaiz, qajz, qakz, qalz, qamz, qanz, evOp, qaoz, qapz, qarz, qatz, qavz,
 ↓reduceIte, Nat.reduceEqDiff, List.append_nil, qawz, Option.map_some, qazz, qblz, qbpz, qbqz, qbrz, qbsz, beq_true, beq_false, decide_true, decide_false,
 Bool.false_eq_true, reduceCtorEq, Bool.not_false]
      rw [show decide (pointN p) = false from decide_eq_false (by unfold pointN; omega)]
      exact end1 rfl Kp_bool
  · have e3 : ¬ (57343 : Int) < (p : Int) := by omega
    simp (maxSteps := 1000000) (disch := omega) only [e0, e2, e3, qaaz, qabz, qaiz, qajz, qakz, qalz, qamz, qanz, evOp, qaoz, qapz, qarz, qatz, qavz,
 ↓reduceIte, Nat.reduceEqDiff, List.append_nil, qawz, Option.map_some, qazz, qblz, qbpz, qbrz, qbsz, beq_true, beq_false, decide_true, decide_false,
 Bool.false_eq_true, reduceCtorEq, Bool.not_false]
    rw [show decide (pointN p) = false from decide_eq_false (by unfold pointN; omega)]
    exact end1 rfl Kp_bool

def putOf (p : Nat) : List UInt8 :=
  if p < 128 then [UInt8.ofNat p] else if p < 2048 then [UInt8.ofNat (192 + p / 64), UInt8.ofNat (128 + p % 64)]
  else if p < 65536 then [UInt8.ofNat (224 + p / 4096), UInt8.ofNat (128 + p / 64 % 64), UInt8.ofNat (128 + p % 64)]
  else [UInt8.ofNat (240 + p / 262144), UInt8.ofNat (128 + p / 4096 % 64), UInt8.ofNat (128 + p / 64 % 64), UInt8.ofNat (128 + p % 64)]

theorem quo32 {ek : EK} {p : Nat} {c : Int} (h1 : 0 < c) (h : p < 2147483648) : binPV .quo ek (.int .i32 (p : Int)) (.int .i32 c) = some (.int .i32 ((p / c.toNat : Nat) : Int)) := by
  obtain ⟨d, rfl⟩ : ∃ d : Nat, c = (d : Int) := ⟨c.toNat, by omega⟩
  simp only [binPV, binI, if_true]
  rw [if_neg (by omega), Int.toNat_natCast]
  have : (p : Int).tdiv (d : Int) = ((p / d : Nat) : Int) := (Int.ofNat_tdiv p d).symm
  have h3 := Nat.div_le_self p d
  have h4 : (0 : Int) ≤ ((p / d : Nat) : Int) := Int.natCast_nonneg _
  rw [this, wrap32 (by omega) (by omega)]
theorem rem32 {ek : EK} {p : Nat} {c : Int} (h1 : 0 < c) : binPV .rem ek (.int .i32 (p : Int)) (.int .i32 c) = some (.int .i32 ((p % c.toNat : Nat) : Int)) := by
  obtain ⟨d, rfl⟩ : ∃ d : Nat, c = (d : Int) := ⟨c.toNat, by omega⟩
  simp only [binPV, binI, if_true]
  rw [if_neg (by omega), Int.toNat_natCast]
  have : (p : Int).tmod (d : Int) = ((p % d : Nat) : Int) := (Int.ofNat_tmod p d).symm
  rw [this]
theorem addc32 {ek : EK} {a : Nat} {c : Int} (h1 : 0 ≤ c) (h2 : c.toNat + a < 2147483648) : binPV .add ek (.int .i32 c) (.int .i32 (a : Int)) = some (.int .i32 ((c.toNat + a : Nat) : Int)) := by
  simp only [binPV, binI, reduceIte, Option.some.injEq]
  rw [wrap32 (by omega) (by omega)]
  congr 1; omega
theorem cI8 {n : Nat} (h : n < 256) : cIntPV .u8 (.int .i32 (n : Int)) = some (.b8 (UInt8.ofNat n)) := by
  simp only [cIntPV]
  have : IntKind.u8.wrap (n : Int) = (n : Int) := by
    unfold IntKind.wrap
    simp only [IntKind.signed, IntKind.bits]
    simp
    omega
  rw [this, Int.toNat_natCast]
theorem leave_mine2 {v : PV} {l : List UInt8} {n : Int} (hk : Kept st s) (hm : Mine st s v l) (hne : l ≠ []) : leave st s (.tup [v, .int .i64 n]) = (.tup [.bys (.own st.toks.length) l, .int .i64 n], st.tok1) := by
  have e1 := hk.bx; have e2 := hk.lp; have e3 := hk.tk
  rcases hm.1 with ⟨rfl, rfl⟩ | ⟨i, rfl, hi⟩
  · exact absurd rfl hne
  · have h2 := hm.2 i rfl
    simp [leave, PV.inB, PV.inB.inBAll, hk.lw, keepRes, keepVals, keepVal, keepLeaf, keepTok, hi, show ¬ i < st.toks.length by omega, e1, e2, e3, St.tok1]
theorem lit8_3 {a b c : UInt8} : lit8Fill (List.replicate 3 0) [(0, .b8 a), (1, .b8 b), (2, .b8 c)] = some [a, b, c] := rfl
theorem lit8_4 {a b c d : UInt8} : lit8Fill (List.replicate 4 0) [(0, .b8 a), (1, .b8 b), (2, .b8 c), (3, .b8 d)] = some [a, b, c, d] := rfl

def putV (st : St) (p : Nat) : PV × St := if pointN p then (.tup [.bys (.own st.toks.length) (putOf p), .int .i64 0], st.tok1) else (.tup [.nils, .int .i64 20], st)

theorem Put_spec {p : Nat} (hp : p < 2147483648) : call prog (.fn 81 []) [.int .i32 (p : Int)] st = some (putV st p) := by
  refine call_of_W prog_81 ?_
  unfold F_posthornref02_Put; dsimp only
  have hk : Kept st { boxes := st.boxes, toks := st.toks, loops := st.loops, low := st.boxes.length } := Kept.start
  have hip := fun S : St => rPoint_spec (st := S) (p := p)
  by_cases hpt : pointN p
  · simp only [decide_eq_true hpt] at hip
    have hpt2 : p ≤ 1114111 := by unfold pointN at hpt; omega
    have hv : putV st p = (.tup [.bys (.own st.toks.length) (putOf p), .int .i64 0], st.tok1) := by simp [putV, hpt]
    have fin : ∀ (v : PV) (S : St), Kept st S → Mine st S v (putOf p) → ∀ E : Env, E 2 = v → E 3 = .int .i64 0 → ∃ rv, resOf E S [.tmp 2, .tmp 3] = some rv ∧ leave st S rv = putV st p := by
      intro v S k1 m1 E k2 k3
      refine ⟨.tup [v, .int .i64 0], ?_, ?_⟩
      · have hnt : notTup v = true := by rcases m1.1 with ⟨rfl, _⟩ | ⟨i, rfl, _⟩ <;> rfl
        simp [resOf, rvAll, rv1, k2, k3, hnt, packRes]
        rfl
      · rw [hv]
        refine leave_mine2 k1 m1 ?_
        unfold putOf
        split
        · simp
        · split
          · simp
          · split <;> simp
    have app : ∀ m : List UInt8, m.length ≤ 4 → ∃ v S, app8 (St.tok1 { boxes := st.boxes, toks := st.toks, loops := st.loops, low := st.boxes.length }) .nils (.bys (.own st.toks.length) m) = some (v, S) ∧ Kept st S ∧ Mine st S v m := by
      intro m hm
      obtain ⟨v, S, a1, k1, m1⟩ := hk.tok1.app8 (v := .nils) (l := []) (y := .bys (.own st.toks.length) m) (m := m) Mine.nil rfl (by simp [room]; omega)
      exact ⟨v, S, a1, k1, by simpa using m1⟩
    by_cases h1 : p < 128
    · have e1 : (p : Int) < 128 := by omega
      obtain ⟨v, S, a1, k1, m1⟩ := app [UInt8.ofNat p] (by simp)
      simp (maxSteps := 1000000) (disch := omega) only [hip, e1, cI8, lit8_1, freshT_eq, a1, qaaz, qabz, qacz, qaez, qaiz, qajz, qalz, evOp, qaoz, qapz, qaqz, qarz, qatz, qavz,
 ↓reduceIte, Nat.reduceEqDiff, List.append_nil, List.map_cons, List.map_nil, qawz, Option.map_some, qazz, qbaz, qbhz, qblz, qbpz, qcfz, decide_true, Bool.false_eq_true, reduceCtorEq, Bool.not_true]
      exact fin v S k1 (by simpa [putOf, h1] using m1) _ rfl rfl
    have e1 : ¬ (p : Int) < 128 := by omega
    by_cases h2 : p < 2048
    · have e2 : (p : Int) < 2048 := by omega
      obtain ⟨v, S, a1, k1, m1⟩ := app [UInt8.ofNat (192 + p / 64), UInt8.ofNat (128 + p % 64)] (by simp)
      simp (maxSteps := 1000000) (disch := omega) only [hip, e1, e2, quo32, rem32, addc32, cI8, lit8_2, freshT_eq, a1, qaaz, qabz, qacz, qaez, qaiz, qajz, qalz, evOp, qaoz, qapz, qaqz, qarz, qatz, qavz,
 ↓reduceIte, Nat.reduceEqDiff, List.append_nil, List.map_cons, List.map_nil, qawz, Option.map_some, qazz, qbaz, qbhz, qblz, qbpz, qcfz, decide_true, decide_false,
 Bool.false_eq_true, Int.reduceToNat, reduceCtorEq, Bool.not_true]
      exact fin v S k1 (by simpa [putOf, h1, h2] using m1) _ rfl rfl
    have e2 : ¬ (p : Int) < 2048 := by omega
    by_cases h3 : p < 65536
    · have e3 : (p : Int) < 65536 := by omega
      obtain ⟨v, S, a1, k1, m1⟩ := app [UInt8.ofNat (224 + p / 4096), UInt8.ofNat (128 + p / 64 % 64), UInt8.ofNat (128 + p % 64)] (by simp)
      simp (maxSteps := 1000000) (disch := omega) only [hip, e1, e2, e3, quo32, rem32, addc32, cI8, lit8_3, freshT_eq, a1, qaaz, qabz, qacz, qaez, qaiz, qajz, qalz, evOp, qaoz, qapz, qaqz, qarz, qatz, qavz,
 ↓reduceIte, Nat.reduceEqDiff, List.append_nil, List.map_cons, List.map_nil, qawz, Option.map_some, qazz, qbaz, qbhz, qblz, qbpz, qcfz, decide_true, decide_false,
 Bool.false_eq_true, Int.reduceToNat, reduceCtorEq, Bool.not_true]
      exact fin v S k1 (by simpa [putOf, h1, h2, h3] using m1) _ rfl rfl
    · have e3 : ¬ (p : Int) < 65536 := by omega
      obtain ⟨v, S, a1, k1, m1⟩ := app [UInt8.ofNat (240 + p / 262144), UInt8.ofNat (128 + p / 4096 % 64), UInt8.ofNat (128 + p / 64 % 64), UInt8.ofNat (128 + p % 64)] (by simp)
      simp (maxSteps := 1000000) (disch := omega) only [hip, e1, e2, e3, quo32, rem32, addc32, cI8, lit8_4, freshT_eq, a1, qaaz, qabz, qacz, qaez, qaiz, qajz, qalz, evOp, qaoz, qapz, qaqz, qarz, qatz, qavz,
 ↓reduceIte, Nat.reduceEqDiff, List.append_nil, List.map_cons, List.map_nil, qawz, Option.map_some, qazz, qbhz, qblz, qbpz, qcfz, decide_false,
 Bool.false_eq_true, Int.reduceToNat, reduceCtorEq, Bool.not_true]
      exact fin v S k1 (by simpa [putOf, h1, h2, h3] using m1) _ rfl rfl
  · simp only [decide_eq_false hpt] at hip
    have hv : putV st p = (.tup [.nils, .int .i64 20], st) := by simp [putV, hpt]
    have fin : ∀ E : Env, E 2 = .nils → E 3 = .int .i64 20 → ∃ rv, resOf E { boxes := st.boxes, toks := st.toks, loops := st.loops, low := st.boxes.length } [.tmp 2, .tmp 3] = some rv ∧ leave st { boxes := st.boxes, toks := st.toks, loops := st.loops, low := st.boxes.length } rv = putV st p := by
      intro E k2 k3
      exact ⟨.tup [.nils, .int .i64 20], by simp [resOf, rvAll, rv1, k2, k3, notTup, packRes], by rw [hv]; exact hk.leave rfl (fun _ _ => rfl)⟩
    simp (maxSteps := 1000000) (disch := omega) only [hip, qaaz, qabz, qacz, qaiz, qajz, qalz, evOp, qaoz, qapz, qaqz, qarz, qatz, qavz,
 ↓reduceIte, List.append_nil, List.map_cons, List.map_nil, qawz, Option.map_some, qazz, qbaz, qbhz, qblz, qcfz, reduceCtorEq, Bool.not_false]
    exact fin _ rfl rfl
end Go.Ab
/-
  The point at the front is the one whose bytes stand there.
-/
namespace Go.Ab
variable {st s : St} {e : Env}

def mdN (n : Nat) : Nat := if n = 2 then 32 else if n = 3 then 16 else 8
def qN (l : List UInt8) (n : Nat) : Nat := accP l ((l.getD 0 0).toNat % mdN n) (n - 1)
def succN (l : List UInt8) (n : Nat) : Prop := pointN (qN l n) ∧ putOf (qN l n) = l.take n

theorem u8_of {a : UInt8} {k : Nat} (h : k = a.toNat) : UInt8.ofNat k = a := by rw [h]; simp
theorem of_u8 {a : UInt8} {k : Nat} (h : UInt8.ofNat k = a) (hk : k < 256) : k = a.toNat := by
  rw [← h]; simp; omega

theorem lead2 {c : Nat} (h : 192 ≤ c ∧ c < 224) : lead c = (c % 32, 2) := by unfold lead; rw [if_pos h]
theorem lead3 {c : Nat} (h : 224 ≤ c ∧ c < 240) : lead c = (c % 16, 3) := by unfold lead; rw [if_neg (by omega), if_pos h]
theorem lead4 {c : Nat} (h : 240 ≤ c ∧ c < 248) : lead c = (c % 8, 4) := by unfold lead; rw [if_neg (by omega), if_neg (by omega), if_pos h]

theorem next_of {l : List UInt8} {p n : Nat} (hne : l ≠ []) (hc : ¬ (l.getD 0 0).toNat < 128) (hl : lead (l.getD 0 0).toNat = (p, n)) (hn : n ≠ 0) (hlen : n ≤ l.length) (hcb : contB l (n - 1)) (hp : pointN (accP l p (n - 1))) (hlow : lowN n ≤ accP l p (n - 1)) :
    nextOf l = some (accP l p (n - 1), n) := by
  unfold nextOf
  rw [if_neg hne, if_neg hc, hl, if_neg]
  simp only [not_or, Classical.not_not]
  exact ⟨hn, by omega, hcb, hp, by omega⟩

theorem succ_next {l : List UInt8} {n : Nat} (hn : n = 2 ∨ n = 3 ∨ n = 4) (hlen : n ≤ l.length) (hc : ¬ (l.getD 0 0).toNat < 128) (h : succN l n) : nextOf l = some (qN l n, n) := by
  have hne : l ≠ [] := by rintro rfl; simp at hlen; omega
  obtain ⟨h1, h2⟩ := h
  rcases hn with rfl | rfl | rfl
  · match l, hlen with
    | a :: b :: r, _ =>
      simp only [qN, mdN, accP, if_true, List.getD_cons_zero, List.getD_cons_succ, Nat.reduceSub, List.take_succ_cons, List.take_zero] at h1 h2 hc ⊢
      have ha := a.toNat_lt; have hb := b.toNat_lt
      obtain ⟨q, hq⟩ : ∃ q, q = 64 * (a.toNat % 32) + b.toNat % 64 := ⟨_, rfl⟩
      rw [← hq] at h1 h2 ⊢
      unfold putOf at h2
      split at h2
      · simp at h2
      · split at h2
        · simp only [List.cons.injEq, and_true] at h2
          have e1 := of_u8 h2.1 (by omega)
          have e2 := of_u8 h2.2 (by omega)
          have := next_of (l := a :: b :: r) (p := a.toNat % 32) (n := 2) hne (by simpa using hc) (lead2 (by simp only [List.getD_cons_zero]; omega)) (by omega) (by simp) (by
            intro j hj
            match j, hj with
            | 0, _ => simp only [List.getD_cons_succ, List.getD_cons_zero]; omega) (by simpa [accP, ← hq] using h1) (by simp [accP, lowN, ← hq]; omega)
          simpa [accP, ← hq] using this
        · split at h2 <;> simp at h2
  · match l, hlen with
    | a :: b :: c :: r, _ =>
      simp only [qN, mdN, accP, if_true, List.getD_cons_zero, List.getD_cons_succ, Nat.reduceSub, Nat.reduceEqDiff, if_false, List.take_succ_cons, List.take_zero] at h1 h2 hc ⊢
      have ha := a.toNat_lt; have hb := b.toNat_lt; have hcc := c.toNat_lt
      obtain ⟨q, hq⟩ : ∃ q, q = 64 * (64 * (a.toNat % 16) + b.toNat % 64) + c.toNat % 64 := ⟨_, rfl⟩
      rw [← hq] at h1 h2 ⊢
      unfold putOf at h2
      split at h2
      · simp at h2
      · split at h2
        · simp at h2
        · split at h2
          · simp only [List.cons.injEq, and_true] at h2
            have e1 := of_u8 h2.1 (by omega)
            have e2 := of_u8 h2.2.1 (by omega)
            have e3 := of_u8 h2.2.2 (by omega)
            have := next_of (l := a :: b :: c :: r) (p := a.toNat % 16) (n := 3) hne (by simpa using hc) (lead3 (by simp only [List.getD_cons_zero]; omega)) (by omega) (by simp) (by
              intro j hj
              match j, hj with
              | 0, _ => simp only [List.getD_cons_succ, List.getD_cons_zero]; omega
              | 1, _ => simp only [List.getD_cons_succ, List.getD_cons_zero]; omega) (by simpa [accP, ← hq] using h1) (by simp [accP, lowN, ← hq]; omega)
            simpa [accP, ← hq] using this
          · simp at h2
  · match l, hlen with
    | a :: b :: c :: d :: r, _ =>
      simp only [qN, mdN, accP, List.getD_cons_zero, List.getD_cons_succ, Nat.reduceSub, Nat.reduceEqDiff, if_false, List.take_succ_cons, List.take_zero] at h1 h2 hc ⊢
      have ha := a.toNat_lt; have hb := b.toNat_lt; have hcc := c.toNat_lt; have hdd := d.toNat_lt
      obtain ⟨q, hq⟩ : ∃ q, q = 64 * (64 * (64 * (a.toNat % 8) + b.toNat % 64) + c.toNat % 64) + d.toNat % 64 := ⟨_, rfl⟩
      rw [← hq] at h1 h2 ⊢
      have hq2 : q ≤ 1114111 := by unfold pointN at h1; omega
      unfold putOf at h2
      split at h2
      · simp at h2
      · split at h2
        · simp at h2
        · split at h2
          · simp at h2
          · simp only [List.cons.injEq, and_true] at h2
            have e1 := of_u8 h2.1 (by omega)
            have e2 := of_u8 h2.2.1 (by omega)
            have e3 := of_u8 h2.2.2.1 (by omega)
            have e4 := of_u8 h2.2.2.2 (by omega)
            have := next_of (l := a :: b :: c :: d :: r) (p := a.toNat % 8) (n := 4) hne (by simpa using hc) (lead4 (by simp only [List.getD_cons_zero]; omega)) (by omega) (by simp) (by
              intro j hj
              match j, hj with
              | 0, _ => simp only [List.getD_cons_succ, List.getD_cons_zero]; omega
              | 1, _ => simp only [List.getD_cons_succ, List.getD_cons_zero]; omega
              | 2, _ => simp only [List.getD_cons_succ, List.getD_cons_zero]; omega) (by simpa [accP, ← hq] using h1) (by simp [accP, lowN, ← hq]; omega)
            simpa [accP, ← hq] using this

theorem next_succ {l : List UInt8} {v n : Nat} (hc : ¬ (l.getD 0 0).toNat < 128) (h : nextOf l = some (v, n)) : (n = 2 ∨ n = 3 ∨ n = 4) ∧ n ≤ l.length ∧ succN l n := by
  unfold nextOf at h
  split at h
  · cases h
  rename_i hne
  simp only at h
  split at h
  · cases h
  rename_i hcond
  simp only [not_or, Classical.not_not] at hcond
  obtain ⟨c1, c2, c3, c4, c5⟩ := hcond
  simp only [Option.some.injEq, Prod.mk.injEq] at h
  obtain ⟨hv, hn⟩ := h
  rw [hn] at c1 c2 c3 c4 c5 hv
  have hl : lead (l.getD 0 0).toNat = ((lead (l.getD 0 0).toNat).1, n) := by rw [← hn]
  unfold lead at hl
  split at hl
  · rename_i hr
    simp only [Prod.mk.injEq] at hl
    obtain ⟨-, rfl⟩ := hl
    rw [lead2 hr] at c4 c5
    match l, c2 with
    | a :: b :: r, _ =>
      refine ⟨.inl rfl, by simp, ?_⟩
      have hb := c3 0 (by omega)
      simp only [succN, qN, mdN, accP, lowN, if_true, List.getD_cons_zero, List.getD_cons_succ, Nat.reduceSub, List.take_succ_cons, List.take_zero] at hr hb c4 c5 ⊢
      obtain ⟨q, hq⟩ : ∃ q, q = 64 * (a.toNat % 32) + b.toNat % 64 := ⟨_, rfl⟩
      rw [← hq] at c4 c5 ⊢
      refine ⟨c4, ?_⟩
      unfold putOf
      rw [if_neg (by omega), if_pos (by omega), u8_of (a := a) (by omega), u8_of (a := b) (by omega)]
    | [], h => simp at h
    | [a], h => simp at h
  · split at hl
    · rename_i hr
      simp only [Prod.mk.injEq] at hl
      obtain ⟨-, rfl⟩ := hl
      rw [lead3 hr] at c4 c5
      match l, c2 with
      | a :: b :: c :: r, _ =>
        refine ⟨.inr (.inl rfl), by simp, ?_⟩
        have hb := c3 0 (by omega)
        have hb2 := c3 1 (by omega)
        simp only [succN, qN, mdN, accP, lowN, if_true, List.getD_cons_zero, List.getD_cons_succ, Nat.reduceSub, Nat.reduceEqDiff, if_false, List.take_succ_cons, List.take_zero] at hr hb hb2 c4 c5 ⊢
        obtain ⟨q, hq⟩ : ∃ q, q = 64 * (64 * (a.toNat % 16) + b.toNat % 64) + c.toNat % 64 := ⟨_, rfl⟩
        rw [← hq] at c4 c5 ⊢
        refine ⟨c4, ?_⟩
        unfold putOf
        rw [if_neg (by omega), if_neg (by omega), if_pos (by omega), u8_of (a := a) (by omega), u8_of (a := b) (by omega), u8_of (a := c) (by omega)]
      | [], h => simp at h
      | [a], h => simp at h
      | [a, b], h => simp at h
    · split at hl
      · rename_i hr
        simp only [Prod.mk.injEq] at hl
        obtain ⟨-, rfl⟩ := hl
        rw [lead4 hr] at c4 c5
        match l, c2 with
        | a :: b :: c :: d :: r, _ =>
          refine ⟨.inr (.inr rfl), by simp, ?_⟩
          have hb := c3 0 (by omega)
          have hb2 := c3 1 (by omega)
          have hb3 := c3 2 (by omega)
          simp only [succN, qN, mdN, accP, lowN, List.getD_cons_zero, List.getD_cons_succ, Nat.reduceSub, Nat.reduceEqDiff, if_false, List.take_succ_cons, List.take_zero] at hr hb hb2 hb3 c4 c5 ⊢
          obtain ⟨q, hq⟩ : ∃ q, q = 64 * (64 * (64 * (a.toNat % 8) + b.toNat % 64) + c.toNat % 64) + d.toNat % 64 := ⟨_, rfl⟩
          rw [← hq] at c4 c5 ⊢
          refine ⟨c4, ?_⟩
          unfold putOf
          rw [if_neg (by omega), if_neg (by omega), if_neg (by omega), u8_of (a := a) (by omega), u8_of (a := b) (by omega), u8_of (a := c) (by omega), u8_of (a := d) (by omega)]
        | [], h => simp at h
        | [a], h => simp at h
        | [a, b], h => simp at h
        | [a, b, c], h => simp at h
      · simp only [Prod.mk.injEq] at hl
        exact absurd hl.2.symm c1
end Go.Ab
