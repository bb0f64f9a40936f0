/-
  Operations that make no memory, second part.
-/
import Derived.Test.YtemnjmphkmokmaaAbOp1
namespace Go.Ab
set_option linter.unusedVariables false
set_option linter.unusedSimpArgs false

variable {P : Program} {g : GMap} {base : Nat} {κ : K} {w : World} {st : St}

theorem unPV_sim {op : UnOp} {v : Value} {p r : PV} (hx : R g κ v p) (h : unPV op p = some r) : ∃ z, (Op.unary op v).run P w = .ok z w ∧ R g κ z r := by
  unfold unPV at h
  split at h
  · cases hx; cases h; exact ⟨_, rfl, .bool _⟩
  · cases hx with | int k n hk => cases h; exact ⟨_, rfl, .int _ _ hk⟩
  · cases h

theorem wrap_nat (k : IntKind) (hk : k ≠ .u8) (hk' : k ≠ .i8) (b : UInt8) : k.wrap b.toNat = b.toNat := by
  have := b.toNat_lt
  cases k <;> simp [IntKind.wrap, IntKind.bits, IntKind.signed] at * <;> omega

theorem cInt_sim {s d : TypeId} {k : IntKind} {v : Value} {p r : PV} (hs : (P.underlying s).isSome = true) (hd : intT P d = some k) (hx : R g κ v p) (h : cIntPV k p = some r) :
    ∃ z, (convert s d v).run P w = .ok z w ∧ R g κ z r := by
  obtain ⟨ds, hs⟩ := Option.isSome_iff_exists.1 hs
  have hd := intT_eq hd
  have key : ∀ (k' : IntKind) (n : Int), (convert s d (.int k' n)).run P w = .ok (.int k (k.wrap n)) w := fun k' n => by
    simp [convert, run_underlying hs, run_underlying hd, Conv.intToInt]
  unfold cIntPV at h
  split at h
  · cases hx with | int k' n hk =>
    split at h
    · cases h
      exact ⟨_, key _ _, .b8 _ _ (by rw [u8_wrap, u8_toNat_ofNat]; omega)⟩
    · rename_i hne
      cases h; exact ⟨_, key _ _, .int _ _ (by rintro rfl; exact hne rfl)⟩
  · cases hx with | b8 b n hn =>
    subst hn
    split at h
    · cases h
      exact ⟨_, key _ _, .b8 _ _ (by rw [u8_wrap]; have := UInt8.toNat_lt (by assumption); omega)⟩
    · cases h; exact ⟨_, key _ _, .int _ _ (by simp)⟩
    · rename_i h1 h2
      cases h
      refine ⟨_, key _ _, ?_⟩
      rw [wrap_nat _ (by rintro rfl; exact h1 rfl) (by rintro rfl; exact h2 rfl)]
      exact .int _ _ (by rintro rfl; exact h1 rfl)
  · cases h

theorem cStr_sim {s d : TypeId} {v : Value} {l : List UInt8} (hs : (P.underlying s).isSome = true) (hd : isStrT P d = true) (hx : R g κ v (.str l)) : (convert s d v).run P w = .ok v w := by
  obtain ⟨ds, hs⟩ := Option.isSome_iff_exists.1 hs
  have hd := isStrT_eq hd
  cases hx
  simp [convert, run_underlying hs, run_underlying hd]

theorem ext_sim {k : Nat} {v : Value} {p r : PV} (hx : R g κ v p) (h : extPV k p = some r) : ∃ z, (Instr.extract v k).run P w = .ok z w ∧ R g κ z r := by
  unfold extPV at h
  split at h
  · rename_i ps
    cases hx with | tup vs _ hl hne hr =>
    have hk : k < ps.length := (List.getElem?_eq_some_iff.1 h).1
    have hv : vs[k]? = some vs[k] := by simp [show k < vs.size by omega]
    exact ⟨vs[k], by simp only [Instr.extract, hv]; rfl, hr k _ _ hv h⟩
  · cases h

theorem len_sim {st' : Bool} {t : TypeId} {argTypes : Array TypeId} {ty : TypeId} {v : Value} {p r : PV} (hat : argTypes[0]? = some t) (ht : (if st' then isStrT P t else (sliceElem P t).isSome) = true) (hx : R g κ v p) (h : lenPV st' p = some r) :
    ∃ z, (Builtin.len_ argTypes ty #[v]).run P w = .ok z w ∧ R g κ z r := by
  cases st' with
  | true =>
    have hu := isStrT_eq (show isStrT P t = true from ht)
    cases p <;> simp [lenPV] at h
    cases hx with | str s l hl =>
    subst h hl
    exact ⟨_, by simp [Builtin.len_, hat, run_underlying hu, goInt] <;> rfl, .int _ _ (by simp)⟩
  | false =>
    obtain ⟨e, he⟩ := Option.isSome_iff_exists.1 (show (sliceElem P t).isSome = true from ht)
    have hu := sliceElem_eq he
    cases p <;> simp [lenPV] at h
    · cases hx; subst h
      exact ⟨_, by simp [Builtin.len_, hat, run_underlying hu, goInt] <;> rfl, .int _ _ (by simp)⟩
    · cases hx with | bys blk off n c t l hn hc hb ht' =>
      subst h hn
      exact ⟨_, by simp [Builtin.len_, hat, run_underlying hu, goInt], .int _ _ (by simp)⟩
    · cases hx with | sl blk off n c esz t xs vs hn =>
      subst h hn
      exact ⟨_, by simp [Builtin.len_, hat, run_underlying hu, goInt], .int _ _ (by simp)⟩
    · cases hx with | ms b off off' n c blk h1 h2 h3 =>
      subst h
      exact ⟨_, by simp [Builtin.len_, hat, run_underlying hu, goInt], .int _ _ (by simp)⟩

theorem nilck_sim {v : Value} {p r : PV} {o : Oper} {ρ : Operand → Value} {x : Operand} (ho : o.op = .nilCheck x) (hv : ρ x = v) (hx : R g κ v p) (h : nilckPV p = some r) : (execOp ρ o).run P w = .ok (.value v) w ∧ R g κ v r := by
  unfold nilckPV at h
  split at h <;> (first | (cases h; done) | skip)
  · cases h; refine ⟨?_, hx⟩; cases hx; simp [execOp, ho, hv]
  · cases h; refine ⟨?_, hx⟩; cases hx; simp [execOp, ho, hv]
  · cases h; refine ⟨?_, hx⟩; cases hx; simp [execOp, ho, hv]
  · cases h; refine ⟨?_, hx⟩; cases hx; simp [execOp, ho, hv]

/-! ### Addresses and parts -/
theorem faddr_sim (hsr : SR P g base κ w st) {s : TypeId} {fs : Array Field} {f : Nat} {fd : Field} {n off : Nat} {v : Value} {p r : PV} (hs : fieldsT P s = some fs) (hf : fs[f]? = some fd) (ho : fd.offset = off) (hn : sizeT P fd.type = some n) (hn0 : n ≠ 0)
    (hx : R g κ v p) (h : faddrPV off p = some r) : ∃ z, (Instr.fieldAt s v f).run P w = .ok z w ∧ R g κ z r := by
  have hu := fieldsT_eq hs
  unfold faddrPV at h
  split at h
  · rename_i b o
    cases hx with | ptr _ _ blk hφ =>
    cases h
    refine ⟨.pointer (some ⟨blk, o + off, none⟩), ?_, .ptr _ _ _ hφ⟩
    simp [Instr.fieldAt, run_underlying hu, hf, Instr.sureAddr, fieldPlace, run_sizeOf hn, hn0, ho, add_eq]
  · rename_i cells
    cases hx with | cp blk o vs _ hl hc hr hd hlf =>
    cases h
    refine ⟨.pointer (some ⟨blk, o + off, none⟩), ?_, .cp _ _ (vs.drop off) _ (by simp [hl]) (fun i v hi => ?_) (fun i v p a b => ?_) ?_ (drop_all hlf off)⟩
    · simp [Instr.fieldAt, run_underlying hu, hf, Instr.sureAddr, fieldPlace, run_sizeOf hn, hn0, ho, add_eq]
    · rw [List.getElem?_drop] at hi
      rw [Nat.add_assoc]; exact hc _ _ hi
    · rw [List.getElem?_drop] at a b; exact hr _ _ _ a b
    · have : dataAll (cells.take off ++ cells.drop off) = true := by rw [List.take_append_drop]; exact hd
      rw [dataAll_append, Bool.and_eq_true] at this; exact this.2
  · cases h

theorem readCells_part {t : TypeId} {ag : Bool} {sz off : Nat} {vs : Array Value} {ps : List PV} {r : PV} (hag : isAggT P t = some ag) (hsz : ag = true → sizeT P t = some sz) (hl : vs.size = ps.length) (hlf : ps.all leafOk = true)
    (hr : ∀ (i : Nat) (v : Value) (p : PV), vs[i]? = some v → ps[i]? = some p → R g κ v p) (h : readCells ag sz (ps.drop off) = some r) : ∃ z, (part t vs off).run P w = .ok z w ∧ R g κ z r := by
  cases ag with
  | true =>
    simp only [readCells, if_true] at h
    split at h
    · rename_i hle
      cases h
      simp at hle
      refine ⟨.agg (vs.extract off (off + sz)), by simp [part, run_isAgg hag, run_sizeOf (hsz rfl)], .agg _ _ (by simp; omega) ?_ (fun i v p a b => ?_)⟩
      · simp only [List.all_eq_true] at *; exact fun x hx => hlf x (List.mem_of_mem_drop (List.mem_of_mem_take hx))
      · rw [Array.getElem?_extract] at a
        split at a
        · rw [List.getElem?_take] at b
          split at b
          · rw [List.getElem?_drop] at b; exact hr _ _ _ a b
          · cases b
        · cases a
    · cases h
  | false =>
    simp only [readCells] at h
    cases hp : ps.drop off with
    | nil => simp [hp] at h
    | cons c cs =>
      simp [hp] at h; subst h
      have hpi : ps[off]? = some c := by have := congrArg List.head? hp; simpa [List.head?_drop] using this
      have hil : off < ps.length := (List.getElem?_eq_some_iff.1 hpi).1
      have hv : vs[off]? = some vs[off] := by simp [show off < vs.size by omega]
      exact ⟨vs[off], run_part hag hv, hr _ _ _ hv hpi⟩

theorem fld_sim {t : TypeId} {fs : Array Field} {f : Nat} {fd : Field} {ag : Bool} {sz off : Nat} {v : Value} {p r : PV} (hs : fieldsT P t = some fs) (hf : fs[f]? = some fd) (ho : fd.offset = off) (hag : isAggT P fd.type = some ag)
    (hsz : ag = true → sizeT P fd.type = some sz) (hx : R g κ v p) (h : fldPV ag off sz p = some r) : ∃ z, (Instr.field t v f).run P w = .ok z w ∧ R g κ z r := by
  have hu := fieldsT_eq hs
  unfold fldPV at h
  split at h
  · cases hx with | agg vs ps hl hlf hr =>
    obtain ⟨z, h1, h2⟩ := readCells_part (P := P) (w := w) hag hsz hl hlf hr h
    exact ⟨z, by simp [Instr.field, run_underlying hu, hf, asAgg, ho, h1], h2⟩
  · cases h

theorem intOf_sim {v : Value} {p : PV} {i : Int} (hx : R g κ v p) (h : intOf p = some i) : ∃ k, v = .int k i := by
  unfold intOf at h
  split at h
  · cases hx; cases h; exact ⟨_, rfl⟩
  · cases hx with | b8 b n hn => cases h; subst hn; exact ⟨_, rfl⟩
  · cases h

theorem flat_get {esz : Nat} : ∀ {xs : List PV} (he : ∀ x ∈ xs, x.cells.length = esz) {k j : Nat} {x q : PV}, xs[k]? = some x → x.cells[j]? = some q → (flat xs)[k * esz + j]? = some q := by
  intro xs
  induction xs with
  | nil => intro he k j x q h; simp at h
  | cons y ys ih =>
    intro he k j x q h1 h2
    have hy : y.cells.length = esz := he y (by simp)
    simp only [flat, List.flatMap_cons]
    cases k with
    | zero =>
      simp at h1; subst h1
      have : j < y.cells.length := (List.getElem?_eq_some_iff.1 h2).1
      rw [List.getElem?_append_left (by omega)]; simpa using h2
    | succ k =>
      simp at h1
      rw [List.getElem?_append_right (by rw [hy, Nat.succ_mul]; omega), hy]
      have := ih (fun x hx => he x (by simp [hx])) h1 h2
      rw [show (k + 1) * esz + j - esz = k * esz + j by rw [Nat.succ_mul]; omega]
      exact this

theorem flat_length {esz : Nat} : ∀ {xs : List PV} (he : ∀ x ∈ xs, x.cells.length = esz), (flat xs).length = xs.length * esz := by
  intro xs
  induction xs with
  | nil => intro _; simp [flat]
  | cons y ys ih =>
    intro he
    have := ih (fun x hx => he x (by simp [hx]))
    simp only [flat, List.flatMap_cons, List.length_append, List.length_cons] at *
    rw [this, he y (by simp), Nat.succ_mul]; omega

theorem iaddr_sim (hsr : SR P g base κ w st) {t e : TypeId} {esz : Nat} {v u : Value} {p q r : PV} (hs : sliceElem P t = some e) (hz : sizeT P e = some esz) (hx : R g κ v p) (hi : R g κ u q) (h : iaddrPV esz p q = some r) :
    ∃ z, (Instr.indexAt t v u).run P w = .ok z w ∧ R g κ z r := by
  have hu := sliceElem_eq hs
  unfold iaddrPV at h
  split at h
  · cases h
  · rename_i i hii
    obtain ⟨k, rfl⟩ := intOf_sim hi hii
    have run : ∀ (a : Addr) (n c : Nat), 0 ≤ i → i < n → (Instr.indexAt t (.slice (some a) n c) (.int k i)).run P w = .ok (.pointer (some (a.add (i.toNat * esz)))) w := fun a n c h1 h2 => by
      simp [Instr.indexAt, asIntOf, run_underlying hu, run_sizeOf hz, h1, h2]
    split at h
    · rename_i t' l
      split at h
      · rename_i hb
        obtain ⟨he, h1, h2⟩ := hb
        cases hx with | bys blk off n c _ _ hn hc hb ht =>
        cases h; subst hn he
        refine ⟨_, run _ _ _ h1 h2, ?_⟩
        rw [add_eq, Nat.mul_one]
        have hlt : i.toNat < l.length := by omega
        have hg : l[i.toNat]? = some (l.getD i.toNat 0) := by rw [List.getD_eq_getElem?_getD]; simp [hlt]
        refine .cp blk _ [.int .u8 (l.getD i.toNat 0).toNat] _ rfl (fun j v hj => ?_) (fun j v p a b => ?_) rfl rfl
        · cases j with
          | zero => simp only [List.getElem?_cons_zero, Option.some.injEq] at hj; subst hj; exact hb _ _ hg
          | succ j => simp at hj
        · cases j with
          | zero => simp only [List.getElem?_cons_zero, Option.some.injEq] at a b; subst a b; exact .b8 _ _ rfl
          | succ j => simp at a
      · cases h
    · rename_i esz' t' xs
      split at h
      · rename_i hb
        obtain ⟨he, h1, h2⟩ := hb
        cases hx with | sl blk off n c _ _ _ vs hn hc hee hl hv hr hd hlf ht =>
        cases h; subst hn he
        refine ⟨_, run _ _ _ h1 h2, ?_⟩
        rw [add_eq]
        have hlt : i.toNat < xs.length := by omega
        have hg : xs[i.toNat]? = some (xs.getD i.toNat .undef) := by rw [List.getD_eq_getElem?_getD]; simp [hlt]
        have hmem := List.mem_of_getElem? hg
        have hlen := hee _ hmem
        have hfl := flat_length hee
        have hbd : i.toNat * esz' + esz' ≤ vs.length := by
          rw [hl, hfl, ← Nat.succ_mul]
          exact Nat.mul_le_mul_right _ hlt
        have hdx : dataAll (xs.getD i.toNat .undef).cells = true := data_cells (dataAll_get hd hg)
        refine .cp blk _ ((vs.drop (i.toNat * esz')).take esz') _ (by rw [List.length_take, List.length_drop, hlen]; omega) (fun j v hj => ?_) (fun j v p a b => ?_) hdx ?_
        · rw [List.getElem?_take] at hj
          split at hj
          · rw [List.getElem?_drop] at hj
            rw [Nat.add_assoc]; exact hv _ _ hj
          · cases hj
        · rw [List.getElem?_take] at a
          split at a
          · rw [List.getElem?_drop] at a
            exact hr _ _ _ a (flat_get hee hg b)
          · cases a
        · rw [List.all_eq_true] at *
          exact fun x hx => hlf x (List.mem_flatMap.2 ⟨_, hmem, hx⟩)
      · cases h
    · rename_i b off n
      split at h
      · rename_i hb
        cases hx with | ms _ _ off' _ c blk h1 h2 h3 =>
        cases h
        refine ⟨_, run _ _ _ hb.1 hb.2, ?_⟩
        rw [add_eq]
        obtain rfl : off' = off := by rcases h3 with h3 | h3 <;> omega
        exact .ptr _ _ _ h1
      · cases h
    · cases h

theorem iaddrA_sim {t e : TypeId} {len esz : Nat} {v u : Value} {p q r : PV} (hs : arrT P t = some (len, e)) (hz : sizeT P e = some esz) (hx : R g κ v p) (hi : R g κ u q) (h : iaddrAPV len esz p q = some r) :
    ∃ z, (Instr.indexAt t v u).run P w = .ok z w ∧ R g κ z r := by
  have hu := arrT_eq hs
  unfold iaddrAPV at h
  split at h
  · cases h
  · rename_i i hii
    obtain ⟨k, rfl⟩ := intOf_sim hi hii
    split at h
    · rename_i hb
      have run : ∀ (a : Addr), (Instr.indexAt t (.pointer (some a)) (.int k i)).run P w = .ok (.pointer (some (a.add (i.toNat * esz)))) w := fun a => by
        simp [Instr.indexAt, asIntOf, run_underlying hu, run_sizeOf hz, hb.1, hb.2, Instr.sureAddr]
      unfold faddrPV at h
      split at h
      · rename_i b o
        cases hx with | ptr _ _ blk hφ =>
        cases h
        refine ⟨_, run _, ?_⟩
        rw [add_eq]; exact .ptr _ _ _ hφ
      · rename_i cells
        cases hx with | cp blk o vs _ hl hc hr hd hlf =>
        cases h
        refine ⟨_, run _, ?_⟩
        rw [add_eq]
        refine .cp _ _ (vs.drop (i.toNat * esz)) _ (by simp [hl]) (fun j v hi => ?_) (fun j v p a b => ?_) ?_ (drop_all hlf _)
        · rw [List.getElem?_drop] at hi
          rw [Nat.add_assoc]; exact hc _ _ hi
        · rw [List.getElem?_drop] at a b; exact hr _ _ _ a b
        · have : dataAll (cells.take (i.toNat * esz) ++ cells.drop (i.toNat * esz)) = true := by rw [List.take_append_drop]; exact hd
          rw [dataAll_append, Bool.and_eq_true] at this; exact this.2
      · cases h
    · cases h

theorem idx_sim {t e : TypeId} {len esz : Nat} {ag : Bool} {v u : Value} {p q r : PV} (hs : arrT P t = some (len, e)) (hag : isAggT P e = some ag) (hz : sizeT P e = some esz) (hx : R g κ v p) (hi : R g κ u q) (h : idxPV len ag esz p q = some r) :
    ∃ z, (Instr.index t v u).run P w = .ok z w ∧ R g κ z r := by
  have hu := arrT_eq hs
  unfold idxPV at h
  split at h
  · cases h
  · rename_i i hii
    obtain ⟨k, rfl⟩ := intOf_sim hi hii
    split at h
    · rename_i cells
      split at h
      · rename_i hb
        cases hx with | agg vs _ hl hlf hr =>
        obtain ⟨z, h1, h2⟩ := readCells_part (P := P) (w := w) hag (fun _ => hz) hl hlf hr h
        exact ⟨z, by simp [Instr.index, asIntOf, run_underlying hu, run_sizeOf hz, hb.1, hb.2, h1], h2⟩
      · cases h
    · cases h

theorem idxS_sim {t : TypeId} {v u : Value} {p q r : PV} (hs : isStrT P t = true) (hx : R g κ v p) (hi : R g κ u q) (h : idxSPV p q = some r) :
    ∃ z, (Instr.index t v u).run P w = .ok z w ∧ R g κ z r := by
  have hu := isStrT_eq hs
  unfold idxSPV at h
  split at h
  · cases h
  · rename_i i hii
    obtain ⟨k, rfl⟩ := intOf_sim hi hii
    split at h
    · rename_i l
      split at h
      · rename_i hb
        cases hx with | str s _ hl =>
        cases h; subst hl
        have hlt : i.toNat < s.data.toList.length := by omega
        have hg : s[i.toNat]? = some (s.data.toList.getD i.toNat 0) := by
          rw [List.getD_eq_getElem?_getD]
          simp at hlt
          have h1 : s[i.toNat]? = some (s[i.toNat]'hlt) := by simp [hlt]
          rw [h1]; simp [hlt]; rfl
        refine ⟨.int .u8 (s.data.toList.getD i.toNat 0).toNat, ?_, .b8 _ _ rfl⟩
        simp [Instr.index, asIntOf, run_underlying hu, hb.1, hg]
      · cases h
    · cases h

theorem mkfn_sim {f f' : Nat} {first : Array Value} {caps : Array Value} {ps : List PV} (h : g f = some f') (h0 : first = #[]) (hk : ps.all capOk = true) (hl : caps.size = ps.length)
    (hr : ∀ (i : Nat) (v : Value) (p : PV), caps[i]? = some v → ps[i]? = some p → R g κ v p) : ∃ z, (Instr.makeFunc (.func f) first caps).run P w = .ok z w ∧ R g κ z (.fn f' ps) := by
  subst h0
  exact ⟨_, rfl, .fn _ _ _ _ h hl hk hr⟩

/-! ### Slices of slices -/
/-- An optional operand and its abstraction. -/
def OptR (g : GMap) (κ : K) : Option Value → Option PV → Prop
  | none, none => True
  | some v, some p => R g κ v p
  | _, _ => False

theorem bnd_some {y d m : Nat} {p : PV} (h : bnd y d (some p) = some m) : ∃ i, intOf p = some i ∧ 0 ≤ i ∧ i ≤ y ∧ m = i.toNat := by
  unfold bnd at h
  simp only at h
  cases hi : intOf p with
  | none => simp [hi] at h
  | some i =>
    simp only [hi] at h
    split at h
    · rename_i hb; cases h; exact ⟨i, rfl, hb.1, hb.2, rfl⟩
    · cases h

theorem run_sliceBound {v : Value} {p : PV} {i : Int} {y : Nat} (code : BoundsCode) (hx : R g κ v p) (hi : intOf p = some i) (h0 : 0 ≤ i) (h1 : i ≤ y) : (Instr.sliceBound v y code).run P w = .ok i.toNat w := by
  obtain ⟨k, rfl⟩ := intOf_sim hx hi
  simp [Instr.sliceBound, asIntOf, h0, h1]

/-- The bounds of a slice whose room is at least its length. -/
theorem run_sliceBounds {isS : Bool} {n c m h l : Nat} {lo hi mx : Option Value} {plo phi pmx : Option PV} (hc : n ≤ c) (rlo : OptR g κ lo plo) (rhi : OptR g κ hi phi) (rmx : OptR g κ mx pmx) (hmh : pmx.isSome = true → phi.isSome = true)
    (hm : bnd n n pmx = some m) (hh : bnd m n phi = some h) (hl : bnd h 0 plo = some l) :
    (Instr.sliceBounds isS n c lo hi mx).run P w = .ok (l, h, if pmx.isSome then m else c) w ∧ l ≤ h ∧ h ≤ m ∧ m ≤ n ∧ (pmx = none → m = n) ∧ (phi = none → h = n) := by
  have hlow : ((lo = none ∧ l = 0) ∨ ∃ v, lo = some v ∧ ∀ code, (Instr.sliceBound v h code).run P w = .ok l w) ∧ l ≤ h := by
    cases plo with
    | none => cases lo with
      | none => simp [bnd] at hl; subst hl; simp
      | some => exact rlo.elim
    | some q => cases lo with
      | none => exact rlo.elim
      | some v =>
        obtain ⟨i, h1, h2, h3, rfl⟩ := bnd_some hl
        exact ⟨.inr ⟨v, rfl, fun code => run_sliceBound code rlo h1 h2 h3⟩, by omega⟩
  obtain ⟨hlow, hlh⟩ := hlow
  cases pmx with
  | none =>
    cases mx with
    | some => exact rmx.elim
    | none =>
      simp [bnd] at hm; subst hm
      cases phi with
      | none => cases hi with
        | some => exact rhi.elim
        | none =>
          simp [bnd] at hh; subst hh
          refine ⟨?_, hlh, Nat.le_refl _, Nat.le_refl _, fun _ => rfl, fun _ => rfl⟩
          rcases hlow with ⟨rfl, rfl⟩ | ⟨u, rfl, hu⟩ <;> simp [Instr.sliceBounds, *]
      | some q => cases hi with
        | none => exact rhi.elim
        | some v =>
          obtain ⟨i, h1, h2, h3, rfl⟩ := bnd_some hh
          refine ⟨?_, hlh, by omega, Nat.le_refl _, fun _ => rfl, fun h => by cases h⟩
          have hv := fun code => run_sliceBound (P := P) (w := w) (y := c) code rhi h1 h2 (by omega)
          rcases hlow with ⟨rfl, rfl⟩ | ⟨u, rfl, hu⟩ <;> simp [Instr.sliceBounds, *]
  | some q =>
    cases mx with
    | none => exact rmx.elim
    | some u =>
      obtain ⟨j, a1, a2, a3, rfl⟩ := bnd_some hm
      cases phi with
      | none => simp at hmh
      | some q' => cases hi with
        | none => exact rhi.elim
        | some v =>
          obtain ⟨i, h1, h2, h3, rfl⟩ := bnd_some hh
          refine ⟨?_, hlh, by omega, by omega, fun h => (by cases h), fun h => (by cases h)⟩
          have hu' := fun code => run_sliceBound (P := P) (w := w) (y := c) code rmx a1 a2 (by omega)
          have hv := fun code => run_sliceBound (P := P) (w := w) (y := j.toNat) code rhi h1 h2 (by omega)
          rcases hlow with ⟨rfl, rfl⟩ | ⟨u, rfl, hu⟩ <;> simp [Instr.sliceBounds, *]

theorem sufTok_ok {κ : K} {t : Tok} {blk off n c esz l h m : Nat} {hi mx : Option PV} (ht : TokOK κ t blk off n c esz) (hl : l ≤ h) (hh : h ≤ m) (hm : m ≤ n) (hc : n ≤ c) (h1 : mx = none → m = n) (h2 : hi = none → h = n) (hmh : mx.isSome = true → hi.isSome = true) :
    TokOK κ (sufTok t hi mx h m) blk (off + l * esz) (h - l) ((if mx.isSome then m else c) - l) esz := by
  cases hi with
  | none =>
    cases mx with
    | some => simp at hmh
    | none =>
      obtain rfl := h1 rfl
      obtain rfl := h2 rfl
      simp only [sufTok, Option.isSome_none, Bool.false_eq_true, if_false]
      cases t with
      | no => trivial
      | ex => simp only [TokOK] at *; omega
      | own i =>
        obtain ⟨e, ce, h3, h4⟩ := ht
        refine ⟨e, ce, h3, fun hlt => ?_⟩
        obtain ⟨rfl, rfl⟩ := h4 (by omega)
        constructor
        · rw [Nat.add_assoc, ← Nat.add_mul]; congr 2; omega
        · rw [Nat.add_assoc, ← Nat.add_mul]; congr 2; omega
  | some q =>
    cases mx with
    | none => trivial
    | some q' =>
      simp only [sufTok]
      split
      · subst h; simp [TokOK]
      · trivial

theorem flat_take_drop {xs : List PV} {h l : Nat} {esz : Nat} (he : ∀ x ∈ xs, x.cells.length = esz) : ∀ (i : Nat) (q : PV), (flat ((xs.take h).drop l))[i]? = some q → (flat xs)[l * esz + i]? = some q := by
  intro i q hq
  have h1 : flat xs = flat (xs.take h) ++ flat (xs.drop h) := by
    simp only [flat]; rw [← List.flatMap_append, List.take_append_drop]
  have h2 : flat (xs.take h) = flat ((xs.take h).take l) ++ flat ((xs.take h).drop l) := by
    simp only [flat]; rw [← List.flatMap_append, List.take_append_drop]
  have hlt : i < (flat ((xs.take h).drop l)).length := (List.getElem?_eq_some_iff.1 hq).1
  have hne : l ≤ (xs.take h).length := by
    by_cases hle : l ≤ (xs.take h).length
    · exact hle
    · rw [List.drop_of_length_le (by omega)] at hlt; simp [flat] at hlt
  have h3 : (flat ((xs.take h).take l)).length = l * esz := by
    rw [flat_length (esz := esz) (fun x hx => he x (List.mem_of_mem_take (List.mem_of_mem_take hx))), List.length_take, Nat.min_eq_left hne]
  rw [h1, List.getElem?_append_left (by rw [h2, List.length_append, h3]; omega), h2, List.getElem?_append_right (by omega), h3]
  rw [show l * esz + i - l * esz = i by omega]; exact hq

theorem slc_sim {t : TypeId} {esz : Nat} {v : Value} {p r : PV} {lo hi mx : Option Value} {plo phi pmx : Option PV}
    (ht : (if esz = 0 then isStrT P t else (match sliceElem P t with | some e => decide (sizeT P e = some esz) | none => false)) = true)
    (hx : R g κ v p) (rlo : OptR g κ lo plo) (rhi : OptR g κ hi phi) (rmx : OptR g κ mx pmx) (hmh : pmx.isSome = true → phi.isSome = true) (h : slcPV esz p plo phi pmx = some r) :
    ∃ z, (Instr.slice t v lo hi mx).run P w = .ok z w ∧ R g κ z r := by
  unfold slcPV at h
  simp only at h
  split at h
  · cases h
  · rename_i n hn
    split at h
    · cases h
    · rename_i m hm
      split at h
      · cases h
      · rename_i hh hhh
        split at h
        · cases h
        · rename_i l hl
          split at h
          · rename_i s
            split at h
            · cases h
            · rename_i hne
              simp only [not_or, Decidable.not_not] at hne
              obtain ⟨hmx, rfl⟩ := hne
              simp at hn; subst hn
              have hu := isStrT_eq (show isStrT P t = true from by simpa using ht)
              cases pmx with
              | some => simp at hmx
              | none =>
                cases mx with
                | some => exact rmx.elim
                | none =>
                  cases hx with | str s' _ hs =>
                  subst hs
                  cases h
                  obtain ⟨hb, h1, h2, h3, h4, h5⟩ := run_sliceBounds (P := P) (w := w) (isS := false) (c := s'.size) (Nat.le_refl _) rlo rhi (show OptR g κ none none from trivial) (by simp) hm hhh hl
                  obtain rfl := h4 rfl
                  refine ⟨.string (s'.extract l hh), ?_, .str _ _ ?_⟩
                  · have hb' : (Instr.sliceBounds false s'.size s'.size lo hi none).run P w = .ok (l, hh, if (none : Option PV).isSome then s'.data.toList.length else s'.size) w := hb
                    simp [Instr.slice, run_underlying hu, hb']
                  · simp [ByteArray.data_extract, Array.toList_extract, List.drop_take]
          · split at h
            · cases h
            · rename_i hez
              cases h
              cases hx
              simp at hn; subst hn
              rw [if_neg hez] at ht
              split at ht
              · rename_i e he
                have hu := sliceElem_eq he
                obtain ⟨hb, h1, h2, h3, h4, h5⟩ := run_sliceBounds (P := P) (w := w) (isS := true) (c := 0) (Nat.le_refl _) rlo rhi rmx hmh hm hhh hl
                have hm0 : m = 0 := by omega
                have hh0 : hh = 0 := by omega
                have hl0 : l = 0 := by omega
                subst hm0 hh0 hl0
                refine ⟨.slice none 0 0, ?_, .nils⟩
                simp only [ite_self] at hb
                simp [Instr.slice, run_underlying hu, hb, run_sizeOf (by simpa using ht)]
              · cases ht
          · rename_i t' s
            split at h
            · rename_i hez
              subst hez
              cases h
              simp at hn; subst hn
              cases hx with | bys blk off n c _ _ hn hc hb ht' =>
              subst hn
              rw [if_neg (by decide)] at ht
              split at ht
              · rename_i e he
                have hu := sliceElem_eq he
                obtain ⟨hbd, h1, h2, h3, h4, h5⟩ := run_sliceBounds (P := P) (w := w) (isS := true) hc rlo rhi rmx hmh hm hhh hl
                have hlen : hh - l = ((s.take hh).drop l).length := by simp; omega
                have hmc : hh ≤ (if pmx.isSome then m else c) := by split <;> omega
                have htok := sufTok_ok ht' h1 h2 h3 hc h4 h5 hmh
                generalize (if pmx.isSome = true then m else c) = cc at hbd hmc htok
                refine ⟨.slice (if cc = l then some ⟨blk, off, none⟩ else some (Addr.add ⟨blk, off, none⟩ (l * 1))) (hh - l) (cc - l), ?_, ?_⟩
                · simp [Instr.slice, run_underlying hu, hbd, run_sizeOf (by simpa using ht)]
                · rw [add_eq]
                  split
                  · rename_i heq
                    have : (s.take hh).drop l = [] := by rw [← List.length_eq_zero_iff, ← hlen]; omega
                    refine .bys blk off _ _ _ _ hlen (by omega) (fun i b hi => by rw [this] at hi; simp at hi) ?_
                    revert htok
                    cases sufTok t' phi pmx hh m with
                    | no => exact fun _ => trivial
                    | ex => exact id
                    | own i => exact fun ⟨e, ce, h3, h4⟩ => ⟨e, ce, h3, fun hlt => by omega⟩
                  · refine .bys blk (off + l * 1) _ _ _ _ hlen (by omega) (fun i b hi => ?_) htok
                    rw [List.getElem?_drop, List.getElem?_take] at hi
                    split at hi
                    · rw [Nat.mul_one, Nat.add_assoc]; exact hb _ _ hi
                    · cases hi
              · cases ht
            · cases h
          · rename_i e' t' xs
            split at h
            · rename_i hez
              obtain ⟨rfl, hez⟩ := hez
              cases h
              simp at hn; subst hn
              cases hx with | sl blk off n c _ _ _ vs hn hc hee hvl hv hr hd hlf ht' =>
              subst hn
              split at ht
              · exact absurd (by assumption) hez
              · split at ht
                · rename_i e he
                  have hu := sliceElem_eq he
                  obtain ⟨hbd, h1, h2, h3, h4, h5⟩ := run_sliceBounds (P := P) (w := w) (isS := true) hc rlo rhi rmx hmh hm hhh hl
                  have hlen : hh - l = ((xs.take hh).drop l).length := by simp; omega
                  have hmc : hh ≤ (if pmx.isSome then m else c) := by split <;> omega
                  have htok := sufTok_ok ht' h1 h2 h3 hc h4 h5 hmh
                  generalize (if pmx.isSome = true then m else c) = cc at hbd hmc htok
                  have hee' : ∀ x ∈ (xs.take hh).drop l, x.cells.length = e' := fun x hx => hee x (List.mem_of_mem_take (List.mem_of_mem_drop hx))
                  have hdd : dataAll ((xs.take hh).drop l) = true := by
                    have h6 : dataAll (xs.take hh ++ xs.drop hh) = true := by rw [List.take_append_drop]; exact hd
                    rw [dataAll_append, Bool.and_eq_true] at h6
                    have h7 : dataAll ((xs.take hh).take l ++ (xs.take hh).drop l) = true := by rw [List.take_append_drop]; exact h6.1
                    rw [dataAll_append, Bool.and_eq_true] at h7; exact h7.2
                  have hfl : (flat ((xs.take hh).drop l)).length = (hh - l) * e' := by rw [flat_length hee', ← hlen]
                  have hfl2 := flat_length hee
                  have hbig : l * e' + (hh - l) * e' ≤ vs.length := by
                    rw [hvl, hfl2, ← Nat.add_mul]; exact Nat.mul_le_mul_right _ (by omega)
                  have hlff : (flat ((xs.take hh).drop l)).all leafOk = true := by
                    rw [List.all_eq_true] at *
                    intro x hx
                    obtain ⟨y, hy, hxy⟩ := List.mem_flatMap.1 hx
                    exact hlf x (List.mem_flatMap.2 ⟨y, List.mem_of_mem_take (List.mem_of_mem_drop hy), hxy⟩)
                  refine ⟨.slice (if cc = l then some ⟨blk, off, none⟩ else some (Addr.add ⟨blk, off, none⟩ (l * e'))) (hh - l) (cc - l), ?_, ?_⟩
                  · simp [Instr.slice, run_underlying hu, hbd, run_sizeOf (by simpa using ht)]
                  · rw [add_eq]
                    split
                    · rename_i heq
                      have : (xs.take hh).drop l = [] := by rw [← List.length_eq_zero_iff, ← hlen]; omega
                      refine .sl blk off _ _ _ _ _ [] hlen (by omega) hee' (by rw [this]; rfl) (fun i v hi => by simp at hi) (fun i v p hi => by simp at hi) hdd hlff ?_
                      revert htok
                      cases sufTok t' phi pmx hh m with
                      | no => exact fun _ => trivial
                      | ex => exact id
                      | own i => exact fun ⟨e, ce, h3, h4⟩ => ⟨e, ce, h3, fun hlt => by omega⟩
                    · refine .sl blk (off + l * e') _ _ _ _ _ ((vs.drop (l * e')).take ((hh - l) * e')) hlen (by omega) hee' (by rw [List.length_take, List.length_drop, hfl]; omega) (fun i v hi => ?_) (fun i v p a b => ?_) hdd hlff htok
                      · rw [List.getElem?_take] at hi
                        split at hi
                        · rw [List.getElem?_drop] at hi
                          rw [Nat.add_assoc]; exact hv _ _ hi
                        · cases hi
                      · rw [List.getElem?_take] at a
                        split at a
                        · rw [List.getElem?_drop] at a
                          exact hr _ _ _ a (flat_take_drop hee _ _ b)
                        · cases a
                · cases ht
            · cases h
          · rename_i b off n'
            split at h
            · cases h
            · rename_i hez
              cases h
              simp at hn; subst hn
              cases hx with | ms _ _ off' _ c blk hφ hc ho =>
              rw [if_neg hez] at ht
              split at ht
              · rename_i e he
                have hu := sliceElem_eq he
                obtain ⟨hbd, h1, h2, h3, h4, h5⟩ := run_sliceBounds (P := P) (w := w) (isS := true) hc rlo rhi rmx hmh hm hhh hl
                have hmc : hh ≤ (if pmx.isSome then m else c) := by split <;> omega
                generalize (if pmx.isSome = true then m else c) = cc at hbd hmc
                refine ⟨.slice (if cc = l then some ⟨blk, off', none⟩ else some (Addr.add ⟨blk, off', none⟩ (l * esz))) (hh - l) (cc - l), ?_, ?_⟩
                · simp [Instr.slice, run_underlying hu, hbd, run_sizeOf (by simpa using ht)]
                · rw [add_eq]
                  split
                  · exact .ms _ _ _ _ _ _ hφ (by omega) (.inl (by omega))
                  · refine .ms _ _ _ _ _ _ hφ (by omega) ?_
                    rcases ho with ho | rfl
                    · left; omega
                    · right; rfl
              · cases ht
          · cases h

end Go.Ab
