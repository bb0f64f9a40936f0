/-
  The operations that make no memory.
-/
import Derived.Test.YtemnjmphkmokmaaAbSR2
import Derived.Laws.Strings
import Derived.Laws.StructEq
namespace Go.Ab
set_option linter.unusedVariables false
set_option linter.unusedSimpArgs false

variable {P : Program} {g : GMap} {base : Nat} {κ : K} {w : World} {st : St}

theorem chkLeaf_R {v : Value} {p : PV} (h : chkLeaf v p = true) : R g κ v p ∧ leafOk p = true ∧ (∀ n, p.inB n = true) ∧ p.data = true ∧ p.cells = [p] ∧ v.cells = #[v] := by
  unfold chkLeaf at h
  split at h
  · simp at h; subst h; exact ⟨.bool _, rfl, fun _ => rfl, rfl, rfl, rfl⟩
  · simp at h; obtain ⟨rfl, rfl⟩ := h; exact ⟨.b8 _ _ rfl, rfl, fun _ => rfl, rfl, rfl, rfl⟩
  · simp at h; obtain ⟨⟨rfl, rfl⟩, h3⟩ := h; exact ⟨.int _ _ h3, rfl, fun _ => rfl, rfl, rfl, rfl⟩
  · simp at h; subst h; exact ⟨.str _ _ rfl, rfl, fun _ => rfl, rfl, rfl, rfl⟩
  · exact ⟨.nilp, rfl, fun _ => rfl, rfl, rfl, rfl⟩
  · exact ⟨.nils, rfl, fun _ => rfl, rfl, rfl, rfl⟩
  · exact ⟨.nilf, rfl, fun _ => rfl, rfl, rfl, rfl⟩
  · exact ⟨.nili, rfl, fun _ => rfl, rfl, rfl, rfl⟩
  · cases h

theorem chkLeaves_R : ∀ (vs : List Value) (ps : List PV), chkLeaves vs ps = true → vs.length = ps.length ∧ (∀ (i : Nat) (v : Value) (p : PV), vs[i]? = some v → ps[i]? = some p → R g κ v p) ∧ ps.all leafOk = true ∧ (∀ n, ∀ p ∈ ps, p.inB n = true) ∧ dataAll ps = true := by
  intro vs
  induction vs with
  | nil => intro ps h; cases ps with
    | nil => simp [dataAll]
    | cons => simp [chkLeaves] at h
  | cons v vs ih =>
    intro ps h
    cases ps with
    | nil => simp [chkLeaves] at h
    | cons p ps =>
      simp [chkLeaves] at h
      obtain ⟨h1, h2, h3, h4, h5⟩ := ih ps h.2
      obtain ⟨r1, r2, r3, r4, _, _⟩ := chkLeaf_R (g := g) (κ := κ) h.1
      refine ⟨by simp [h1], fun i v' p' a b => ?_, by simp [r2]; simpa using h3, fun n q hq => ?_, by simp [dataAll, r4, h5]⟩
      · cases i with
        | zero => simp at a b; subst a b; exact r1
        | succ i => simp at a b; exact h2 i v' p' a b
      · simp at hq; rcases hq with rfl | hq
        · exact r3 n
        · exact h4 n q hq

theorem chkConst_R {v : Value} {p : PV} (h : chkConst v p = true) : R g κ v p := by
  unfold chkConst at h
  split at h
  · obtain ⟨h1, h2, h3, _, _⟩ := chkLeaves_R (g := g) (κ := κ) _ _ h
    exact .agg _ _ (by simpa using h1) h3 (fun i v p a b => h2 i v p (by simpa using a) b)
  · rename_i cs
    have : cs = #[] := by simpa using h
    subst this; exact .undef
  · exact (chkLeaf_R h).1

/-- The operands' values. -/
def OpdR (g : GMap) (κ : K) (ρ : Operand → Value) (e : Env) : Prop := ∀ x y, chkOpd g x y = true → R g κ (ρ x) (y.ev e)

theorem opdR_of (hi : g.inv κ) {nt : Nat} {a : Act} {e : Env} (h : EnvR g κ nt a.tmps e) : OpdR g κ a.eval e := by
  intro x y hx
  unfold chkOpd at hx
  split at hx
  · simp at hx; subst hx; exact h.2 _
  · exact chkConst_R hx
  · simp at hx
    exact .fn _ _ _ _ hx rfl rfl (fun i v p a b => by simp at a)
  · rename_i gi ps
    split at hx
    · rename_i vs hvs
      obtain ⟨h1, h2, h3, h4, h5⟩ := chkLeaves_R (g := g) (κ := κ) _ _ hx
      exact .cp gi 0 vs ps h1 (fun i v hv => by rw [Nat.zero_add]; exact g.globOK κ hi gi vs hvs i v hv) h2 h5 h3
    · cases hx
  · cases hx

theorem run_underlying {t : TypeId} {d : TypeDesc} (h : P.underlying t = some d) : (underlying t).run P w = .ok d w := by
  simp [underlying, program, Sem.run, h]
theorem run_typeInfo {t : TypeId} {i : TypeInfo} (h : P.info? t = some i) : (typeInfo t).run P w = .ok i w := by
  simp [typeInfo, program, Sem.run, h]
theorem run_sizeOf {t : TypeId} {n : Nat} (h : sizeT P t = some n) : (sizeOf t).run P w = .ok n w := by
  unfold sizeT at h
  cases hi : P.info? t with
  | none => simp [hi] at h
  | some i => simp [hi] at h; simp [sizeOf, run_typeInfo hi, h]
theorem run_zeroValue {t : TypeId} {v : Value} (h : zeroT P t = some v) : (zeroValue t).run P w = .ok v w := by
  unfold zeroT at h
  cases hi : P.info? t with
  | none => simp [hi] at h
  | some i => simp [hi] at h; simp [zeroValue, run_typeInfo hi, h]
theorem run_isAgg {t : TypeId} {b : Bool} (h : isAggT P t = some b) : (isAgg t).run P w = .ok b w := by
  unfold isAggT at h
  cases hu : P.underlying t with
  | none => simp [hu] at h
  | some d => cases d <;> simp [hu] at h <;> subst h <;> simp [isAgg, run_underlying hu]
theorem sliceElem_eq {t e : TypeId} (h : sliceElem P t = some e) : P.underlying t = some (.slice e) := by
  unfold sliceElem at h; split at h <;> simp_all
theorem isU8_eq {e : TypeId} (h : isU8 P e = true) : P.underlying e = some (.int .u8) := by
  unfold isU8 at h; split at h <;> simp_all
theorem isStrT_eq {e : TypeId} (h : isStrT P e = true) : P.underlying e = some .string := by
  unfold isStrT at h; split at h <;> simp_all
theorem intT_eq {e : TypeId} {k : IntKind} (h : intT P e = some k) : P.underlying e = some (.int k) := by
  unfold intT at h; split at h <;> simp_all
theorem arrT_eq {t e : TypeId} {n : Nat} (h : arrT P t = some (n, e)) : P.underlying t = some (.array n e) := by
  unfold arrT at h; split at h <;> simp_all
theorem fieldsT_eq {t : TypeId} {fs : Array Field} (h : fieldsT P t = some fs) : P.underlying t = some (.struct fs) := by
  unfold fieldsT at h; split at h <;> simp_all

/-! ### Loads -/
def CellsAt (w : World) (blk off : Nat) (vs : List Value) : Prop := ∀ (i : Nat) (v : Value), vs[i]? = some v → w.cell? ⟨blk, off + i, none⟩ = some v

theorem run_load1 {a : Addr} {v : Value} (h : w.cell? a = some v) : (load a).run P w = .ok v w := by simp [load, Sem.run, h]

theorem run_loadVar {t : TypeId} {ag : Bool} {sz blk off : Nat} {vs : List Value} {cells : List PV} {p : PV} (hag : isAggT P t = some ag) (hsz : ag = true → sizeT P t = some sz) (hc : CellsAt w blk off vs)
    (hl : vs.length = cells.length) (hr : ∀ (i : Nat) (v : Value) (p : PV), vs[i]? = some v → cells[i]? = some p → R g κ v p) (hlf : cells.all leafOk = true) (hp : readCells ag sz cells = some p) :
    ∃ v, (loadVar t ⟨blk, off, none⟩).run P w = .ok v w ∧ R g κ v p := by
  cases ag with
  | true =>
    simp only [readCells, if_true] at hp
    split at hp
    · rename_i hle
      cases hp
      have h1 := run_loadCells_list (P := P) w ⟨blk, off, none⟩ (vs.take sz) (fun j v hj => by
        rw [add_eq]; exact hc j v (by rw [List.getElem?_take] at hj; split at hj <;> simp_all))
      have hlen : (vs.take sz).length = sz := by simp; omega
      rw [hlen] at h1
      refine ⟨.agg (vs.take sz).toArray, by simp [loadVar, run_isAgg hag, run_sizeOf (hsz rfl), h1], .agg _ _ (by simp [hl]) ?_ (fun i v p a b => ?_)⟩
      · simp only [List.all_eq_true] at *; exact fun x hx => hlf x (List.mem_of_mem_take hx)
      · simp only [List.getElem?_toArray] at a
        rw [List.getElem?_take] at a b
        split at a
        · rename_i hi; rw [if_pos hi] at b; exact hr i v p a b
        · cases a
    · cases hp
  | false =>
    simp only [readCells] at hp
    cases cells with
    | nil => simp at hp
    | cons c cells =>
      simp at hp; subst hp
      cases vs with
      | nil => simp at hl
      | cons v vs =>
        have h1 : w.cell? ⟨blk, off, none⟩ = some v := hc 0 v rfl
        exact ⟨v, by unfold loadVar; simp only [Sem.run_bind, run_isAgg hag, Result.andThen_ok, Bool.false_eq_true, if_false]; exact run_load1 h1, hr 0 v c rfl rfl⟩

theorem SR.cellsAt_cp (h : SR P g base κ w st) {blk off : Nat} {vs : List Value} (hc : ∀ (i : Nat) (v : Value), vs[i]? = some v → κ.C blk (off + i) = some v) : CellsAt w blk off vs :=
  fun i v hi => h.cC _ _ _ (hc i v hi)

theorem SR.cellsAt_box (h : SR P g base κ w st) {b blk : Nat} {cs : List PV} (h1 : st.boxes[b]? = some cs) (h2 : κ.φ[b]? = some blk) (off : Nat) :
    ∃ vs : List Value, CellsAt w blk off vs ∧ vs.length = (cs.drop off).length ∧ ∀ (i : Nat) (v : Value) (p : PV), vs[i]? = some v → (cs.drop off)[i]? = some p → R g κ v p := by
  have hx := h.bx b blk cs h1 h2
  obtain ⟨rs, ⟨el, lo, hi, hw, _⟩, hl, hr⟩ := hx.ex
  refine ⟨(rs.toList.take cs.length).drop off, fun i v hi' => ?_, by simp; omega, fun i v p a b => ?_⟩
  · rw [List.getElem?_drop, List.getElem?_take] at hi'
    split at hi'
    · simp only [World.cell?, hw]; simpa using hi'
    · cases hi'
  · rw [List.getElem?_drop] at a b
    rw [List.getElem?_take] at a
    split at a
    · obtain ⟨u, hu, hr'⟩ := hr _ _ b
      simp at a; rw [hu] at a; cases a; exact hr'
    · cases a

theorem drop_all {cs : List PV} (h : cs.all leafOk = true) (n : Nat) : (cs.drop n).all leafOk = true := by
  simp only [List.all_eq_true] at *; exact fun x hx => h x (List.mem_of_mem_drop hx)

theorem load_sim (h : SR P g base κ w st) {t : TypeId} {ag : Bool} {sz : Nat} {v : Value} {a p : PV} (hag : isAggT P t = some ag) (hsz : ag = true → sizeT P t = some sz) (hr : R g κ v a) (hp : loadPV st ag sz a = some p) :
    ∃ u, (Instr.loadAt t v).run P w = .ok u w ∧ R g κ u p := by
  unfold loadPV at hp
  split at hp
  · cases hr with
    | cp blk off vs cells hl hc hr' hd hlf =>
      obtain ⟨u, h1, h2⟩ := run_loadVar (P := P) hag hsz (h.cellsAt_cp hc) hl hr' hlf hp
      exact ⟨u, by simpa [Instr.loadAt, Instr.sureAddr] using h1, h2⟩
  · split at hp
    · rename_i b off _ cs hcs
      cases hr with
      | ptr _ _ blk hφ =>
        obtain ⟨vs, h1, h2, h3⟩ := h.cellsAt_box hcs hφ off
        obtain ⟨u, h4, h5⟩ := run_loadVar (P := P) hag hsz h1 h2 h3 (drop_all (h.bx _ _ _ hcs hφ).lf off) hp
        exact ⟨u, by simpa [Instr.loadAt, Instr.sureAddr] using h4, h5⟩
    · cases hp
  · cases hp

/-! ### Numbers and texts -/
theorem u8_wrap (n : Int) : IntKind.u8.wrap n = n % 256 := by
  simp [IntKind.wrap, IntKind.bits, IntKind.signed]

theorem u8_toNat_ofNat (n : Nat) : (UInt8.ofNat n).toNat = n % 256 := by simp

theorem bin8_sim {op : BinOp} {a b : UInt8} {p : PV} (h : bin8 op a b = some p) :
    ∃ v, (match op with
      | .add | .sub | .mul => Op.intArith op .u8 a.toNat b.toNat
      | .quo | .rem => Op.intDiv op .u8 a.toNat b.toNat
      | .and | .or | .xor | .andNot => Op.intBits op .u8 a.toNat b.toNat
      | _ => Op.intCmp op a.toNat b.toNat).run P w = .ok v w ∧ R g κ v p := by
  have ha := a.toNat_lt
  have hb := b.toNat_lt
  have h8 : ∀ x : UInt8, BitVec.ofInt 8 (x.toNat : Int) = x.toBitVec := fun x => by
    apply BitVec.eq_of_toNat_eq
    have := x.toNat_lt
    rw [BitVec.toNat_ofInt, UInt8.toNat_toBitVec]; omega
  have hzn : b ≠ 0 → ¬ b.toNat = 0 := fun h h' => h (by apply UInt8.toNat_inj.1; simpa using h')
  have hz : b ≠ 0 → ¬ ((b.toNat : Int) = 0) := fun h h' => h (by
    apply UInt8.toNat_inj.1; simp; omega)
  cases op <;> simp only [bin8] at h
  case add => cases h; exact ⟨_, rfl, .b8 _ _ (by rw [u8_wrap, UInt8.toNat_add]; omega)⟩
  case sub => cases h; exact ⟨_, rfl, .b8 _ _ (by rw [u8_wrap, UInt8.toNat_sub]; omega)⟩
  case mul => cases h; exact ⟨_, rfl, .b8 _ _ (by rw [u8_wrap, UInt8.toNat_mul]; simp [Int.natCast_mul])⟩
  case quo =>
    split at h
    · cases h
    · rename_i hne
      cases h
      refine ⟨.int .u8 (IntKind.u8.wrap ((a.toNat : Int).tdiv b.toNat)), by simp only [Op.intDiv]; rw [if_neg (hz hne)]; rfl, .b8 _ _ ?_⟩
      rw [u8_wrap, UInt8.toNat_div, ← Int.ofNat_tdiv]
      have : a.toNat / b.toNat ≤ a.toNat := Nat.div_le_self _ _
      generalize a.toNat / b.toNat = q at *
      omega
  case rem =>
    split at h
    · cases h
    · rename_i hne
      cases h
      refine ⟨.int .u8 ((a.toNat : Int).tmod b.toNat), by simp only [Op.intDiv]; rw [if_neg (hz hne)]; rfl, .b8 _ _ ?_⟩
      rw [UInt8.toNat_mod, ← Int.ofNat_tmod]
  case and =>
    cases h
    refine ⟨_, rfl, .b8 _ _ ?_⟩
    rw [u8_wrap]
    show (((BitVec.ofInt 8 (a.toNat : Int) &&& BitVec.ofInt 8 (b.toNat : Int)).toNat : Nat) : Int) % 256 = _
    rw [h8, h8, ← UInt8.toBitVec_and, UInt8.toNat_toBitVec]
    have := (a &&& b).toNat_lt
    omega
  case or =>
    cases h
    refine ⟨_, rfl, .b8 _ _ ?_⟩
    rw [u8_wrap]
    show (((BitVec.ofInt 8 (a.toNat : Int) ||| BitVec.ofInt 8 (b.toNat : Int)).toNat : Nat) : Int) % 256 = _
    rw [h8, h8, ← UInt8.toBitVec_or, UInt8.toNat_toBitVec]
    have := (a ||| b).toNat_lt
    omega
  case xor =>
    cases h
    refine ⟨_, rfl, .b8 _ _ ?_⟩
    rw [u8_wrap]
    show (((BitVec.ofInt 8 (a.toNat : Int) ^^^ BitVec.ofInt 8 (b.toNat : Int)).toNat : Nat) : Int) % 256 = _
    rw [h8, h8, ← UInt8.toBitVec_xor, UInt8.toNat_toBitVec]
    have := (a ^^^ b).toNat_lt
    omega
  case eql => cases h; refine ⟨_, rfl, ?_⟩; rw [show ((a.toNat : Int) == b.toNat) = (a == b) by rw [Bool.eq_iff_iff]; simp [← UInt8.toNat_inj]; omega]; exact .bool _
  case neq => cases h; refine ⟨_, rfl, ?_⟩; rw [show ((a.toNat : Int) != b.toNat) = (a != b) by rw [Bool.eq_iff_iff]; simp [← UInt8.toNat_inj]; omega]; exact .bool _
  case lss => cases h; refine ⟨_, rfl, ?_⟩; rw [show decide ((a.toNat : Int) < b.toNat) = decide (a < b) by simp [UInt8.lt_iff_toNat_lt]]; exact .bool _
  case leq => cases h; refine ⟨_, rfl, ?_⟩; rw [show decide ((a.toNat : Int) ≤ b.toNat) = decide (a ≤ b) by simp [UInt8.le_iff_toNat_le]]; exact .bool _
  case gtr => cases h; refine ⟨_, rfl, ?_⟩; rw [show decide ((a.toNat : Int) > b.toNat) = decide (b < a) by simp [UInt8.lt_iff_toNat_lt]]; exact .bool _
  case geq => cases h; refine ⟨_, rfl, ?_⟩; rw [show decide ((a.toNat : Int) ≥ b.toNat) = decide (b ≤ a) by simp [UInt8.le_iff_toNat_le]]; exact .bool _
  all_goals cases h

theorem binI_sim {op : BinOp} {k : IntKind} {a b : Int} {p : PV} (hk : k ≠ .u8) (h : binI op k a b = some p) :
    ∃ v, (match op with
      | .add | .sub | .mul => Op.intArith op k a b
      | .quo | .rem => Op.intDiv op k a b
      | .and | .or | .xor | .andNot => Op.intBits op k a b
      | _ => Op.intCmp op a b).run P w = .ok v w ∧ R g κ v p := by
  cases op <;> simp only [binI] at h
  case add => cases h; exact ⟨_, rfl, .int _ _ hk⟩
  case sub => cases h; exact ⟨_, rfl, .int _ _ hk⟩
  case mul => cases h; exact ⟨_, rfl, .int _ _ hk⟩
  case quo =>
    split at h
    · cases h
    · rename_i hne; cases h; exact ⟨_, by simp [Op.intDiv, hne], .int _ _ hk⟩
  case rem =>
    split at h
    · cases h
    · rename_i hne; cases h; exact ⟨_, by simp [Op.intDiv, hne], .int _ _ hk⟩
  case and => cases h; exact ⟨_, rfl, .int _ _ hk⟩
  case or => cases h; exact ⟨_, rfl, .int _ _ hk⟩
  case xor => cases h; exact ⟨_, rfl, .int _ _ hk⟩
  case eql => cases h; exact ⟨_, rfl, .bool _⟩
  case neq => cases h; exact ⟨_, rfl, .bool _⟩
  case lss => cases h; exact ⟨_, rfl, .bool _⟩
  case leq => cases h; exact ⟨_, rfl, .bool _⟩
  case gtr => cases h; exact ⟨_, rfl, .bool _⟩
  case geq => cases h; exact ⟨_, rfl, .bool _⟩
  all_goals cases h

theorem sh8_sim {op : BinOp} {yk : IntKind} {a : UInt8} {n : Int} {p : PV} (h : sh8 op a n = some p) : ∃ v, (Op.shift op .u8 a.toNat yk n).run P w = .ok v w ∧ R g κ v p := by
  unfold sh8 at h
  split at h
  · cases h
  · rename_i hn
    have ha := a.toNat_lt
    cases op <;> simp only at h
    case shl =>
      cases h
      refine ⟨.int .u8 (IntKind.u8.wrap ((a.toNat : Int) * 2 ^ (min n.toNat 8))), by simp [Op.shift, hn, IntKind.bits], .b8 _ _ ?_⟩
      rw [u8_wrap, u8_toNat_ofNat]
      rw [show ((a.toNat : Int) * 2 ^ (min n.toNat 8)) = ((a.toNat * 2 ^ (min n.toNat 8) : Nat) : Int) by push_cast; rfl]
      omega
    case shr =>
      cases h
      refine ⟨.int .u8 ((a.toNat : Int).fdiv (2 ^ (min n.toNat 8))), by simp [Op.shift, hn, IntKind.bits], .b8 _ _ ?_⟩
      rw [u8_toNat_ofNat]
      have h2 : (0 : Int) ≤ 2 ^ (min n.toNat 8) := by
        have : (0 : Nat) < 2 ^ (min n.toNat 8) := Nat.pow_pos (by omega)
        have h3 : ((2 ^ (min n.toNat 8) : Nat) : Int) = 2 ^ (min n.toNat 8) := by push_cast; rfl
        omega
      rw [Int.fdiv_eq_ediv_of_nonneg _ h2]
      rw [show ((a.toNat : Int) / 2 ^ (min n.toNat 8)) = ((a.toNat / 2 ^ (min n.toNat 8) : Nat) : Int) by push_cast; rfl]
      have : a.toNat / 2 ^ (min n.toNat 8) ≤ a.toNat := Nat.div_le_self _ _
      generalize a.toNat / 2 ^ (min n.toNat 8) = q at *
      omega
    all_goals cases h

theorem shI_sim {op : BinOp} {k yk : IntKind} {a n : Int} {p : PV} (hk : k ≠ .u8) (h : shI op k a n = some p) : ∃ v, (Op.shift op k a yk n).run P w = .ok v w ∧ R g κ v p := by
  unfold shI at h
  split at h
  · cases h
  · rename_i hn
    cases op <;> simp at h
    case shl => subst h; exact ⟨.int k (k.wrap (a * 2 ^ (min n.toNat k.bits))), by simp [Op.shift, hn], .int _ _ hk⟩
    case shr => subst h; exact ⟨.int k (a.fdiv (2 ^ (min n.toNat k.bits))), by simp [Op.shift, hn], .int _ _ hk⟩

theorem toList_eq (s : ByteArray) : s.toList = s.data.toList := ByteArray.toList_eq s

theorem binS_sim {op : BinOp} {a b : ByteArray} {p : PV} (h : binS op a.data.toList b.data.toList = some p) : ∃ v, (Op.stringOp op a b).run P w = .ok v w ∧ R g κ v p := by
  cases op <;> simp only [binS] at h
  case add =>
    split at h
    · rename_i hle
      cases h
      have : ¬ ((a.size + b.size : Nat) : Int) > IntKind.i64.max := by
        have h1 : a.data.toList.length = a.size := rfl
        have h2 : b.data.toList.length = b.size := rfl
        have h3 : IntKind.i64.max = 9223372036854775807 := by decide
        rw [h1, h2] at hle
        omega
      refine ⟨.string (a ++ b), by simp only [Op.stringOp]; rw [if_neg this]; rfl, .str _ _ (by simp)⟩
    · cases h
  case eql => cases h; refine ⟨_, rfl, ?_⟩; rw [toList_eq, toList_eq]; exact .bool _
  case neq => cases h; refine ⟨_, rfl, ?_⟩; rw [toList_eq, toList_eq]; exact .bool _
  case lss => cases h; refine ⟨_, rfl, ?_⟩; rw [toList_eq, toList_eq]; exact .bool _
  case leq => cases h; refine ⟨_, rfl, ?_⟩; rw [toList_eq, toList_eq]; exact .bool _
  case gtr => cases h; refine ⟨_, rfl, ?_⟩; rw [toList_eq, toList_eq]; exact .bool _
  case geq => cases h; refine ⟨_, rfl, ?_⟩; rw [toList_eq, toList_eq]; exact .bool _
  all_goals cases h

/-! ### == -/
theorem eqLeaf_sim {d : Nat} {t : TypeId} {k : FK} {x y : Value} {p q : PV} {b : Bool} (ht : fkOK P t k = true)
    (hx : R g κ x p) (hy : R g κ y q) (h : eqLeaf k p q = some b) : (Op.equalIn (d + 1) t x y).run P w = .ok b w := by
  unfold eqLeaf at h
  split at h
  · simp only [fkOK] at ht
    split at ht <;> simp at ht
    rename_i hu
    cases hx; cases hy; cases h
    simp [Op.equalIn, run_underlying hu]
  · simp only [fkOK] at ht
    split at ht <;> simp at ht
    rename_i hu
    cases hx with | b8 _ m hm' => cases hy with | b8 _ m' hm'' =>
    cases h; subst hm' hm''
    simp only [Op.equalIn, Sem.run_bind, run_underlying hu, Result.andThen_ok, if_true, Sem.run_pure]
    congr 1
    rw [Bool.eq_iff_iff]; simp [← UInt8.toNat_inj]; omega
  · simp only [fkOK] at ht
    split at ht <;> simp at ht
    rename_i hu
    cases hx; cases hy
    split at h
    · rename_i hk; subst hk; cases h
      simp [Op.equalIn, run_underlying hu]
    · cases h
  · simp only [fkOK] at ht
    split at ht <;> simp at ht
    rename_i hu
    cases hx with | str s l hl => cases hy with | str s' l' hl' =>
    cases h; subst hl hl'
    simp only [Op.equalIn, Sem.run_bind, run_underlying hu, Result.andThen_ok, Sem.run_pure]
    rw [beq_toListBytes, toList_eq, toList_eq]
  · cases h

theorem run_isAgg_fk {t : TypeId} {k : FK} (h : fkOK P t k = true) : isAggT P t = some false := by
  unfold isAggT
  cases k <;> simp only [fkOK] at h <;> split at h <;> simp_all

theorem run_part {t : TypeId} {cs : Array Value} {off : Nat} {v : Value} (h : isAggT P t = some false) (hv : cs[off]? = some v) : (part t cs off).run P w = .ok v w := by
  simp [part, run_isAgg h, hv]

theorem eqFields_sim {d : Nat} {xs ys : Array Value} {ps qs : List PV} (hx : ∀ (i : Nat) (v : Value) (p : PV), xs[i]? = some v → ps[i]? = some p → R g κ v p) (hxl : xs.size = ps.length)
    (hy : ∀ (i : Nat) (v : Value) (p : PV), ys[i]? = some v → qs[i]? = some p → R g κ v p) (hyl : ys.size = qs.length) :
    ∀ (fs : List Field) (ks : List FK) (i : Nat) (b : Bool), eqFields P i fs ks = true → eqCells ks (ps.drop i) (qs.drop i) = some b → (Op.eqFields (d + 1) xs ys fs).run P w = .ok b w := by
  intro fs
  induction fs with
  | nil =>
    intro ks i b h1 h2
    cases ks with
    | cons => simp [Ab.eqFields] at h1
    | nil =>
      generalize ps.drop i = a at *
      generalize qs.drop i = c at *
      cases a <;> cases c <;> simp [eqCells] at h2
      subst h2; simp [Op.eqFields]
  | cons f fs ih =>
    intro ks i b h1 h2
    cases ks with
    | nil => simp [Ab.eqFields] at h1
    | cons k ks =>
      simp only [Ab.eqFields, Bool.and_eq_true, decide_eq_true_eq] at h1
      obtain ⟨⟨⟨hoff, hname⟩, hfk⟩, hrest⟩ := h1
      cases hp : ps.drop i with
      | nil => rw [hp] at h2; cases hq : qs.drop i <;> simp [hq, eqCells] at h2
      | cons a as =>
        cases hq : qs.drop i with
        | nil => rw [hp, hq] at h2; simp [eqCells] at h2
        | cons c cs =>
          rw [hp, hq] at h2
          have hpi : ps[i]? = some a := by have := congrArg List.head? hp; simpa [List.head?_drop] using this
          have hqi : qs[i]? = some c := by have := congrArg List.head? hq; simpa [List.head?_drop] using this
          have hil : i < ps.length := (List.getElem?_eq_some_iff.1 hpi).1
          have hil' : i < qs.length := (List.getElem?_eq_some_iff.1 hqi).1
          have hxi : xs[i]? = some xs[i] := by simp [show i < xs.size by omega]
          have hyi : ys[i]? = some ys[i] := by simp [show i < ys.size by omega]
          have hp' : ps.drop (i + 1) = as := by rw [← List.drop_drop, hp]; rfl
          have hq' : qs.drop (i + 1) = cs := by rw [← List.drop_drop, hq]; rfl
          simp only [eqCells] at h2
          cases he : eqLeaf k a c with
          | none => simp [he] at h2
          | some r =>
            have h3 := eqLeaf_sim (P := P) (w := w) (d := d) hfk (hx i _ _ hxi hpi) (hy i _ _ hyi hqi) he
            simp only [Op.eqFields, hname, ne_eq, not_false_eq_true, if_true, Sem.run_bind, hoff, run_part (run_isAgg_fk hfk) hxi, run_part (run_isAgg_fk hfk) hyi, Result.andThen_ok, h3]
            cases r with
            | false => simp [he] at h2; subst h2; simp
            | true =>
              simp [he] at h2
              simp only [Bool.not_true, Bool.false_eq_true, if_false]
              exact ih ks (i + 1) b hrest (by rw [hp', hq']; exact h2)

theorem eq_ptr (d : Nat) {t e : TypeId} (hu : P.underlying t = some (.pointer e)) (a b : Option Addr) (h : a = none ∨ b = none) : (Op.equalIn (d + 1) t (.pointer a) (.pointer b)).run P w = .ok (a.isNone && b.isNone) w := by
  rcases h with rfl | rfl
  · simp [Op.equalIn, run_underlying hu]
  · cases a <;> simp [Op.equalIn, run_underlying hu]
theorem eq_slice (d : Nat) {t e : TypeId} (hu : P.underlying t = some (.slice e)) (a b : Option Addr) (n c n' c' : Nat) (h : a = none ∨ b = none) : (Op.equalIn (d + 1) t (.slice a n c) (.slice b n' c')).run P w = .ok (a.isNone && b.isNone) w := by
  rcases h with rfl | rfl
  · simp [Op.equalIn, run_underlying hu]
  · cases a <;> simp [Op.equalIn, run_underlying hu]
theorem eq_func1 (d : Nat) {t : TypeId} {ps rs : Array TypeId} {v : Bool} (hu : P.underlying t = some (.func ps rs v)) : (Op.equalIn (d + 1) t .nilFunc .nilFunc).run P w = .ok true w := by
  simp [Op.equalIn, run_underlying hu]
theorem eq_func2 (d : Nat) {t : TypeId} {ps rs : Array TypeId} {v : Bool} (hu : P.underlying t = some (.func ps rs v)) (f : Fn) (a b : Array Value) : (Op.equalIn (d + 1) t .nilFunc (.func f a b)).run P w = .ok false w := by
  simp [Op.equalIn, run_underlying hu]
theorem eq_func3 (d : Nat) {t : TypeId} {ps rs : Array TypeId} {v : Bool} (hu : P.underlying t = some (.func ps rs v)) (f : Fn) (a b : Array Value) : (Op.equalIn (d + 1) t (.func f a b) .nilFunc).run P w = .ok false w := by
  simp [Op.equalIn, run_underlying hu]

theorem eqPV_sim' (d : Nat) {t : TypeId} {ek : EK} {x y : Value} {p q : PV} {b : Bool} (ht : ekOK P t ek = true) (hx : R g κ x p) (hy : R g κ y q) (h : eqPV ek p q = some b) :
    (Op.equalIn (d + 1 + 1) t x y).run P w = .ok b w := by
  unfold eqPV at h
  split at h
  all_goals (first | (cases h; done) | skip)
  case _ =>
    simp only [ekOK] at ht
    split at ht <;> simp at ht
    rename_i hu
    cases hx; cases hy; cases h
    exact run_equalIn_bool w _ t _ _ hu
  all_goals (first
    | (simp only [ekOK] at ht
       split at ht <;> simp at ht
       rename_i hu
       cases hx; cases hy; cases h
       first | exact eq_ptr _ hu _ _ (.inl rfl) | exact eq_ptr _ hu _ _ (.inr rfl) | exact eq_slice _ hu _ _ _ _ _ _ (.inl rfl) | exact eq_slice _ hu _ _ _ _ _ _ (.inr rfl) | exact eq_func1 _ hu | exact eq_func2 _ hu _ _ _ | exact eq_func3 _ hu _ _ _)
    | skip)
  simp only [ekOK] at ht
  split at ht
  · rename_i fs hu
    simp only [Bool.and_eq_true] at ht
    obtain ⟨⟨h2, h3⟩, h4⟩ := ht
    cases hx with | agg vs _ hl _ hr => cases hy with | agg vs' _ hl' _ hr' =>
    have hf : P.fieldsOf t = fs := by simp [Program.fieldsOf, hu]
    rw [run_equalIn_struct w (d + 1) t vs vs' (by rw [hf]; exact hu) (by simpa using h3), hf]
    exact eqFields_sim (d := d) hr hl hr' hl' fs.toList _ 0 b h2 (by simpa using h)
  · cases ht

theorem eqPV_sim {t : TypeId} {ek : EK} {x y : Value} {p q : PV} {b : Bool} (ht : ekOK P t ek = true) (hx : R g κ x p) (hy : R g κ y q) (h : eqPV ek p q = some b) :
    (Op.equal t x y).run P w = .ok b w := eqPV_sim' 9998 ht hx hy h

/-- What eqGuard asks is never met. -/
theorem eqGuard_sim {op : BinOp} {t : TypeId} {ek : EK} {x y : Operand} {v u : Value} {p q r : PV} (ht : ekOK P t ek = true) (hx : R g κ v p) (hy : R g κ u q) (h : binPV op ek p q = some r) :
    (eqGuard op t x y v u).run P w = .ok () w := by
  cases hx
  case nili => cases hy <;> cases op <;> simp_all [binPV, eqPV] <;> (cases ek <;> simp_all)
  case agg vs ps hl hlf hr =>
    cases hy
    case agg vs' ps' hl' hlf' hr' =>
      by_cases ho : op = .eql ∨ op = .neq
      · have hg : P.eqGuardType P.depth t = false := by
          have : ∃ ks, ek = .struct ks := by
            rcases ho with rfl | rfl <;> cases ek <;> simp_all [binPV, eqPV]
          obtain ⟨ks, rfl⟩ := this
          simp only [ekOK] at ht
          split at ht
          · simp only [Bool.and_eq_true] at ht; simpa using ht.2
          · cases ht
        exact run_eqGuard_agg w op t x y vs vs' hg
      · cases op <;> simp_all [eqGuard]
    all_goals (cases op <;> simp [eqGuard])
  all_goals (cases op <;> simp [eqGuard])

theorem binPV_sim {op : BinOp} {t : TypeId} {ek : EK} {v u : Value} {p q r : PV} (ht : ekOK P t ek = true) (hx : R g κ v p) (hy : R g κ u q) (h : binPV op ek p q = some r) :
    ∃ z, (binOp op t v u).run P w = .ok z w ∧ R g κ z r := by
  unfold binPV at h
  split at h
  · rename_i a b
    cases hx with | b8 _ m hm => cases hy with | b8 _ m' hm' =>
    subst hm hm'
    by_cases hs : op = .shl ∨ op = .shr
    · have h' : sh8 op a b.toNat = some r := by rcases hs with rfl | rfl <;> exact h
      obtain ⟨z, h1, h2⟩ := sh8_sim (P := P) (w := w) (g := g) (κ := κ) (yk := .u8) h'
      exact ⟨z, by rcases hs with rfl | rfl <;> exact h1, h2⟩
    · have h' : bin8 op a b = some r := by cases op <;> simp_all
      obtain ⟨z, h1, h2⟩ := bin8_sim (P := P) (w := w) (g := g) (κ := κ) h'
      exact ⟨z, by cases op <;> first | exact h1 | simp_all, h2⟩
  · rename_i k a k' b
    cases hx with | int _ _ hk => cases hy with | int _ _ hk' =>
    by_cases hs : op = .shl ∨ op = .shr
    · have h' : shI op k a b = some r := by rcases hs with rfl | rfl <;> exact h
      obtain ⟨z, h1, h2⟩ := shI_sim (P := P) (w := w) (g := g) (κ := κ) (yk := k') hk h'
      exact ⟨z, by rcases hs with rfl | rfl <;> exact h1, h2⟩
    · have h' : k = k' ∧ binI op k a b = some r := by
        by_cases hkk : k = k'
        · exact ⟨hkk, by cases op <;> simp_all⟩
        · cases op <;> simp_all
      obtain ⟨rfl, h'⟩ := h'
      obtain ⟨z, h1, h2⟩ := binI_sim (P := P) (w := w) (g := g) (κ := κ) hk h'
      exact ⟨z, by cases op <;> first | (simp only [binOp, ne_eq, not_true, if_false]; exact h1) | simp_all, h2⟩
  · rename_i k a b
    cases hx with | int _ _ hk => cases hy with | b8 _ m' hm' =>
    subst hm'
    by_cases hs : op = .shl ∨ op = .shr
    · have h' : shI op k a b.toNat = some r := by rcases hs with rfl | rfl <;> exact h
      obtain ⟨z, h1, h2⟩ := shI_sim (P := P) (w := w) (g := g) (κ := κ) (yk := .u8) hk h'
      exact ⟨z, by rcases hs with rfl | rfl <;> exact h1, h2⟩
    · cases op <;> simp_all
  · rename_i a k b
    cases hx with | b8 _ m hm => cases hy with | int _ _ hk =>
    subst hm
    by_cases hs : op = .shl ∨ op = .shr
    · have h' : sh8 op a b = some r := by rcases hs with rfl | rfl <;> exact h
      obtain ⟨z, h1, h2⟩ := sh8_sim (P := P) (w := w) (g := g) (κ := κ) (yk := k) h'
      exact ⟨z, by rcases hs with rfl | rfl <;> exact h1, h2⟩
    · cases op <;> simp_all
  · cases hx with | str s l hl => cases hy with | str s' l' hl' =>
    subst hl hl'
    obtain ⟨z, h1, h2⟩ := binS_sim (P := P) (w := w) (g := g) (κ := κ) h
    exact ⟨z, by cases op <;> exact h1, h2⟩
  · split at h
    · cases he : eqPV ek p q with
      | none => simp [he] at h
      | some b =>
        simp [he] at h; subst h
        have h3 := eqPV_sim (P := P) (w := w) ht hx hy he
        refine ⟨.bool b, ?_, .bool b⟩
        have h4 : ∀ (hb : binOp .eql t v u = (do pure (.bool (← Op.equal t v u)))), (binOp .eql t v u).run P w = .ok (.bool b) w := fun hb => by
          rw [hb]; simp only [Sem.run_bind, h3, Result.andThen_ok, Sem.run_pure]
        apply h4
        cases hx <;> cases hy <;> first | rfl | (exfalso; clear h3 h4 ht; cases ek <;> simp [eqPV] at he) | (exfalso; simp_all)
    · cases he : eqPV ek p q with
      | none => simp [he] at h
      | some b =>
        simp [he] at h; subst h
        have h3 := eqPV_sim (P := P) (w := w) ht hx hy he
        refine ⟨.bool (!b), ?_, .bool _⟩
        have h4 : ∀ (hb : binOp .neq t v u = (do pure (.bool (!(← Op.equal t v u))))), (binOp .neq t v u).run P w = .ok (.bool (!b)) w := fun hb => by
          rw [hb]; simp only [Sem.run_bind, h3, Result.andThen_ok, Sem.run_pure]
        apply h4
        cases hx <;> cases hy <;> first | rfl | (exfalso; clear h3 h4 ht; cases ek <;> simp [eqPV] at he) | (exfalso; simp_all)
    · cases h

end Go.Ab
