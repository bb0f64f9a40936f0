/-
  Arguments of type []byte, opened.
-/
import Derived.Test.YtemnjmphkmokmaaAbLaw
import Derived.Test.YtemnjmphkmokmaaAbSimp
import Derived.ProofKit
import Derived.HandedShaped
namespace Go.Ab
open Go.ChangeShapes Go.WideShapes Go.ChangeAt Go.RowKit
set_option linter.unusedVariables false
set_option linter.unusedSimpArgs false
variable {P : Program} {g : GMap}

theorem byte_of_wf {x : Int} (h : (Lit.int .u8 x).wf = true) : 0 ≤ x ∧ x < 256 := by
  have h1 : IntKind.u8.min = 0 := rfl
  have h2 : IntKind.u8.max = 255 := rfl
  simp only [Lit.wf, Bool.and_eq_true, decide_eq_true_eq] at h
  omega

/-- An argument of type []byte, nil or not: a slice of bytes that owns nothing. -/
theorem open_bytes {H : Type} {enc : TypeId × Value → H} {W : World} {base : Nat} {v : Value} {d : DataW H} {p : List MemPlace} {t e : TypeId} (ht : P.underlying t = some (.slice e)) (he : P.underlying e = some (.int .u8)) (hc : P.cellsOf e = 1)
    (hval : Value.okWide P W .any base t v) (h0 : DataW.Trod enc P W 0 (fun _ => true) true t v d p) : ∃ (x : PV) (l : List UInt8), x.by = some l ∧ x.tokLt 0 = true ∧ R g (κ0 W) v x := by
  obtain ⟨a0, len, cap, rfl⟩ := okWide_slice ht hval
  obtain ⟨fuel, hf⟩ := h0
  rcases open_ints ht he hc hf with ⟨hcs, hx⟩ | ⟨a, len', cap', zs, hcs, _, hl, hm, hz, hx, hcell, hwz⟩
  · simp [Value.cells] at hcs
    obtain ⟨rfl, rfl, rfl⟩ := hcs
    exact ⟨.nils, [], rfl, rfl, .nils⟩
  · simp [Value.cells] at hcs
    obtain ⟨rfl, rfl, rfl⟩ := hcs
    simp only [if_true] at hz
    have hspot : a.spot = none := by
      simp only [Value.okWide, ht, Cell.okWide, Cell.ok] at hval
      exact hval.2.2.2.1
    obtain ⟨blk, off, sp⟩ := a
    simp only at hspot
    subst hspot
    refine ⟨.bys .no ((zs.take len).map fun n => n.toNat.toUInt8), _, rfl, rfl, .bys blk off len cap .no _ (by simp; omega) hl (fun i b hb => ?_) trivial⟩
    simp only [List.getElem?_map, Option.map_eq_some_iff, List.getElem?_take] at hb
    obtain ⟨n, hn, rfl⟩ := hb
    split at hn
    · rename_i hi
      have h1 := hcell i (by omega)
      rw [add_eq] at h1
      have hn2 : zs.getD i 0 = n := by simp [List.getD, hn]
      have hw := byte_of_wf (hwz n (List.mem_of_getElem? hn))
      show W.cell? ⟨blk, off + i, none⟩ = _
      rw [h1, hn2]
      have : ((n.toNat.toUInt8).toNat : Int) = n := by
        simp [Nat.toUInt8, UInt8.toNat_ofNat]; omega
      rw [this]
    · cases hn
end Go.Ab
