/-
  The library's searches as primitives, out of the shelf's contracts.
-/
import Derived.Test.YtemnjmphkmokmaaAbLaw
import Derived.Test.YtemnjmphkmokmaaAbSimp
import Derived.Shelf.Bytes.SlIndexWhole
import Derived.Shelf.Bytes.IndexByte
namespace Go.Ab
open Go.Shelf Go.Proofs
set_option linter.unusedVariables false
set_option linter.unusedSimpArgs false
variable {P : Program} {g : GMap} {ρ : Go.Shelf.Ren}

def numsOf (a : List UInt8) : List Int := a.map fun b => (b.toNat : Int)
theorem bytesOf_nums (a : List UInt8) : Lib.bytesOf (numsOf a) = a := by
  simp [Lib.bytesOf, numsOf, Function.comp_def]
theorem nums_range (a : List UInt8) : ∀ x ∈ numsOf a, 0 ≤ x ∧ x < 256 := by
  intro x hx
  simp only [numsOf, List.mem_map] at hx
  obtain ⟨b, _, rfl⟩ := hx
  have := b.toNat_lt
  omega
theorem nums_getD (a : List UInt8) {i : Nat} (h : i < a.length) : (numsOf a).getD i 0 = ((a[i]).toNat : Int) := by
  simp [numsOf, List.getD, h]

theorem cells_of {κ : K} {w : World} (hC : ∀ b i u, κ.C b i = some u → w.cell? ⟨b, i, none⟩ = some u) {blk off : Nat} {a : List UInt8} (hb : ∀ (i : Nat) (b : UInt8), a[i]? = some b → κ.C blk (off + i) = some (.int .u8 b.toNat)) :
    ∀ i, i < a.length → w.cell? ((⟨blk, off, none⟩ : Addr).add i) = some (.int .u8 ((numsOf a).getD i 0)) := by
  intro i hi
  rw [add_eq, nums_getD a hi]
  exact hC _ _ _ (hb i _ (by simp [hi]))

theorem primIndex (L : Lays.n185 P ρ) (hm : ∀ κ, g.inv κ → ∃ m, κ.C (ρ.g 1) 0 = some (.int .i64 m)) {pf : Func} (hpf : P.funcs[ρ.f 185]? = some pf) (hb : pf.body.isSome = true) (hn : pf.name ≠ "runtime.NumGoroutine") : PrimOK P g (ρ.f 185) pBytesIndex := by
  refine prim_of_calls hpf hb hn (fun κ w args ps v hi hC hsz hargs hp => ?_)
  obtain ⟨m, hm⟩ := hm κ hi
  have hmc := hC _ _ _ hm
  match ps, hp with
  | [x, y], hp =>
    simp only [pBytesIndex] at hp
    cases hx : x.by with
    | none => simp [hx] at hp
    | some a =>
      cases hy : y.by with
      | none => simp [hx, hy] at hp
      | some b =>
        simp only [hx, hy] at hp
        split at hp
        · rename_i hlen
          cases hp
          obtain ⟨u1, u2, rfl⟩ : ∃ u1 u2, args = #[u1, u2] := by
            obtain ⟨l⟩ := args
            match l, hsz with
            | [u1, u2], _ => exact ⟨u1, u2, rfl⟩
          have r1 := hargs 0 u1 x rfl rfl
          have r2 := hargs 1 u2 y rfl rfl
          have post : ∀ (n : Int), n = Lib.index a b → ∀ (e : Ending) (w' : World), (e = .returned (.int .i64 n) ∧ ∃ q, w' = w.drewN q) → ∃ z, e = .returned z ∧ (∀ κ', R g κ' z (.int .i64 (Lib.index a b))) ∧ w'.heap = w.heap ∧ w'.os = w.os ∧ w'.tape = w.tape ∧ w'.output = w.output := by
            rintro n rfl e w' ⟨rfl, q, rfl⟩
            exact ⟨_, rfl, fun κ' => .int .i64 _ (by decide), rfl, rfl, rfl, rfl⟩
          have post0 : ∀ (n : Int), n = Lib.index a b → ∀ (e : Ending) (w' : World), (e = .returned (.int .i64 n) ∧ w' = w) → ∃ z, e = .returned z ∧ (∀ κ', R g κ' z (.int .i64 (Lib.index a b))) ∧ w'.heap = w.heap ∧ w'.os = w.os ∧ w'.tape = w.tape ∧ w'.output = w.output := by
            rintro n rfl e w' ⟨rfl, rfl⟩
            exact ⟨_, rfl, fun κ' => .int .i64 _ (by decide), rfl, rfl, rfl, rfl⟩
          rcases by_cases' hx with ⟨rfl, rfl⟩ | ⟨t, rfl⟩
          · cases r1
            rcases by_cases' hy with ⟨rfl, rfl⟩ | ⟨t2, rfl⟩
            · cases r2
              exact (Any.bytes_Index_none L none none 0 0 0 w).mono (post0 0 (by simp [Lib.index]))
            · cases r2 with
              | bys blk off n c _ _ h1 h2 h3 h4 =>
                subst h1
                refine (Any.bytes_Index_nil L (some ⟨blk, off, none⟩) b.length c w (by omega) (fun h1 => ?_)).mono (post0 _ ?_)
                · have := cells_of hC h3 0 (by omega)
                  rw [add_eq] at this
                  exact ⟨blk, off, _, rfl, this⟩
                · cases b <;> simp [Lib.index]
          · cases r1 with
            | bys blk off n c _ _ h1 h2 h3 h4 =>
              subst h1
              rcases by_cases' hy with ⟨rfl, rfl⟩ | ⟨t2, rfl⟩
              · cases r2
                exact (Any.bytes_Index_none L (some ⟨blk, off, none⟩) none a.length c 0 w).mono (post0 0 (Lib.index_empty a).symm)
              · cases r2 with
                | bys blk2 off2 n2 c2 _ _ k1 k2 k3 k4 =>
                  subst k1
                  refine (Any.bytes_Index_at L ⟨blk, off, none⟩ ⟨blk2, off2, none⟩ a.length c b.length c2 (numsOf a) (numsOf b) m w (by simp [numsOf]) (by simp [numsOf]) (nums_range a) (nums_range b) (cells_of hC h3) (cells_of hC k3) h2 hlen.1 (by omega) hmc).mono (post _ ?_)
                  rw [bytesOf_nums, bytesOf_nums]
        · cases hp
  | [], hp => simp [pBytesIndex] at hp
  | [_], hp => simp [pBytesIndex] at hp
  | _ :: _ :: _ :: _, hp => simp [pBytesIndex] at hp
end Go.Ab
