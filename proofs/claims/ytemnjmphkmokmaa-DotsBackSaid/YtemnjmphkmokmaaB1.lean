/-
  The abstract program belongs to this seat's program.
-/
import Derived.Test.YtemnjmphkmokmaaA3
import Derived.Test.YtemnjmphkmokmaaA4
import Derived.KernelRfl
import Derived.Test.YtemnjmphkmokmaaProg
import Derived.Test.YtemnjmphkmokmaaShelf
namespace Go.Ab.Ytemnjmphkmokmaa
open Go.Proofs Go.Shelf
set_option linter.unusedVariables false
def gfn : FuncId → Option Nat := fun f => match f with
  | 5 => some 13
  | 6 => some 16
  | 7 => some 17
  | 8 => some 2
  | 9 => some 3
  | 11 => some 5
  | 13 => some 8
  | 14 => some 10
  | 15 => some 11
  | 16 => some 12
  | 17 => some 14
  | 18 => some 15
  | 19 => some 18
  | 20 => some 19
  | 21 => some 20
  | 22 => some 21
  | 23 => some 22
  | 24 => some 23
  | 25 => some 24
  | 26 => some 25
  | 27 => some 26
  | 28 => some 27
  | 29 => some 32
  | 30 => some 28
  | 31 => some 29
  | 32 => some 30
  | 33 => some 31
  | 35 => some 34
  | 39 => some 35
  | _ => none
def gm : GMap := { fn := gfn, inv := fun κ => ∃ m, κ.C (Try.laysM185_ren.g 1) 0 = some (.int .i64 m), mono := fun _ _ h ⟨m, hm⟩ => ⟨m, h _ _ _ hm⟩, glob := fun _ => none, globOK := fun _ _ _ _ h => by cases h }
theorem chk5 : chkFn Try.prog gm Try.f5 F_posthornlaw05_DotsNobody = true := by kernel_rfl
theorem chk6 : chkFn Try.prog gm Try.f6 F_posthornlaw05_DotsBack = true := by kernel_rfl
theorem chk7 : chkFn Try.prog gm Try.f7 F_posthornlaw05_DotsCuts = true := by kernel_rfl
theorem chk8 : chkFn Try.prog gm Try.f8 F_posthornlaw05_alive = true := by kernel_rfl
theorem chk9 : chkFn Try.prog gm Try.f9 F_dots_Stuff = true := by kernel_rfl
theorem chk11 : chkFn Try.prog gm Try.f11 F_dots_Right = true := by kernel_rfl
theorem chk13 : chkFn Try.prog gm Try.f13 F_posthornref05_Lines = true := by kernel_rfl
theorem chk14 : chkFn Try.prog gm Try.f14 F_P_dots_Reader_Put = true := by kernel_rfl
theorem chk15 : chkFn Try.prog gm Try.f15 F_posthornref05_Frame = true := by kernel_rfl
theorem chk16 : chkFn Try.prog gm Try.f16 F_P_dots_Reader_Text = true := by kernel_rfl
theorem chk17 : chkFn Try.prog gm Try.f17 F_posthornref01_Copy = true := by kernel_rfl
theorem chk18 : chkFn Try.prog gm Try.f18 F_dots_New = true := by kernel_rfl
theorem chk19 : chkFn Try.prog gm Try.f19 F_dots_lines = true := by kernel_rfl
theorem chk20 : chkFn Try.prog gm Try.f20 F_bytes_CutSuffix = true := by kernel_rfl
theorem chk21 : chkFn Try.prog gm Try.f21 F_dots_bare = true := by kernel_rfl
theorem chk22 : chkFn Try.prog gm Try.f22 F_posthornref05_bare = true := by kernel_rfl
theorem chk23 : chkFn Try.prog gm Try.f23 F_posthornref03_Pair = true := by kernel_rfl
theorem chk24 : chkFn Try.prog gm Try.f24 F_P_dots_Reader_fault = true := by kernel_rfl
theorem chk25 : chkFn Try.prog gm Try.f25 F_P_dots_Reader_take = true := by kernel_rfl
theorem chk26 : chkFn Try.prog gm Try.f26 F_posthornref05_fault = true := by kernel_rfl
theorem chk27 : chkFn Try.prog gm Try.f27 F_slices_Clone_s_byte_byte = true := by kernel_rfl
theorem chk28 : chkFn Try.prog gm Try.f28 F_dots_lines_c1 = true := by kernel_rfl
theorem chk30 : chkFn Try.prog gm Try.f30 F_bytes_HasSuffix = true := by kernel_rfl
theorem chk31 : chkFn Try.prog gm Try.f31 F_slices_IndexFunc_s_byte_byte = true := by kernel_rfl
theorem chk32 : chkFn Try.prog gm Try.f32 F_dots_bare_c1 = true := by kernel_rfl
theorem chk33 : chkFn Try.prog gm Try.f33 F_bytes_CutPrefix = true := by kernel_rfl
theorem chk35 : chkFn Try.prog gm Try.f35 F_bytes_Equal = true := by kernel_rfl
theorem chk39 : chkFn Try.prog gm Try.f39 F_bytes_HasPrefix = true := by kernel_rfl
set_option maxRecDepth 100000 in
theorem code_ok : ∀ (f' : FuncId) (f : Nat) (fn : ACFn), gm f' = some f → prog f = some (.code fn) → ∃ pf, Try.prog.funcs[f']? = some pf ∧ chkFn Try.prog gm pf fn = true := by
  intro f' f fn hg hA
  match f', hg with
  | 0, hg => exact absurd (show (none : Option Nat) = some f from hg) (by simp)
  | 1, hg => exact absurd (show (none : Option Nat) = some f from hg) (by simp)
  | 2, hg => exact absurd (show (none : Option Nat) = some f from hg) (by simp)
  | 3, hg => exact absurd (show (none : Option Nat) = some f from hg) (by simp)
  | 4, hg => exact absurd (show (none : Option Nat) = some f from hg) (by simp)
  | 5, hg =>
    obtain rfl : f = 13 := (Option.some.inj (show some 13 = some f from hg)).symm
    obtain rfl : fn = F_posthornlaw05_DotsNobody := (AFn.code.inj (Option.some.inj (prog_13.symm.trans hA))).symm
    exact ⟨_, Try.func5, chk5⟩
  | 6, hg =>
    obtain rfl : f = 16 := (Option.some.inj (show some 16 = some f from hg)).symm
    obtain rfl : fn = F_posthornlaw05_DotsBack := (AFn.code.inj (Option.some.inj (prog_16.symm.trans hA))).symm
    exact ⟨_, Try.func6, chk6⟩
  | 7, hg =>
    obtain rfl : f = 17 := (Option.some.inj (show some 17 = some f from hg)).symm
    obtain rfl : fn = F_posthornlaw05_DotsCuts := (AFn.code.inj (Option.some.inj (prog_17.symm.trans hA))).symm
    exact ⟨_, Try.func7, chk7⟩
  | 8, hg =>
    obtain rfl : f = 2 := (Option.some.inj (show some 2 = some f from hg)).symm
    obtain rfl : fn = F_posthornlaw05_alive := (AFn.code.inj (Option.some.inj (prog_2.symm.trans hA))).symm
    exact ⟨_, Try.func8, chk8⟩
  | 9, hg =>
    obtain rfl : f = 3 := (Option.some.inj (show some 3 = some f from hg)).symm
    obtain rfl : fn = F_dots_Stuff := (AFn.code.inj (Option.some.inj (prog_3.symm.trans hA))).symm
    exact ⟨_, Try.func9, chk9⟩
  | 10, hg => exact absurd (show (none : Option Nat) = some f from hg) (by simp)
  | 11, hg =>
    obtain rfl : f = 5 := (Option.some.inj (show some 5 = some f from hg)).symm
    obtain rfl : fn = F_dots_Right := (AFn.code.inj (Option.some.inj (prog_5.symm.trans hA))).symm
    exact ⟨_, Try.func11, chk11⟩
  | 12, hg => exact absurd (show (none : Option Nat) = some f from hg) (by simp)
  | 13, hg =>
    obtain rfl : f = 8 := (Option.some.inj (show some 8 = some f from hg)).symm
    obtain rfl : fn = F_posthornref05_Lines := (AFn.code.inj (Option.some.inj (prog_8.symm.trans hA))).symm
    exact ⟨_, Try.func13, chk13⟩
  | 14, hg =>
    obtain rfl : f = 10 := (Option.some.inj (show some 10 = some f from hg)).symm
    obtain rfl : fn = F_P_dots_Reader_Put := (AFn.code.inj (Option.some.inj (prog_10.symm.trans hA))).symm
    exact ⟨_, Try.func14, chk14⟩
  | 15, hg =>
    obtain rfl : f = 11 := (Option.some.inj (show some 11 = some f from hg)).symm
    obtain rfl : fn = F_posthornref05_Frame := (AFn.code.inj (Option.some.inj (prog_11.symm.trans hA))).symm
    exact ⟨_, Try.func15, chk15⟩
  | 16, hg =>
    obtain rfl : f = 12 := (Option.some.inj (show some 12 = some f from hg)).symm
    obtain rfl : fn = F_P_dots_Reader_Text := (AFn.code.inj (Option.some.inj (prog_12.symm.trans hA))).symm
    exact ⟨_, Try.func16, chk16⟩
  | 17, hg =>
    obtain rfl : f = 14 := (Option.some.inj (show some 14 = some f from hg)).symm
    obtain rfl : fn = F_posthornref01_Copy := (AFn.code.inj (Option.some.inj (prog_14.symm.trans hA))).symm
    exact ⟨_, Try.func17, chk17⟩
  | 18, hg =>
    obtain rfl : f = 15 := (Option.some.inj (show some 15 = some f from hg)).symm
    obtain rfl : fn = F_dots_New := (AFn.code.inj (Option.some.inj (prog_15.symm.trans hA))).symm
    exact ⟨_, Try.func18, chk18⟩
  | 19, hg =>
    obtain rfl : f = 18 := (Option.some.inj (show some 18 = some f from hg)).symm
    obtain rfl : fn = F_dots_lines := (AFn.code.inj (Option.some.inj (prog_18.symm.trans hA))).symm
    exact ⟨_, Try.func19, chk19⟩
  | 20, hg =>
    obtain rfl : f = 19 := (Option.some.inj (show some 19 = some f from hg)).symm
    obtain rfl : fn = F_bytes_CutSuffix := (AFn.code.inj (Option.some.inj (prog_19.symm.trans hA))).symm
    exact ⟨_, Try.func20, chk20⟩
  | 21, hg =>
    obtain rfl : f = 20 := (Option.some.inj (show some 20 = some f from hg)).symm
    obtain rfl : fn = F_dots_bare := (AFn.code.inj (Option.some.inj (prog_20.symm.trans hA))).symm
    exact ⟨_, Try.func21, chk21⟩
  | 22, hg =>
    obtain rfl : f = 21 := (Option.some.inj (show some 21 = some f from hg)).symm
    obtain rfl : fn = F_posthornref05_bare := (AFn.code.inj (Option.some.inj (prog_21.symm.trans hA))).symm
    exact ⟨_, Try.func22, chk22⟩
  | 23, hg =>
    obtain rfl : f = 22 := (Option.some.inj (show some 22 = some f from hg)).symm
    obtain rfl : fn = F_posthornref03_Pair := (AFn.code.inj (Option.some.inj (prog_22.symm.trans hA))).symm
    exact ⟨_, Try.func23, chk23⟩
  | 24, hg =>
    obtain rfl : f = 23 := (Option.some.inj (show some 23 = some f from hg)).symm
    obtain rfl : fn = F_P_dots_Reader_fault := (AFn.code.inj (Option.some.inj (prog_23.symm.trans hA))).symm
    exact ⟨_, Try.func24, chk24⟩
  | 25, hg =>
    obtain rfl : f = 24 := (Option.some.inj (show some 24 = some f from hg)).symm
    obtain rfl : fn = F_P_dots_Reader_take := (AFn.code.inj (Option.some.inj (prog_24.symm.trans hA))).symm
    exact ⟨_, Try.func25, chk25⟩
  | 26, hg =>
    obtain rfl : f = 25 := (Option.some.inj (show some 25 = some f from hg)).symm
    obtain rfl : fn = F_posthornref05_fault := (AFn.code.inj (Option.some.inj (prog_25.symm.trans hA))).symm
    exact ⟨_, Try.func26, chk26⟩
  | 27, hg =>
    obtain rfl : f = 26 := (Option.some.inj (show some 26 = some f from hg)).symm
    obtain rfl : fn = F_slices_Clone_s_byte_byte := (AFn.code.inj (Option.some.inj (prog_26.symm.trans hA))).symm
    exact ⟨_, Try.func27, chk27⟩
  | 28, hg =>
    obtain rfl : f = 27 := (Option.some.inj (show some 27 = some f from hg)).symm
    obtain rfl : fn = F_dots_lines_c1 := (AFn.code.inj (Option.some.inj (prog_27.symm.trans hA))).symm
    exact ⟨_, Try.func28, chk28⟩
  | 29, hg =>
    obtain rfl : f = 32 := (Option.some.inj (show some 32 = some f from hg)).symm
    rw [prog_32] at hA; cases hA
  | 30, hg =>
    obtain rfl : f = 28 := (Option.some.inj (show some 28 = some f from hg)).symm
    obtain rfl : fn = F_bytes_HasSuffix := (AFn.code.inj (Option.some.inj (prog_28.symm.trans hA))).symm
    exact ⟨_, Try.func30, chk30⟩
  | 31, hg =>
    obtain rfl : f = 29 := (Option.some.inj (show some 29 = some f from hg)).symm
    obtain rfl : fn = F_slices_IndexFunc_s_byte_byte := (AFn.code.inj (Option.some.inj (prog_29.symm.trans hA))).symm
    exact ⟨_, Try.func31, chk31⟩
  | 32, hg =>
    obtain rfl : f = 30 := (Option.some.inj (show some 30 = some f from hg)).symm
    obtain rfl : fn = F_dots_bare_c1 := (AFn.code.inj (Option.some.inj (prog_30.symm.trans hA))).symm
    exact ⟨_, Try.func32, chk32⟩
  | 33, hg =>
    obtain rfl : f = 31 := (Option.some.inj (show some 31 = some f from hg)).symm
    obtain rfl : fn = F_bytes_CutPrefix := (AFn.code.inj (Option.some.inj (prog_31.symm.trans hA))).symm
    exact ⟨_, Try.func33, chk33⟩
  | 34, hg => exact absurd (show (none : Option Nat) = some f from hg) (by simp)
  | 35, hg =>
    obtain rfl : f = 34 := (Option.some.inj (show some 34 = some f from hg)).symm
    obtain rfl : fn = F_bytes_Equal := (AFn.code.inj (Option.some.inj (prog_34.symm.trans hA))).symm
    exact ⟨_, Try.func35, chk35⟩
  | 36, hg => exact absurd (show (none : Option Nat) = some f from hg) (by simp)
  | 37, hg => exact absurd (show (none : Option Nat) = some f from hg) (by simp)
  | 38, hg => exact absurd (show (none : Option Nat) = some f from hg) (by simp)
  | 39, hg =>
    obtain rfl : f = 35 := (Option.some.inj (show some 35 = some f from hg)).symm
    obtain rfl : fn = F_bytes_HasPrefix := (AFn.code.inj (Option.some.inj (prog_35.symm.trans hA))).symm
    exact ⟨_, Try.func39, chk39⟩
  | n + 40, hg => exact absurd (show (none : Option Nat) = some f from hg) (by simp)
set_option maxRecDepth 100000 in
theorem prim_ok : ∀ (f' : FuncId) (f : Nat) (p : List PV → Option PV), gm f' = some f → prog f = some (.prim p) → PrimOK Try.prog gm f' p := by
  intro f' f p hg hA
  match f', hg with
  | 0, hg => exact absurd (show (none : Option Nat) = some f from hg) (by simp)
  | 1, hg => exact absurd (show (none : Option Nat) = some f from hg) (by simp)
  | 2, hg => exact absurd (show (none : Option Nat) = some f from hg) (by simp)
  | 3, hg => exact absurd (show (none : Option Nat) = some f from hg) (by simp)
  | 4, hg => exact absurd (show (none : Option Nat) = some f from hg) (by simp)
  | 5, hg =>
    obtain rfl : f = 13 := (Option.some.inj (show some 13 = some f from hg)).symm
    rw [prog_13] at hA; cases hA
  | 6, hg =>
    obtain rfl : f = 16 := (Option.some.inj (show some 16 = some f from hg)).symm
    rw [prog_16] at hA; cases hA
  | 7, hg =>
    obtain rfl : f = 17 := (Option.some.inj (show some 17 = some f from hg)).symm
    rw [prog_17] at hA; cases hA
  | 8, hg =>
    obtain rfl : f = 2 := (Option.some.inj (show some 2 = some f from hg)).symm
    rw [prog_2] at hA; cases hA
  | 9, hg =>
    obtain rfl : f = 3 := (Option.some.inj (show some 3 = some f from hg)).symm
    rw [prog_3] at hA; cases hA
  | 10, hg => exact absurd (show (none : Option Nat) = some f from hg) (by simp)
  | 11, hg =>
    obtain rfl : f = 5 := (Option.some.inj (show some 5 = some f from hg)).symm
    rw [prog_5] at hA; cases hA
  | 12, hg => exact absurd (show (none : Option Nat) = some f from hg) (by simp)
  | 13, hg =>
    obtain rfl : f = 8 := (Option.some.inj (show some 8 = some f from hg)).symm
    rw [prog_8] at hA; cases hA
  | 14, hg =>
    obtain rfl : f = 10 := (Option.some.inj (show some 10 = some f from hg)).symm
    rw [prog_10] at hA; cases hA
  | 15, hg =>
    obtain rfl : f = 11 := (Option.some.inj (show some 11 = some f from hg)).symm
    rw [prog_11] at hA; cases hA
  | 16, hg =>
    obtain rfl : f = 12 := (Option.some.inj (show some 12 = some f from hg)).symm
    rw [prog_12] at hA; cases hA
  | 17, hg =>
    obtain rfl : f = 14 := (Option.some.inj (show some 14 = some f from hg)).symm
    rw [prog_14] at hA; cases hA
  | 18, hg =>
    obtain rfl : f = 15 := (Option.some.inj (show some 15 = some f from hg)).symm
    rw [prog_15] at hA; cases hA
  | 19, hg =>
    obtain rfl : f = 18 := (Option.some.inj (show some 18 = some f from hg)).symm
    rw [prog_18] at hA; cases hA
  | 20, hg =>
    obtain rfl : f = 19 := (Option.some.inj (show some 19 = some f from hg)).symm
    rw [prog_19] at hA; cases hA
  | 21, hg =>
    obtain rfl : f = 20 := (Option.some.inj (show some 20 = some f from hg)).symm
    rw [prog_20] at hA; cases hA
  | 22, hg =>
    obtain rfl : f = 21 := (Option.some.inj (show some 21 = some f from hg)).symm
    rw [prog_21] at hA; cases hA
  | 23, hg =>
    obtain rfl : f = 22 := (Option.some.inj (show some 22 = some f from hg)).symm
    rw [prog_22] at hA; cases hA
  | 24, hg =>
    obtain rfl : f = 23 := (Option.some.inj (show some 23 = some f from hg)).symm
    rw [prog_23] at hA; cases hA
  | 25, hg =>
    obtain rfl : f = 24 := (Option.some.inj (show some 24 = some f from hg)).symm
    rw [prog_24] at hA; cases hA
  | 26, hg =>
    obtain rfl : f = 25 := (Option.some.inj (show some 25 = some f from hg)).symm
    rw [prog_25] at hA; cases hA
  | 27, hg =>
    obtain rfl : f = 26 := (Option.some.inj (show some 26 = some f from hg)).symm
    rw [prog_26] at hA; cases hA
  | 28, hg =>
    obtain rfl : f = 27 := (Option.some.inj (show some 27 = some f from hg)).symm
    rw [prog_27] at hA; cases hA
  | 29, hg =>
    obtain rfl : f = 32 := (Option.some.inj (show some 32 = some f from hg)).symm
    obtain rfl : p = pBytesIndex := (AFn.prim.inj (Option.some.inj (prog_32.symm.trans hA))).symm
    exact primIndex (g := gm) (ρ := Try.laysM185_ren) { Try.laysM185 with } (fun κ h => h) Try.func29 (by kernel_rfl) (by decide)
  | 30, hg =>
    obtain rfl : f = 28 := (Option.some.inj (show some 28 = some f from hg)).symm
    rw [prog_28] at hA; cases hA
  | 31, hg =>
    obtain rfl : f = 29 := (Option.some.inj (show some 29 = some f from hg)).symm
    rw [prog_29] at hA; cases hA
  | 32, hg =>
    obtain rfl : f = 30 := (Option.some.inj (show some 30 = some f from hg)).symm
    rw [prog_30] at hA; cases hA
  | 33, hg =>
    obtain rfl : f = 31 := (Option.some.inj (show some 31 = some f from hg)).symm
    rw [prog_31] at hA; cases hA
  | 34, hg => exact absurd (show (none : Option Nat) = some f from hg) (by simp)
  | 35, hg =>
    obtain rfl : f = 34 := (Option.some.inj (show some 34 = some f from hg)).symm
    rw [prog_34] at hA; cases hA
  | 36, hg => exact absurd (show (none : Option Nat) = some f from hg) (by simp)
  | 37, hg => exact absurd (show (none : Option Nat) = some f from hg) (by simp)
  | 38, hg => exact absurd (show (none : Option Nat) = some f from hg) (by simp)
  | 39, hg =>
    obtain rfl : f = 35 := (Option.some.inj (show some 35 = some f from hg)).symm
    rw [prog_35] at hA; cases hA
  | n + 40, hg => exact absurd (show (none : Option Nat) = some f from hg) (by simp)
set_option maxRecDepth 100000 in
theorem primS_ok : ∀ (f' : FuncId) (f : Nat) (p : List PV → List (List PV) → Option (PV × Option (PV × PV))), gm f' = some f → prog f = some (.primS p) → PrimSOK Try.prog gm f' p := by
  intro f' f p hg hA
  match f', hg with
  | 0, hg => exact absurd (show (none : Option Nat) = some f from hg) (by simp)
  | 1, hg => exact absurd (show (none : Option Nat) = some f from hg) (by simp)
  | 2, hg => exact absurd (show (none : Option Nat) = some f from hg) (by simp)
  | 3, hg => exact absurd (show (none : Option Nat) = some f from hg) (by simp)
  | 4, hg => exact absurd (show (none : Option Nat) = some f from hg) (by simp)
  | 5, hg =>
    obtain rfl : f = 13 := (Option.some.inj (show some 13 = some f from hg)).symm
    rw [prog_13] at hA; cases hA
  | 6, hg =>
    obtain rfl : f = 16 := (Option.some.inj (show some 16 = some f from hg)).symm
    rw [prog_16] at hA; cases hA
  | 7, hg =>
    obtain rfl : f = 17 := (Option.some.inj (show some 17 = some f from hg)).symm
    rw [prog_17] at hA; cases hA
  | 8, hg =>
    obtain rfl : f = 2 := (Option.some.inj (show some 2 = some f from hg)).symm
    rw [prog_2] at hA; cases hA
  | 9, hg =>
    obtain rfl : f = 3 := (Option.some.inj (show some 3 = some f from hg)).symm
    rw [prog_3] at hA; cases hA
  | 10, hg => exact absurd (show (none : Option Nat) = some f from hg) (by simp)
  | 11, hg =>
    obtain rfl : f = 5 := (Option.some.inj (show some 5 = some f from hg)).symm
    rw [prog_5] at hA; cases hA
  | 12, hg => exact absurd (show (none : Option Nat) = some f from hg) (by simp)
  | 13, hg =>
    obtain rfl : f = 8 := (Option.some.inj (show some 8 = some f from hg)).symm
    rw [prog_8] at hA; cases hA
  | 14, hg =>
    obtain rfl : f = 10 := (Option.some.inj (show some 10 = some f from hg)).symm
    rw [prog_10] at hA; cases hA
  | 15, hg =>
    obtain rfl : f = 11 := (Option.some.inj (show some 11 = some f from hg)).symm
    rw [prog_11] at hA; cases hA
  | 16, hg =>
    obtain rfl : f = 12 := (Option.some.inj (show some 12 = some f from hg)).symm
    rw [prog_12] at hA; cases hA
  | 17, hg =>
    obtain rfl : f = 14 := (Option.some.inj (show some 14 = some f from hg)).symm
    rw [prog_14] at hA; cases hA
  | 18, hg =>
    obtain rfl : f = 15 := (Option.some.inj (show some 15 = some f from hg)).symm
    rw [prog_15] at hA; cases hA
  | 19, hg =>
    obtain rfl : f = 18 := (Option.some.inj (show some 18 = some f from hg)).symm
    rw [prog_18] at hA; cases hA
  | 20, hg =>
    obtain rfl : f = 19 := (Option.some.inj (show some 19 = some f from hg)).symm
    rw [prog_19] at hA; cases hA
  | 21, hg =>
    obtain rfl : f = 20 := (Option.some.inj (show some 20 = some f from hg)).symm
    rw [prog_20] at hA; cases hA
  | 22, hg =>
    obtain rfl : f = 21 := (Option.some.inj (show some 21 = some f from hg)).symm
    rw [prog_21] at hA; cases hA
  | 23, hg =>
    obtain rfl : f = 22 := (Option.some.inj (show some 22 = some f from hg)).symm
    rw [prog_22] at hA; cases hA
  | 24, hg =>
    obtain rfl : f = 23 := (Option.some.inj (show some 23 = some f from hg)).symm
    rw [prog_23] at hA; cases hA
  | 25, hg =>
    obtain rfl : f = 24 := (Option.some.inj (show some 24 = some f from hg)).symm
    rw [prog_24] at hA; cases hA
  | 26, hg =>
    obtain rfl : f = 25 := (Option.some.inj (show some 25 = some f from hg)).symm
    rw [prog_25] at hA; cases hA
  | 27, hg =>
    obtain rfl : f = 26 := (Option.some.inj (show some 26 = some f from hg)).symm
    rw [prog_26] at hA; cases hA
  | 28, hg =>
    obtain rfl : f = 27 := (Option.some.inj (show some 27 = some f from hg)).symm
    rw [prog_27] at hA; cases hA
  | 29, hg =>
    obtain rfl : f = 32 := (Option.some.inj (show some 32 = some f from hg)).symm
    rw [prog_32] at hA; cases hA
  | 30, hg =>
    obtain rfl : f = 28 := (Option.some.inj (show some 28 = some f from hg)).symm
    rw [prog_28] at hA; cases hA
  | 31, hg =>
    obtain rfl : f = 29 := (Option.some.inj (show some 29 = some f from hg)).symm
    rw [prog_29] at hA; cases hA
  | 32, hg =>
    obtain rfl : f = 30 := (Option.some.inj (show some 30 = some f from hg)).symm
    rw [prog_30] at hA; cases hA
  | 33, hg =>
    obtain rfl : f = 31 := (Option.some.inj (show some 31 = some f from hg)).symm
    rw [prog_31] at hA; cases hA
  | 34, hg => exact absurd (show (none : Option Nat) = some f from hg) (by simp)
  | 35, hg =>
    obtain rfl : f = 34 := (Option.some.inj (show some 34 = some f from hg)).symm
    rw [prog_34] at hA; cases hA
  | 36, hg => exact absurd (show (none : Option Nat) = some f from hg) (by simp)
  | 37, hg => exact absurd (show (none : Option Nat) = some f from hg) (by simp)
  | 38, hg => exact absurd (show (none : Option Nat) = some f from hg) (by simp)
  | 39, hg =>
    obtain rfl : f = 35 := (Option.some.inj (show some 35 = some f from hg)).symm
    rw [prog_35] at hA; cases hA
  | n + 40, hg => exact absurd (show (none : Option Nat) = some f from hg) (by simp)
theorem linked : Linked Try.prog gm prog := ⟨code_ok, prim_ok, primS_ok, by kernel_rfl⟩
end Go.Ab.Ytemnjmphkmokmaa
